/- The maker of steps: values, conditions, the plain statements' steps. The maker of steps: a statement: the words for the walk, and the plain kinds. The maker of steps: a block, on the statements' contract. The maker of steps: 'if' and 'repeat'. The maker of steps: 'repeat'; and all statements, all blocks. Laws of 'for k, v := range m' over a map keyed by integers that the loop does not write. Over any program. code.Of: a policy as a program. An engine in memory. errors.Is over this program's errors: a *Fault that wraps a sentinel, a bare sentinel. After the worked text SentryIs. Conditions: none. -/
import Derived.Outline
import Derived.Maps.RangeRun
import Derived.StillTail
import Derived.BigQuiet
import Derived.Deep.RegionWith
import Derived.Deep.RegionHeld3
import Derived.ScopeJumps
import Derived.WalkMore
import Derived.LaidEql
import Derived.Stop.Asserts
import Derived.RowKitTokens
import Derived.LoopN
import Derived.Test.YtemppijblfflgabGreatDoorZt01
import Derived.Test.YtemppijblfflgabGreatDoorZt02
import Derived.Test.YtemppijblfflgabGreatDoorZt04
import Derived.Test.YtemppijblfflgabGreatDoorZt08
set_option linter.all false
namespace Go.Proofs.YtemppijblfflgabGreatDoor.Ev
open Go Go.RowKit

/-- What a call of the maker's comes to: the steps are these now. -/
def OutM (S : Nat → Prop) (w : World) (gm gg gp bm loops : Nat) (code : List Ins) (e : Ending) (w' : World) : Prop :=
  e = .returned (.tuple #[]) ∧ Kept S w w' ∧ ∃ vl, MkR S w' gm gg gp bm vl loops code

section
variable {S : Nat → Prop} {w w' : World} {gm gg gp bm loops : Nat} {vl : Value} {code : List Ins}

theorem MkR.alloc (h : MkR S w gm gg gp bm vl loops code) (o : Obj) : MkR S (w.alloc o) gm gg gp bm vl loops code :=
  ⟨h.row.alloc o, h.prog.alloc o, h.l.alloc o, h.sm, h.sg⟩
theorem Up.alloc {w : World} (h : Up S w) (o : Obj) : Up S (w.alloc o) := fun b hb => h b (Nat.le_trans (by simp) hb)

/-- 'put', with its step written out. -/
theorem put_of (h : MkR S w gm gg gp bm vl loops code) (hS : Up S w) (hn : code.length ≤ 1000000) (i : Ins) {op a b : Int} (h1 : op = (i.op : Int)) (h2 : a = i.a) (h3 : b = i.b) :
    Calls Tryz.prog 83 #[.pointer (some ⟨gm, 0, none⟩), .agg #[.int .u8 op, .int .i64 a, .int .i64 b]] w fun e w' =>
      e = .returned (.int .i64 code.length) ∧ Kept S w w' ∧ ∃ vl, MkR S w' gm gg gp bm vl loops (code ++ [i]) := by
  subst h1 h2 h3
  exact put_any h hS hn i

set_option maxRecDepth 100000 in
set_option maxHeartbeats 1000000 in
theorem value_mk (h : MkR S w gm gg gp bm vl loops code) (hS : Up S w) (hn : code.length ≤ 1000000) (v : Val) :
    Calls Tryz.prog 149 #[.pointer (some ⟨gm, 0, none⟩), .agg (encVal v).toArray] w fun e w' => OutM S w gm gg gp bm loops (code ++ [compVal v]) e w' := by
  have ha := h.alloc (.cells (encVal v).toArray 216)
  have hk := (Kept.refl S w).alloc (hS _ (Nat.le_refl _)) (.cells (encVal v).toArray 216)
  have hu := hS.alloc (.cells (encVal v).toArray 216)
  obtain ⟨i, hi⟩ : ∃ i, i = compVal v := ⟨_, rfl⟩
  rw [← hi]
  have HK := Lib.hid hk
  have HA := Lib.hid ha
  have HU := Lib.hid hu
  have HI := Lib.hid hi
  clear h ha hk hu hi
  cases v
  all_goals
    unfold encVal vs at *
    simp only [valWord, valNum] at *
    go_enter Tryz.func149, Tryz.ntmps149
    go_wp2_with fail
    refine (put_of HA.out HU.out hn i (by rw [HI.out]; rfl) (by rw [HI.out]; rfl) (by rw [HI.out]; rfl)).mono ?_
    rintro e w2 ⟨rfl, hk2, vl2, h2⟩
    have F := Lib.hid (And.intro hk2 h2)
    clear hk2 h2
    go_wp2
    refine bodyPost_end (results_none rfl _ _ _) rfl ?_
    exact ⟨rfl, HK.out.trans F.out.1, _, F.out.2⟩

/-- All of S but one block. -/
abbrev But (S : Nat → Prop) (k : Nat) : Nat → Prop := fun b => S b ∧ b ≠ k

theorem MkR.mono {S' : Nat → Prop} (h : MkR S w gm gg gp bm vl loops code) (hS : ∀ b, S b → S' b) : MkR S' w gm gg gp bm vl loops code :=
  ⟨h.row, h.prog, h.l.mono hS, hS _ h.sm, hS _ h.sg⟩
theorem MkR.but (h : MkR S w gm gg gp bm vl loops code) (o : Obj) : MkR (But S w.heap.size) (w.alloc o) gm gg gp bm vl loops code :=
  ⟨h.row.alloc o, h.prog.alloc o, ⟨(h.l.alloc o).1, fun g hg => ⟨h.l.2 g hg, fun e => by have := h.l.lt hg; omega⟩⟩, ⟨h.sm, fun e => by have := h.row.lt; omega⟩, ⟨h.sg, fun e => by have := h.prog.lt; omega⟩⟩
theorem Up.but (h : Up S w) (o : Obj) : Up (But S w.heap.size) (w.alloc o) := fun b hb => by
  have : (w.alloc o).heap.size = w.heap.size + 1 := by simp
  exact ⟨h b (by omega), by omega⟩
/-- The maker in the midst of a call: beside a block K of its own, that stands. -/
structure HeldM (S : Nat → Prop) (w0 w : World) (gm gg gp bm loops : Nat) (code : List Ins) (K : Nat) (t : TypeId) (cs : List Value) : Prop where
  mr : ∃ vl, MkR (But S K) w gm gg gp bm vl loops code
  up : Up (But S K) w
  row : Row w K t cs
  kept : Kept S w0 w

section
variable {w0 : World} {loops0 K : Nat} {t : TypeId} {cs : List Value}
theorem HeldM.start (h : MkR S w gm gg gp bm vl loops code) (hS : Up S w) (t : TypeId) (cs : List Value) : HeldM S w (w.alloc (.cells cs.toArray t)) gm gg gp bm loops code w.heap.size t cs :=
  ⟨⟨_, h.but _⟩, hS.but _, Row.new w t cs, (Kept.refl S w).alloc (hS _ (Nat.le_refl _)) _⟩
theorem HeldM.call {loops' : Nat} {code' : List Ins} (h : HeldM S w0 w gm gg gp bm loops code K t cs) (hk : Kept (But S K) w w') (hm : ∃ vl, MkR (But S K) w' gm gg gp bm vl loops' code') : HeldM S w0 w' gm gg gp bm loops' code' K t cs :=
  ⟨hm, h.up.kept hk, h.row.kept hk (fun e => e.2 rfl), h.kept.trans (hk.mono (fun b hb => hb.1))⟩
theorem HeldM.out (h : HeldM S w0 w gm gg gp bm loops code K t cs) : OutM S w0 gm gg gp bm loops code (.returned (.tuple #[])) w := by
  obtain ⟨vl, h1⟩ := h.mr
  exact ⟨rfl, h.kept, vl, h1.mono (fun b hb => hb.1)⟩
/-- 'put', held. -/
theorem HeldM.put (h : HeldM S w0 w gm gg gp bm loops code K t cs) (hn : code.length ≤ 1000000) (i : Ins) {op a b : Int} (h1 : op = (i.op : Int)) (h2 : a = i.a) (h3 : b = i.b) :
    Calls Tryz.prog 83 #[.pointer (some ⟨gm, 0, none⟩), .agg #[.int .u8 op, .int .i64 a, .int .i64 b]] w fun e w' =>
      e = .returned (.int .i64 code.length) ∧ HeldM S w0 w' gm gg gp bm loops (code ++ [i]) K t cs := by
  obtain ⟨vl, hm⟩ := h.mr
  refine (put_of hm h.up hn i h1 h2 h3).mono ?_
  rintro e w' ⟨he, hk, hm'⟩
  exact ⟨he, h.call hk hm'⟩
theorem HeldM.value (h : HeldM S w0 w gm gg gp bm loops code K t cs) (hn : code.length ≤ 1000000) (v : Val) :
    Calls Tryz.prog 149 #[.pointer (some ⟨gm, 0, none⟩), .agg (encVal v).toArray] w fun e w' =>
      e = .returned (.tuple #[]) ∧ HeldM S w0 w' gm gg gp bm loops (code ++ [compVal v]) K t cs := by
  obtain ⟨vl, hm⟩ := h.mr
  refine (value_mk hm h.up hn v).mono ?_
  rintro e w' ⟨he, hk, hm'⟩
  exact ⟨he, h.call hk hm'⟩
end

theorem cells7m {t : TypeId} {C : Nat} {d0 d1 d2 d3 d4 d5 d6 : Value} (h : Row w C t [d0, d1, d2, d3, d4, d5, d6]) :
    w.cell? ⟨C, 0, none⟩ = some d0 ∧ w.cell? ⟨C, 1, none⟩ = some d1 ∧ w.cell? ⟨C, 2, none⟩ = some d2 ∧ w.cell? ⟨C, 3, none⟩ = some d3 ∧ w.cell? ⟨C, 4, none⟩ = some d4 ∧ w.cell? ⟨C, 5, none⟩ = some d5 ∧ w.cell? ⟨C, 6, none⟩ = some d6 :=
  ⟨h.cell 0, h.cell 1, h.cell 2, h.cell 3, h.cell 4, h.cell 5, h.cell 6⟩

set_option maxRecDepth 100000 in
set_option maxHeartbeats 2000000 in
theorem mkcond_less (h : MkR S w gm gg gp bm vl loops code) (hS : Up S w) (hn : code.length ≤ 900000) (a b : Val) (n : Nat) :
    Calls Tryz.prog 137 #[.pointer (some ⟨gm, 0, none⟩), .agg (encCond ⟨.less a b, n⟩).toArray] w fun e w' => OutM S w gm gg gp bm loops (code ++ compCond ⟨.less a b, n⟩) e w' := by
  have h0 := HeldM.start h hS 218 (encCond ⟨.less a b, n⟩)
  have hv := h0.value (by omega) a
  have H0 := Lib.hid h0
  have HV := Lib.hid hv
  clear h0 hv h hS
  unfold encCond encVal vs at *
  simp only [ckWord, ckNum, ckVals, encVal, vs, List.cons_append, List.nil_append] at *
  go_enter Tryz.func137, Tryz.ntmps137
  go_wp2_with fail
  refine HV.out.mono ?_
  rintro e w1 ⟨rfl, h1⟩
  obtain ⟨d0, d1, d2, d3, d4, d5, d6⟩ := cells7m h1.row
  have hv := h1.value (by simp; omega) b
  have HV1 := Lib.hid hv
  clear hv h1
  unfold encVal vs at *
  go_wp2_with fail
  refine HV1.out.mono ?_
  rintro e w2 ⟨rfl, h2⟩
  clear d0 d1 d2 d3 d4 d5 d6
  have H2 := Lib.hid h2
  clear h2
  go_wp2_with fail
  refine (H2.out.put (by first | omega | (simp; omega)) .less rfl rfl rfl).mono ?_
  rintro e w3 ⟨rfl, h3⟩
  have d6 := h3.row.cell 6
  have H3 := Lib.hid h3
  clear h3
  simp at d6
  cases ho : oddB n with
  | true =>
    rw [ho] at d6
    have hfin : code ++ compCond ⟨.less a b, n⟩ = code ++ [compVal a] ++ [compVal b] ++ [.less] ++ [.not] := by
      unfold oddB at ho; simp [compCond, compCK, ho]
    have HFI := Lib.hid hfin
    clear ho hfin
    go_wp2_with fail
    refine (H3.out.put (by first | omega | (simp; omega)) .not rfl rfl rfl).mono ?_
    rintro e w4 ⟨rfl, h4⟩
    have H4 := Lib.hid h4
    clear h4
    go_wp2
    refine bodyPost_end (results_none rfl _ _ _) rfl ?_
    rw [HFI.out]
    exact H4.out.out
  | false =>
    rw [ho] at d6
    have hfin : code ++ compCond ⟨.less a b, n⟩ = code ++ [compVal a] ++ [compVal b] ++ [.less] := by
      unfold oddB at ho; simp [compCond, compCK, ho]
    have HFI := Lib.hid hfin
    clear ho hfin
    go_wp2
    refine bodyPost_end (results_none rfl _ _ _) rfl ?_
    rw [HFI.out]
    exact H3.out.out

set_option maxRecDepth 100000 in
set_option maxHeartbeats 2000000 in
theorem mkcond_full (h : MkR S w gm gg gp bm vl loops code) (hS : Up S w) (hn : code.length ≤ 900000) (q : Int) (n : Nat) :
    Calls Tryz.prog 137 #[.pointer (some ⟨gm, 0, none⟩), .agg (encCond ⟨.full q, n⟩).toArray] w fun e w' => OutM S w gm gg gp bm loops (code ++ compCond ⟨.full q, n⟩) e w' := by
  have h0 := HeldM.start h hS 218 (encCond ⟨.full q, n⟩)
  have H0 := Lib.hid h0
  clear h0 h hS
  unfold encCond vs at *
  simp only [ckWord, ckNum, ckVals, vs, List.cons_append, List.nil_append] at *
  go_enter Tryz.func137, Tryz.ntmps137
  go_wp2_with fail
  refine (H0.out.put (by first | omega | (simp; omega)) (.full q) rfl rfl rfl).mono ?_
  rintro e w1 ⟨rfl, h1⟩
  have H1 := Lib.hid h1
  clear h1
  have d6 := H1.out.row.cell 6
  simp at d6
  cases ho : oddB n with
  | true =>
    rw [ho] at d6
    have hfin : code ++ compCond ⟨.full q, n⟩ = code ++ [(.full q)] ++ [.not] := by
      unfold oddB at ho; simp [compCond, compCK, ho]
    have HFI := Lib.hid hfin
    clear ho hfin
    go_wp2_with fail
    refine (H1.out.put (by first | omega | (simp; omega)) .not rfl rfl rfl).mono ?_
    rintro e w9 ⟨rfl, h9⟩
    have H9 := Lib.hid h9
    clear h9
    go_wp2
    refine bodyPost_end (results_none rfl _ _ _) rfl ?_
    rw [HFI.out]
    exact H9.out.out
  | false =>
    rw [ho] at d6
    have hfin : code ++ compCond ⟨.full q, n⟩ = code ++ [(.full q)] := by
      unfold oddB at ho; simp [compCond, compCK, ho]
    have HFI := Lib.hid hfin
    clear ho hfin
    go_wp2
    refine bodyPost_end (results_none rfl _ _ _) rfl ?_
    rw [HFI.out]
    exact H1.out.out

set_option maxRecDepth 100000 in
set_option maxHeartbeats 2000000 in
theorem mkcond_warm (h : MkR S w gm gg gp bm vl loops code) (hS : Up S w) (hn : code.length ≤ 900000) (q : Int) (n : Nat) :
    Calls Tryz.prog 137 #[.pointer (some ⟨gm, 0, none⟩), .agg (encCond ⟨.warm q, n⟩).toArray] w fun e w' => OutM S w gm gg gp bm loops (code ++ compCond ⟨.warm q, n⟩) e w' := by
  have h0 := HeldM.start h hS 218 (encCond ⟨.warm q, n⟩)
  have H0 := Lib.hid h0
  clear h0 h hS
  unfold encCond vs at *
  simp only [ckWord, ckNum, ckVals, vs, List.cons_append, List.nil_append] at *
  go_enter Tryz.func137, Tryz.ntmps137
  go_wp2_with fail
  refine (H0.out.put (by first | omega | (simp; omega)) (.warm q) rfl rfl rfl).mono ?_
  rintro e w1 ⟨rfl, h1⟩
  have H1 := Lib.hid h1
  clear h1
  have d6 := H1.out.row.cell 6
  simp at d6
  cases ho : oddB n with
  | true =>
    rw [ho] at d6
    have hfin : code ++ compCond ⟨.warm q, n⟩ = code ++ [(.warm q)] ++ [.not] := by
      unfold oddB at ho; simp [compCond, compCK, ho]
    have HFI := Lib.hid hfin
    clear ho hfin
    go_wp2_with fail
    refine (H1.out.put (by first | omega | (simp; omega)) .not rfl rfl rfl).mono ?_
    rintro e w9 ⟨rfl, h9⟩
    have H9 := Lib.hid h9
    clear h9
    go_wp2
    refine bodyPost_end (results_none rfl _ _ _) rfl ?_
    rw [HFI.out]
    exact H9.out.out
  | false =>
    rw [ho] at d6
    have hfin : code ++ compCond ⟨.warm q, n⟩ = code ++ [(.warm q)] := by
      unfold oddB at ho; simp [compCond, compCK, ho]
    have HFI := Lib.hid hfin
    clear ho hfin
    go_wp2
    refine bodyPost_end (results_none rfl _ _ _) rfl ?_
    rw [HFI.out]
    exact H1.out.out

set_option maxRecDepth 100000 in
set_option maxHeartbeats 2000000 in
theorem mkcond_empty (h : MkR S w gm gg gp bm vl loops code) (hS : Up S w) (hn : code.length ≤ 900000) (q : Int) (n : Nat) :
    Calls Tryz.prog 137 #[.pointer (some ⟨gm, 0, none⟩), .agg (encCond ⟨.empty q, n⟩).toArray] w fun e w' => OutM S w gm gg gp bm loops (code ++ compCond ⟨.empty q, n⟩) e w' := by
  have h0 := HeldM.start h hS 218 (encCond ⟨.empty q, n⟩)
  have H0 := Lib.hid h0
  clear h0 h hS
  unfold encCond vs at *
  simp only [ckWord, ckNum, ckVals, vs, List.cons_append, List.nil_append] at *
  go_enter Tryz.func137, Tryz.ntmps137
  go_wp2_with fail
  refine (H0.out.put (by first | omega | (simp; omega)) (.len q) rfl rfl rfl).mono ?_
  rintro e w1 ⟨rfl, h1⟩
  have H1 := Lib.hid h1
  clear h1
  go_wp2_with fail
  refine (H1.out.put (by first | omega | (simp; omega)) (.num 1) rfl rfl rfl).mono ?_
  rintro e w2 ⟨rfl, h2⟩
  have H2 := Lib.hid h2
  clear h2
  go_wp2_with fail
  refine (H2.out.put (by first | omega | (simp; omega)) .less rfl rfl rfl).mono ?_
  rintro e w3 ⟨rfl, h3⟩
  have H3 := Lib.hid h3
  clear h3
  have d6 := H3.out.row.cell 6
  simp at d6
  cases ho : oddB n with
  | true =>
    rw [ho] at d6
    have hfin : code ++ compCond ⟨.empty q, n⟩ = code ++ [(.len q)] ++ [(.num 1)] ++ [.less] ++ [.not] := by
      unfold oddB at ho; simp [compCond, compCK, ho]
    have HFI := Lib.hid hfin
    clear ho hfin
    go_wp2_with fail
    refine (H3.out.put (by first | omega | (simp; omega)) .not rfl rfl rfl).mono ?_
    rintro e w9 ⟨rfl, h9⟩
    have H9 := Lib.hid h9
    clear h9
    go_wp2
    refine bodyPost_end (results_none rfl _ _ _) rfl ?_
    rw [HFI.out]
    exact H9.out.out
  | false =>
    rw [ho] at d6
    have hfin : code ++ compCond ⟨.empty q, n⟩ = code ++ [(.len q)] ++ [(.num 1)] ++ [.less] := by
      unfold oddB at ho; simp [compCond, compCK, ho]
    have HFI := Lib.hid hfin
    clear ho hfin
    go_wp2
    refine bodyPost_end (results_none rfl _ _ _) rfl ?_
    rw [HFI.out]
    exact H3.out.out

theorem cond_mk (h : MkR S w gm gg gp bm vl loops code) (hS : Up S w) (hn : code.length ≤ 900000) (c : Cond) :
    Calls Tryz.prog 137 #[.pointer (some ⟨gm, 0, none⟩), .agg (encCond c).toArray] w fun e w' => OutM S w gm gg gp bm loops (code ++ compCond c) e w' := by
  obtain ⟨k, n⟩ := c
  cases k with
  | full q => exact mkcond_full h hS hn q n
  | empty q => exact mkcond_empty h hS hn q n
  | warm q => exact mkcond_warm h hS hn q n
  | less a b => exact mkcond_less h hS hn a b n

/-- The two steps of a plain statement's word. -/
def plainOps : Prim → Int × Int
  | .put _ _ => (0, 1)
  | .shift _ _ _ => (3, 4)
  | .evict _ => (2, 2)
  | .cool _ => (8, 8)
  | .drop => (5, 5)
  | _ => (7, 7)
set_option maxRecDepth 100000 in
set_option maxHeartbeats 1000000 in
theorem plain_any (p : Prim) (w : World) (hp : ∀ v, p ≠ .inc v ∧ p ≠ .dec v) : Calls Tryz.prog 138 #[vs (primWord p)] w fun e w' => e = .returned (.tuple #[.int .u8 (plainOps p).1, .int .u8 (plainOps p).2]) ∧ w' = w := by
  unfold vs
  cases p
  case inc v => exact absurd rfl (hp v).1
  case dec v => exact absurd rfl (hp v).2
  all_goals
    clear hp
    unfold primWord
    go_enter Tryz.func138, Tryz.ntmps138
    go_wp2
    refine bodyPost_ret (results_tmp2 Tryz.results138 _ _ _) rfl ?_
    exact ⟨rfl, rfl⟩
end
end Go.Proofs.YtemppijblfflgabGreatDoor.Ev
namespace Go.Proofs.YtemppijblfflgabGreatDoor.Ev
open Go Go.RowKit

/-- No other branch is written down where there is none. -/
def Tidy : Blk → Prop
  | .nil => True
  | .prim _ r => Tidy r
  | .ite _ t o e r => Tidy t ∧ Tidy e ∧ Tidy r ∧ (o = false → e = .nil)
  | .rep _ _ b r => Tidy b ∧ Tidy r

theorem app_loops : ∀ (a b : Blk), (a.app b).loops = a.loops + b.loops
  | .nil, b => by simp [Blk.app, Blk.loops]
  | .prim p r, b => by simp [Blk.app, Blk.loops, app_loops r b]
  | .ite c t o e r, b => by simp [Blk.app, Blk.loops, app_loops r b]; omega
  | .rep n c x r, b => by simp [Blk.app, Blk.loops, app_loops r b]; omega

theorem comp_app : ∀ (a b : Blk) (c o : Nat), Tidy a → comp c o (a.app b) = comp c o a ++ comp (c + a.loops) (o + (comp c o a).length) b
  | .nil, b, c, o, _ => by simp [Blk.app, comp, Blk.loops]
  | .prim p r, b, c, o, h => by
    have ih := comp_app r b c (o + 1) h
    simp only [Blk.app, comp, Blk.loops, List.cons_append, List.length_cons, ih]
    rw [show o + ((comp c (o + 1) r).length + 1) = o + 1 + (comp c (o + 1) r).length by omega]
  | .ite k t o' e r, b, c, o, h => by
    cases o' with
    | true =>
      have ih := fun x y => comp_app r b x y h.2.2.1
      simp only [Blk.app, comp, Blk.loops, if_true]
      rw [ih]
      simp only [List.append_assoc, List.cons_append, List.length_append, List.length_cons]
      simp only [Nat.add_assoc, Nat.add_comm, Nat.add_left_comm]
    | false =>
      have he := h.2.2.2 rfl
      subst he
      have ih := fun x y => comp_app r b x y h.2.2.1
      simp only [Blk.app, comp, Blk.loops, Bool.false_eq_true, if_false, Nat.add_zero]
      rw [ih]
      simp only [List.append_assoc, List.cons_append, List.length_append, List.length_cons]
      simp only [Nat.add_assoc, Nat.add_comm, Nat.add_left_comm]
  | .rep n k x r, b, c, o, h => by
    have ih := fun y z => comp_app r b y z h.2
    simp only [Blk.app, comp, Blk.loops]
    rw [ih]
    simp only [List.append_assoc, List.cons_append, List.length_append, List.length_cons]
    congr 8
    · omega
    · omega

theorem compCond_len (c : Cond) : (compCond c).length ≤ 4 := by
  unfold compCond
  have : (compCK c.k).length ≤ 3 := by cases c.k <;> simp [compCK]
  split <;> simp <;> omega

theorem comp_len : ∀ (b : Blk) (c o : Nat), (comp c o b).length ≤ 8 * b.size
  | .nil, c, o => by simp [comp]
  | .prim p r, c, o => by
    have := comp_len r c (o + 1)
    simp only [comp, Blk.size, List.length_cons]; omega
  | .ite k t o' e r, c, o => by
    have h0 := compCond_len k
    have h1 := fun x y => comp_len t x y
    have h2 := fun x y => comp_len e x y
    have h3 := fun x y => comp_len r x y
    simp only [comp, Blk.size]
    split
    · simp only [List.length_append, List.length_cons]
      have a := h1 c (o + (compCond k).length + 1)
      have b := h2 (c + t.loops) (o + (compCond k).length + 1 + (comp c (o + (compCond k).length + 1) t).length + 1)
      have d := h3 (c + t.loops + e.loops) (o + (compCond k).length + 1 + (comp c (o + (compCond k).length + 1) t).length + 1 + (comp (c + t.loops) (o + (compCond k).length + 1 + (comp c (o + (compCond k).length + 1) t).length + 1) e).length)
      omega
    · simp only [List.length_append, List.length_cons]
      have a := h1 c (o + (compCond k).length + 1)
      have d := h3 (c + t.loops) (o + (compCond k).length + 1 + (comp c (o + (compCond k).length + 1) t).length)
      omega
  | .rep n k x r, c, o => by
    have h0 := compCond_len k
    have h1 := fun y z => comp_len x y z
    have h3 := fun y z => comp_len r y z
    simp only [comp, Blk.size, List.length_append, List.length_cons]
    have a := h1 (c + 1) (o + 2 + (compCond k).length + 1)
    have d := h3 (c + 1 + x.loops) (o + 2 + (compCond k).length + 1 + (comp (c + 1) (o + 2 + (compCond k).length + 1) x).length + 1)
    omega

section
variable {S : Nat → Prop} {w w' : World} {gm gg gp bm loops : Nat} {vl : Value} {code : List Ins}

/-- A step is turned in its place. -/
theorem MkR.turn {gl n cap : Nat} (h : MkR S w gm gg gp bm (.slice (some ⟨gl, 0, none⟩) n cap) loops code) (hn : n = code.length) {k j : Nat} {i0 i : Ins} {u : Value} (hk : code[k]? = some i0) (hj : j < 3) (he : encStep i = (encStep i0).set j u) :
    Kept S w (w.setCell ⟨gl, k * 3 + j, none⟩ u) ∧ MkR S (w.setCell ⟨gl, k * 3 + j, none⟩ u) gm gg gp bm (.slice (some ⟨gl, 0, none⟩) n cap) loops (code.set k i) := by
  subst hn
  have hkp : Kept (fun b => b = gl) w (w.setCell ⟨gl, k * 3 + j, none⟩ u) := Kept.one w ⟨gl, k * 3 + j, none⟩ u
  obtain ⟨cs, hr⟩ := h.l.row rfl
  have hs := h.l.set_ (fun _ => rfl) hk hj he
  rw [List.length_set] at hs
  refine ⟨hkp.mono (fun b hb => hb ▸ h.l.2 gl rfl), h.row.kept hkp (h.row.ne_ hr (by decide)), h.prog.kept hkp (h.prog.ne_ hr (by decide)), ?_, h.sm, h.sg⟩
  rw [List.length_set]
  exact hs

set_option maxRecDepth 100000 in
set_option maxHeartbeats 2000000 in
theorem prim_mk (h : MkR S w gm gg gp bm vl loops code) (hS : Up S w) (hn : code.length ≤ 900000) (p : Prim) :
    Calls Tryz.prog 123 #[.pointer (some ⟨gm, 0, none⟩), .agg (encPrim p).toArray] w fun e w' => OutM S w gm gg gp bm loops (code ++ [.prim p]) e w' := by
  have h0 := HeldM.start h hS 220 (encPrim p)
  obtain ⟨d0, d1, d2, d3, _⟩ := cells13 h0.row
  have hpl := fun (x : ∀ v, p ≠ .inc v ∧ p ≠ .dec v) w => plain_any p w x
  obtain ⟨i, hi⟩ : ∃ i, i = Ins.prim p := ⟨_, rfl⟩
  rw [← hi]
  have H0 := Lib.hid h0
  have HI := Lib.hid hi
  have HP := Lib.hid hpl
  clear h0 h hS hi hpl
  cases p
  case inc v =>
    clear d0 d1 d2 d3
    simp only [encPrim, primWord, primN, primM, primTail, noCond, vnil, vs, List.cons_append, List.nil_append] at *
    go_enter Tryz.func123, Tryz.ntmps123
    go_wp2_with fail
    refine (H0.out.put (by omega) i (by rw [HI.out]; rfl) (by rw [HI.out]; rfl) (by rw [HI.out]; rfl)).mono ?_
    rintro e w2 ⟨rfl, h2⟩
    have F := Lib.hid h2
    clear h2
    go_wp2
    refine bodyPost_end (results_none rfl _ _ _) rfl ?_
    exact F.out.out
  case dec v =>
    clear d0 d1 d2 d3
    simp only [encPrim, primWord, primN, primM, primTail, noCond, vnil, vs, List.cons_append, List.nil_append] at *
    go_enter Tryz.func123, Tryz.ntmps123
    go_wp2_with fail
    refine (H0.out.put (by omega) i (by rw [HI.out]; rfl) (by rw [HI.out]; rfl) (by rw [HI.out]; rfl)).mono ?_
    rintro e w2 ⟨rfl, h2⟩
    have F := Lib.hid h2
    clear h2
    go_wp2
    refine bodyPost_end (results_none rfl _ _ _) rfl ?_
    exact F.out.out
  all_goals
    clear d0 d1 d2 d3
    simp only [encPrim, primWord, primN, primM, primTail, noCond, vnil, vs, List.cons_append, List.nil_append] at *
    go_enter Tryz.func123, Tryz.ntmps123
    go_wp2_with fail
    refine (HP.out (fun v => ⟨by simp, by simp⟩) _).mono ?_
    rintro e w2 ⟨rfl, rfl⟩
    simp only [plainOps]
    try cases ‹Bool›
  all_goals
    go_wp2_with fail
    refine (H0.out.put (by omega) i (by rw [HI.out]; rfl) (by rw [HI.out]; rfl) (by rw [HI.out]; rfl)).mono ?_
    rintro e w2 ⟨rfl, h2⟩
    have F := Lib.hid h2
    clear h2
    go_wp2
    refine bodyPost_end (results_none rfl _ _ _) rfl ?_
    exact F.out.out
end
end Go.Proofs.YtemppijblfflgabGreatDoor.Ev
namespace Go.Proofs.YtemppijblfflgabGreatDoor.Ev
open Go Go.RowKit

theorem vnil_form : ∃ a n c, vnil = .slice a n c := ⟨none, 0, 0, rfl⟩

theorem StmtsR.part {N : Nat → Prop} {w : World} : ∀ (b : Blk) (cs : List Value), b ≠ .nil → StmtsR N w b cs → ∃ x tl csx cst, b = x.app tl ∧ x.length = 1 ∧ cs = csx ++ cst ∧ StF csx ∧ StmtsR N w x csx ∧ StmtsR N w tl cst ∧ b.length = tl.length + 1 ∧ x.size + tl.size = b.size
  | .nil, cs, h, _ => absurd rfl h
  | .prim p r, cs, _, ⟨rest, h1, h2⟩ =>
    ⟨.prim p .nil, r, encPrim p, rest, rfl, rfl, h1, ⟨_, _, _, _, _, _, _, _, _, _, _, _, _, _, _, _, _, rfl⟩, ⟨[], by simp, rfl⟩, h2, by simp [Blk.length], by simp [Blk.size]⟩
  | .ite c t o e r, cs, _, ⟨vt, ve, rest, h1, ht, he, hr⟩ => by
    obtain ⟨ct, ⟨_, gt, capt, hvt⟩, _⟩ := id ht
    have hve : ∃ a n c, ve = .slice a n c := by
      cases o with
      | true =>
        rw [if_pos rfl] at he
        obtain ⟨ce, ⟨_, ge, cape, hve⟩, _⟩ := he
        exact ⟨_, _, _, hve⟩
      | false =>
        rw [if_neg Bool.false_ne_true] at he
        exact he.1 ▸ vnil_form
    obtain ⟨a2, n2, c2, hve⟩ := hve
    obtain ⟨b0, n1, b2, n3, hv⟩ := ckVals_form c.k
    refine ⟨.ite c t o e .nil, r, encIf c vt ve, rest, rfl, rfl, h1, ?_, ⟨vt, ve, [], by simp, ht, he, rfl⟩, hr, by simp [Blk.length], by simp [Blk.size]; try omega⟩
    unfold encIf encCond
    rw [hv, hvt, hve]
    exact ⟨_, _, _, _, _, _, _, _, _, _, _, _, _, _, _, _, _, rfl⟩
  | .rep n c b r, cs, _, ⟨vt, rest, h1, ht, hr⟩ => by
    obtain ⟨ct, ⟨_, gt, capt, hvt⟩, _⟩ := id ht
    obtain ⟨b0, n1, b2, n3, hv⟩ := ckVals_form c.k
    refine ⟨.rep n c b .nil, r, encRep n c vt, rest, rfl, rfl, h1, ?_, ⟨vt, [], by simp, ht, rfl⟩, hr, by simp [Blk.length], by simp [Blk.size]; try omega⟩
    unfold encRep encCond
    rw [hv, hvt]
    exact ⟨_, _, _, _, _, _, _, _, _, _, _, _, _, _, _, _, _, rfl⟩

theorem StmtsR.tidy {N : Nat → Prop} {w : World} : ∀ (b : Blk) (cs : List Value), StmtsR N w b cs → Tidy b
  | .nil, _, _ => trivial
  | .prim p r, _, ⟨rest, _, h2⟩ => StmtsR.tidy r rest h2
  | .ite c t o e r, _, ⟨vt, ve, rest, _, ⟨ct, _, ht⟩, he, hr⟩ => by
    refine ⟨StmtsR.tidy t ct ht, ?_, StmtsR.tidy r rest hr, ?_⟩
    · cases o with
      | true =>
        rw [if_pos rfl] at he
        obtain ⟨ce, _, h⟩ := he
        exact StmtsR.tidy e ce h
      | false =>
        rw [if_neg Bool.false_ne_true] at he
        rw [he.2]; trivial
    · intro ho
      subst ho
      rw [if_neg Bool.false_ne_true] at he
      exact he.2
  | .rep n c b r, _, ⟨vt, rest, _, ⟨ct, _, ht⟩, hr⟩ => ⟨StmtsR.tidy b ct ht, StmtsR.tidy r rest hr⟩

/-- A statement's contract, up to a size. -/
def StmtM (m : Nat) : Prop := ∀ (S : Nat → Prop) (w : World) (gm gg gp bm loops : Nat) (vl : Value) (code : List Ins) (x : Blk) (cs : List Value),
  MkR S w gm gg gp bm vl loops code → Up S w → x.length = 1 → x.size ≤ m → StmtsR (fun k => ¬ S k) w x cs → code.length + 8 * x.size ≤ 900000 → loops + x.size ≤ 1000000 →
    Calls Tryz.prog 123 #[.pointer (some ⟨gm, 0, none⟩), .agg cs.toArray] w fun e w' => OutM S w gm gg gp bm (loops + x.loops) (code ++ comp loops code.length x) e w'
def BlockM (m : Nat) : Prop := ∀ (S : Nat → Prop) (w : World) (gm gg gp bm loops : Nat) (vl : Value) (code : List Ins) (b : Blk) (v : Value),
  MkR S w gm gg gp bm vl loops code → Up S w → b.size ≤ m → BlkV (fun k => ¬ S k) w v b → code.length + 8 * b.size ≤ 900000 → loops + b.size ≤ 1000000 →
    Calls Tryz.prog 82 #[.pointer (some ⟨gm, 0, none⟩), v] w fun e w' => OutM S w gm gg gp bm (loops + b.loops) (code ++ comp loops code.length b) e w'

/-- The block's loop: what is done, what is to come. -/
structure MLoop (S : Nat → Prop) (w0 : World) (gm gg gp bm loops : Nat) (code : List Ins) (b : Blk) (cs : List Value) (k : Nat) (wr : World) (done rest : Blk) (csd csr : List Value) : Prop where
  eq : b = done.app rest
  cs : cs = csd ++ csr
  csl : csd.length = k * 13
  k : k + rest.length = b.length
  tidy : Tidy done
  sz : done.size + rest.size = b.size
  stm : StmtsR (fun k => ¬ S k) w0 rest csr
  mr : ∃ vl, MkR S wr gm gg gp bm vl (loops + done.loops) (code ++ comp loops code.length done)
  kept : Kept S w0 wr

theorem loops_le : ∀ (b : Blk), b.loops ≤ b.size
  | .nil => Nat.le_refl _
  | .prim p r => by have := loops_le r; simp only [Blk.loops, Blk.size]; omega
  | .ite c t o e r => by have := loops_le t; have := loops_le e; have := loops_le r; simp only [Blk.loops, Blk.size]; omega
  | .rep n c b r => by have := loops_le b; have := loops_le r; simp only [Blk.loops, Blk.size]; omega
theorem tidy_app : ∀ (a b : Blk), Tidy a → Tidy b → Tidy (a.app b)
  | .nil, b, _, h => by simpa [Blk.app] using h
  | .prim p r, b, h, h' => by simpa [Blk.app, Tidy] using tidy_app r b h h'
  | .ite c t o e r, b, h, h' => by
    show Tidy (.ite c t o e (r.app b))
    exact ⟨h.1, h.2.1, tidy_app r b h.2.2.1 h', h.2.2.2⟩
  | .rep n c x r, b, h, h' => by
    show Tidy (.rep n c x (r.app b))
    exact ⟨h.1, tidy_app r b h.2 h'⟩

section
variable {S : Nat → Prop} {w0 wr : World} {gm gg gp bm loops k : Nat} {code : List Ins} {b done rest : Blk} {cs csd csr : List Value}

/-- The next statement of the block's loop, in its cells. -/
theorem MLoop.next {g cap : Nat} (h : MLoop S w0 gm gg gp bm loops code b cs k wr done rest csd csr) (hs : Sl (fun k => ¬ S k) w0 220 13 (.slice (some ⟨g, 0, none⟩) b.length cap) b.length cs) (hk : k < b.length) :
    ∃ x tl csx cst, rest = x.app tl ∧ x.length = 1 ∧ csr = csx ++ cst ∧ StF csx ∧ StmtsR (fun k => ¬ S k) w0 x csx ∧ StmtsR (fun k => ¬ S k) w0 tl cst ∧ rest.length = tl.length + 1 ∧ x.size + tl.size = rest.size ∧
      (∀ j, j < 13 → wr.cell? ⟨g, k * 13 + j, none⟩ = csx[j]?) ∧ g < wr.heap.size := by
  have hne : rest ≠ .nil := by
    rintro rfl
    have := h.k
    simp [Blk.length] at this
    omega
  obtain ⟨x, tl, csx, cst, e1, e2, e3, e4, e5, e6, e7, e8⟩ := StmtsR.part rest csr hne h.stm
  have hx13 : csx.length = 13 := by
    obtain ⟨_, _, _, _, _, _, _, _, _, _, _, _, _, _, _, _, _, rfl⟩ := e4
    rfl
  refine ⟨x, tl, csx, cst, e1, e2, e3, e4, e5, e6, e7, e8, fun j hj => ?_, Nat.lt_of_lt_of_le (hs.lt rfl) h.kept.size⟩
  have hb : k * 13 + j < b.length * 13 := by omega
  have h1 := hs.1.cellAt _ hb
  have h2 : cs[k * 13 + j]? = csx[j]? := by
    rw [h.cs, e3, List.getElem?_append_right (by rw [h.csl]; omega), h.csl, Nat.add_sub_cancel_left, List.getElem?_append_left (by omega)]
  exact ((h.kept.cell (p := ⟨g, k * 13 + j, none⟩) (hs.2 g rfl)).trans h1).trans h2

theorem MLoop.step {x tl : Blk} {csx cst : List Value} {w' : World} (h : MLoop S w0 gm gg gp bm loops code b cs k wr done rest csd csr) (e1 : rest = x.app tl) (e3 : csr = csx ++ cst) (hx : csx.length = 13) (e5 : StmtsR (fun k => ¬ S k) w0 x csx) (e6 : StmtsR (fun k => ¬ S k) w0 tl cst)
    (e7 : rest.length = tl.length + 1) (e8 : x.size + tl.size = rest.size) (hk : Kept S wr w')
    (hm : ∃ vl, MkR S w' gm gg gp bm vl (loops + done.loops + x.loops) (code ++ comp loops code.length done ++ comp (loops + done.loops) (code ++ comp loops code.length done).length x)) :
    MLoop S w0 gm gg gp bm loops code b cs (k + 1) w' (done.app x) tl (csd ++ csx) cst := by
  refine ⟨by rw [h.eq, e1, app_assoc], by rw [h.cs, e3, List.append_assoc], by rw [List.length_append, h.csl, hx]; omega, by have := h.k; omega, tidy_app _ _ h.tidy (StmtsR.tidy _ _ e5), by rw [app_size]; have := h.sz; omega, e6, ?_, h.kept.trans hk⟩
  obtain ⟨vl, hm⟩ := hm
  refine ⟨vl, ?_⟩
  rw [app_loops, comp_app done x loops code.length h.tidy, ← Nat.add_assoc, ← List.append_assoc]
  rw [List.length_append] at hm
  exact hm
end

set_option maxRecDepth 100000 in
set_option maxHeartbeats 4000000 in
theorem block_mk {m : Nat} (hst : StmtM m) : BlockM m := by
  intro S w gm gg gp bm loops vl code b v h hS hsz hb hcl hlo
  obtain ⟨cs, ⟨hs, g, cap, rfl⟩, hst0⟩ := hb
  have hl0 : MLoop S w gm gg gp bm loops code b cs 0 w .nil b [] cs := ⟨by simp [Blk.app], by simp, by simp, by omega, trivial, by simp [Blk.size], hst0, ⟨vl, by simpa [comp, Blk.loops] using h⟩, Kept.refl _ _⟩
  have hbl : b.length ≤ 900000 := by
    have : ∀ b : Blk, b.length ≤ b.size := by
      intro b
      induction b with
      | nil => simp [Blk.length]
      | prim p r ih => simp [Blk.length, Blk.size]; omega
      | ite c t o e r _ _ ih => simp [Blk.length, Blk.size]; omega
      | rep n c b r _ ih => simp [Blk.length, Blk.size]; omega
    have := this b
    omega
  have HST := Lib.hid hst
  have HU := Lib.hid hS
  have HSL := Lib.hid hs
  have HL0 := Lib.hid hl0
  have HCL := Lib.hid hcl
  have HSZ := Lib.hid hsz
  clear hst h hS hs hl0 hst0 hcl hsz
  go_enter Tryz.func82, Tryz.ntmps82
  go_wp2_with fail
  go_loopg [8] b.length (fun gg' s8 wr => ∃ k done rest csd csr, k ≤ b.length ∧ b.length - k ≤ gg' ∧ s8 = .int .i64 (k : Nat) ∧ MLoop S w gm gg gp bm loops code b cs k wr done rest csd csr)
  case atStart => exact ⟨0, .nil, b, [], cs, Nat.zero_le _, by omega, rfl, HL0.out⟩
  case round =>
    obtain ⟨k, done, rest, csd, csr, hkk, hg, rfl, hL⟩ := hrel
    by_cases hlt : k < b.length
    · obtain ⟨x, tl, csx, cst, e1, e2, e3, e4, e5, e6, e7, e8, hc, hgl⟩ := hL.next HSL.out hlt
      have hx13 : csx.length = 13 := by
        obtain ⟨_, _, _, _, _, _, _, _, _, _, _, _, _, _, _, _, _, rfl⟩ := id e4
        rfl
      have HE := Lib.hid (And.intro e1 (And.intro e2 (And.intro e3 (And.intro hx13 (And.intro e5 (And.intro e6 (And.intro e7 e8)))))))
      obtain ⟨k_, n_, m_, t_, b0_, i1_, b2_, i3_, b4_, i5_, o_, a1_, n1_, c1_, a2_, n2_, c2_, rfl⟩ := e4
      have x0 := hc 0 (by omega)
      have x1 := hc 1 (by omega)
      have x2 := hc 2 (by omega)
      have x3 := hc 3 (by omega)
      have x4 := hc 4 (by omega)
      have x5 := hc 5 (by omega)
      have x6 := hc 6 (by omega)
      have x7 := hc 7 (by omega)
      have x8 := hc 8 (by omega)
      have x9 := hc 9 (by omega)
      have x10 := hc 10 (by omega)
      have x11 := hc 11 (by omega)
      have x12 := hc 12 (by omega)
      have HL := Lib.hid hL
      clear hL hc e1 e2 e3 e5 e6 e7 e8 hx13
      unfold vs at *
      simp only [List.getElem?_cons_succ, List.getElem?_cons_zero, Nat.add_zero] at x0 x1 x2 x3 x4 x5 x6 x7 x8 x9 x10 x11 x12
      go_wp2_with fail
      obtain ⟨vl2, hm2⟩ := HL.out.mr
      have ka : Kept S wr (wr.alloc (.cells #[.string ⟨k_.toArray⟩, .int .i64 n_, .int .i64 m_, .bool t_, .string ⟨b0_.toArray⟩, .int .i64 i1_, .string ⟨b2_.toArray⟩, .int .i64 i3_, .string ⟨b4_.toArray⟩, .int .i64 i5_, .bool o_, .slice a1_ n1_ c1_, .slice a2_ n2_ c2_] 220)) := (Kept.refl S wr).alloc (HU.out.kept HL.out.kept _ (Nat.le_refl _)) _
      have hkw := HL.out.kept.trans ka
      have hcl := comp_len done loops code.length
      refine (HST.out S _ gm gg gp bm (loops + done.loops) vl2 (code ++ comp loops code.length done) x _ (hm2.alloc _) ((HU.out.kept HL.out.kept).alloc _) HE.out.2.1 (by have := HL.out.sz; have := HE.out.2.2.2.2.2.2.2; have := HSZ.out; omega)
        (StmtsR.kept (fun k cs hk _ => hkw.block k hk) _ _ HE.out.2.2.2.2.1) (by rw [List.length_append]; have := HL.out.sz; have := HE.out.2.2.2.2.2.2.2; have := HCL.out; omega) (by have := HL.out.sz; have := HE.out.2.2.2.2.2.2.2; have := loops_le done; omega)).mono ?_
      rintro e w2 ⟨rfl, hk2, hm3⟩
      have F := Lib.hid (HL.out.step HE.out.1 HE.out.2.2.1 HE.out.2.2.2.1 HE.out.2.2.2.2.1 HE.out.2.2.2.2.2.1 HE.out.2.2.2.2.2.2.1 HE.out.2.2.2.2.2.2.2 (ka.trans hk2) hm3)
      clear hm2 ka hkw hcl hk2 hm3
      go_wp2
      go_roundg (b.length - (k + 1))
      case measure => omega
      case rel => exact ⟨k + 1, _, _, _, _, by omega, by omega, by go_num, F.out⟩
    · have hnil : rest = .nil := by
        have := hL.k
        cases rest with
        | nil => rfl
        | prim p r => simp [Blk.length] at this; omega
        | ite c t o e r => simp [Blk.length] at this; omega
        | rep n c b r => simp [Blk.length] at this; omega
      have hdone : b = done := by rw [hL.eq, hnil]; exact app_nil done
      have F := Lib.hid (And.intro hL.kept (And.intro hL.mr hdone))
      clear hL hnil hdone
      go_wp2
      refine bodyPost_end (results_none rfl _ _ _) rfl ?_
      obtain ⟨a1, a2, a3⟩ := F.out
      rw [a3]
      exact ⟨rfl, a1, a2⟩
end Go.Proofs.YtemppijblfflgabGreatDoor.Ev
namespace Go.Proofs.YtemppijblfflgabGreatDoor.Ev
open Go Go.RowKit

theorem set_at {α : Type} (A B : List α) (i j : α) {n : Nat} (h : n = A.length) : (A ++ i :: B).set n j = A ++ j :: B := by
  subst h
  rw [List.set_append_right _ _ (Nat.le_refl _), Nat.sub_self, List.set_cons_zero]
theorem get_at {α : Type} (A B : List α) (i : α) {n : Nat} (h : n = A.length) : (A ++ i :: B)[n]? = some i := by
  subst h
  rw [List.getElem?_append_right (Nat.le_refl _), Nat.sub_self, List.getElem?_cons_zero]

section
variable {S : Nat → Prop} {w w0 : World} {gm gg gp bm loops K : Nat} {vl : Value} {code : List Ins} {t : TypeId} {cs : List Value}

theorem HeldM.cond (h : HeldM S w0 w gm gg gp bm loops code K t cs) (hn : code.length ≤ 900000) (c : Cond) :
    Calls Tryz.prog 137 #[.pointer (some ⟨gm, 0, none⟩), .agg (encCond c).toArray] w fun e w' =>
      e = .returned (.tuple #[]) ∧ HeldM S w0 w' gm gg gp bm loops (code ++ compCond c) K t cs := by
  obtain ⟨vl, hm⟩ := h.mr
  refine (cond_mk hm h.up hn c).mono ?_
  rintro e w' ⟨he, hk, hm'⟩
  exact ⟨he, h.call hk hm'⟩
theorem HeldM.block {m : Nat} (hB : BlockM m) (h : HeldM S w0 w gm gg gp bm loops code K t cs) {b : Blk} {v : Value} (hsz : b.size ≤ m) (hv : BlkV (fun k => ¬ S k) w0 v b) (hcl : code.length + 8 * b.size ≤ 900000) (hlo : loops + b.size ≤ 1000000) :
    Calls Tryz.prog 82 #[.pointer (some ⟨gm, 0, none⟩), v] w fun e w' =>
      e = .returned (.tuple #[]) ∧ HeldM S w0 w' gm gg gp bm (loops + b.loops) (code ++ comp loops code.length b) K t cs := by
  obtain ⟨vl, hm⟩ := h.mr
  refine (hB (But S K) w gm gg gp bm loops vl code b v hm h.up hsz ((hv.kept (fun k cs hk _ => h.kept.block k hk)).mono (fun k _ hk hb => hk hb.1)) hcl hlo).mono ?_
  rintro e w' ⟨he, hk, hm'⟩
  exact ⟨he, h.call hk hm'⟩
/-- The steps' row, to be turned. -/
theorem HeldM.form (h : HeldM S w0 w gm gg gp bm loops code K t cs) (hn : 0 < code.length) : ∃ gl cap, w.cell? ⟨gm, 1, none⟩ = some (.slice (some ⟨gl, 0, none⟩) code.length cap) ∧
    (∀ (k : Nat) (i0 : Ins), code[k]? = some i0 → ∀ j, j < 3 → w.cell? ⟨gl, k * 3 + j, none⟩ = (encStep i0)[j]? ∧ w.frozen? ⟨gl, k * 3 + j, none⟩ = false) ∧
    (∀ (k : Nat) (i0 i : Ins) (j : Nat) (u : Value), code[k]? = some i0 → j < 3 → encStep i = (encStep i0).set j u → HeldM S w0 (w.setCell ⟨gl, k * 3 + j, none⟩ u) gm gg gp bm loops (code.set k i) K t cs) := by
  obtain ⟨vl, hm⟩ := h.mr
  obtain ⟨gl, cap, rfl, _⟩ := hm.l.form hn
  refine ⟨gl, cap, hm.row.cell 1, fun k i0 hk j hj => ⟨hm.l.at_ (fun _ => rfl) hk hj, hm.l.frz rfl _⟩, fun k i0 i j u hk hj he => ?_⟩
  obtain ⟨h1, h2⟩ := hm.turn rfl hk hj he
  exact h.call h1 ⟨_, h2⟩

theorem HeldM.drew (h : HeldM S w0 w gm gg gp bm loops code K t cs) : HeldM S w0 w.drew gm gg gp bm loops code K t cs := by
  obtain ⟨vl, hm⟩ := h.mr
  have k : Kept (But S K) w w.drew := (Kept.refl _ w).drew
  exact h.call k ⟨vl, hm.row.drew, hm.prog.drew, hm.l.of_heap rfl, hm.sm, hm.sg⟩

/-- 'put', held: the steps under a new name. -/
theorem HeldM.put' (h : HeldM S w0 w gm gg gp bm loops code K t cs) (hn : code.length ≤ 1000000) (i : Ins) {op a b : Int} (h1 : op = (i.op : Int)) (h2 : a = i.a) (h3 : b = i.b) :
    Calls Tryz.prog 83 #[.pointer (some ⟨gm, 0, none⟩), .agg #[.int .u8 op, .int .i64 a, .int .i64 b]] w fun e w' => ∃ (k : Nat) (code' : List Ins), e = .returned (.int .i64 k) ∧ k = code.length ∧ code' = code ++ [i] ∧ HeldM S w0 w' gm gg gp bm loops code' K t cs := by
  refine (h.put hn i h1 h2 h3).mono ?_
  rintro e w' ⟨he, hh⟩
  exact ⟨_, _, he, rfl, rfl, hh⟩

theorem ite_true (c : Cond) (t e : Blk) (loops : Nat) (code code1 code2 code3 code4 : List Ins) (a b : Nat) (h1 : code1 = code ++ compCond c ++ [.skip 0]) (ha : a = (code ++ compCond c).length) (h2 : code2 = code1 ++ comp loops code1.length t)
    (hb : b = code2.length) (h3 : code3 = (code2 ++ [Ins.jump 0]).set a (.skip (code2 ++ [Ins.jump 0]).length)) (h4 : code4 = code3 ++ comp (loops + t.loops) code3.length e) :
    code4.set b (.jump code4.length) = code ++ comp loops code.length (.ite c t true e .nil) := by
  have l1 : code1.length = code.length + (compCond c).length + 1 := by rw [h1]; simp; omega
  have e3 : code3 = code ++ compCond c ++ .skip (code.length + (compCond c).length + 1 + (comp loops (code.length + (compCond c).length + 1) t).length + 1) :: (comp loops (code.length + (compCond c).length + 1) t ++ [.jump 0]) := by
    rw [h3, h2, l1, h1]
    have : (code ++ compCond c ++ [.skip 0] ++ comp loops (code.length + (compCond c).length + 1) t ++ [.jump 0]) = (code ++ compCond c) ++ .skip 0 :: (comp loops (code.length + (compCond c).length + 1) t ++ [.jump 0]) := by simp
    rw [this, set_at _ _ _ _ ha]
    congr 3
    simp; omega
  have l3 : code3.length = code.length + (compCond c).length + 1 + (comp loops (code.length + (compCond c).length + 1) t).length + 1 := by rw [e3]; simp; omega
  have e4 : code4 = (code ++ compCond c ++ .skip (code.length + (compCond c).length + 1 + (comp loops (code.length + (compCond c).length + 1) t).length + 1) :: comp loops (code.length + (compCond c).length + 1) t) ++ .jump 0 :: comp (loops + t.loops) (code.length + (compCond c).length + 1 + (comp loops (code.length + (compCond c).length + 1) t).length + 1) e := by
    rw [h4, l3, e3]; simp
  have l4 : code4.length = code.length + (compCond c).length + 1 + (comp loops (code.length + (compCond c).length + 1) t).length + 1 + (comp (loops + t.loops) (code.length + (compCond c).length + 1 + (comp loops (code.length + (compCond c).length + 1) t).length + 1) e).length := by rw [h4, List.length_append, l3]
  rw [l4, e4, set_at _ _ _ _ (by rw [hb, h2, l1, List.length_append, l1]; simp; omega)]
  simp [comp]

theorem ite_false (c : Cond) (t : Blk) (loops : Nat) (code code1 code2 : List Ins) (a : Nat) (h1 : code1 = code ++ compCond c ++ [.skip 0]) (ha : a = (code ++ compCond c).length) (h2 : code2 = code1 ++ comp loops code1.length t) :
    code2.set a (.skip code2.length) = code ++ comp loops code.length (.ite c t false .nil .nil) := by
  have l1 : code1.length = code.length + (compCond c).length + 1 := by rw [h1]; simp; omega
  have e2 : code2 = code ++ compCond c ++ .skip 0 :: comp loops (code.length + (compCond c).length + 1) t := by rw [h2, l1, h1]; simp
  have l2 : code2.length = code.length + (compCond c).length + 1 + (comp loops (code.length + (compCond c).length + 1) t).length := by rw [h2, List.length_append, l1]
  rw [l2, e2, set_at _ _ _ _ ha]
  simp [comp]

theorem rep_code (n : Int) (c : Cond) (x : Blk) (loops : Nat) (code code1 code2 code3 code4 code5 : List Ins) (a b : Nat) (h1 : code1 = code ++ [.count loops n]) (ha : a = code1.length) (h2 : code2 = code1 ++ [.again loops 0]) (hb : b = (code2 ++ compCond c).length) (h3 : code3 = code2 ++ compCond c ++ [.skip 0])
    (h4 : code4 = code3 ++ comp (loops + 1) code3.length x) (h5 : code5 = code4 ++ [.jump a]) :
    (code5.set a (.again loops code5.length)).set b (.skip (code5.set a (.again loops code5.length)).length) = code ++ comp loops code.length (.rep n c x .nil) := by
  have la : a = code.length + 1 := by rw [ha, h1]; simp
  have l3 : code3.length = code.length + 2 + (compCond c).length + 1 := by rw [h3, h2, h1]; simp; omega
  have e5 : code5 = (code ++ [.count loops n]) ++ .again loops 0 :: (compCond c ++ .skip 0 :: (comp (loops + 1) (code.length + 2 + (compCond c).length + 1) x ++ [.jump (code.length + 1)])) := by
    rw [h5, h4, l3, h3, h2, h1, la]; simp
  have l5 : code5.length = code.length + 2 + (compCond c).length + 1 + (comp (loops + 1) (code.length + 2 + (compCond c).length + 1) x).length + 1 := by rw [e5]; simp; omega
  rw [List.length_set, l5, e5, set_at _ _ _ _ (by rw [la]; simp)]
  have : code ++ [Ins.count loops n] ++ .again loops (code.length + 2 + (compCond c).length + 1 + (comp (loops + 1) (code.length + 2 + (compCond c).length + 1) x).length + 1) :: (compCond c ++ .skip 0 :: (comp (loops + 1) (code.length + 2 + (compCond c).length + 1) x ++ [.jump (code.length + 1)])) =
      (code ++ [Ins.count loops n] ++ .again loops (code.length + 2 + (compCond c).length + 1 + (comp (loops + 1) (code.length + 2 + (compCond c).length + 1) x).length + 1) :: compCond c) ++ .skip 0 :: (comp (loops + 1) (code.length + 2 + (compCond c).length + 1) x ++ [.jump (code.length + 1)]) := by simp
  rw [this, set_at _ _ _ _ (by rw [hb, h2, h1]; simp)]
  simp [comp]

set_option maxRecDepth 100000 in
set_option maxHeartbeats 4000000 in
theorem if_mk {m : Nat} (hB : BlockM m) (h : MkR S w gm gg gp bm vl loops code) (hS : Up S w) {c : Cond} {t e : Blk} {o : Bool} {vt ve : Value} (hst : t.size ≤ m) (hse : e.size ≤ m) (ht : BlkV (fun k => ¬ S k) w vt t)
    (he : if o then BlkV (fun k => ¬ S k) w ve e else ve = vnil ∧ e = .nil) (hcl : code.length + 8 * (1 + t.size + e.size) ≤ 900000) (hlo : loops + (1 + t.size + e.size) ≤ 1000000) :
    Calls Tryz.prog 123 #[.pointer (some ⟨gm, 0, none⟩), .agg (encIf c vt ve).toArray] w fun e' w' => OutM S w gm gg gp bm (loops + (t.loops + e.loops)) (code ++ comp loops code.length (.ite c t o e .nil)) e' w' := by
  have hnn : ∀ w, (binOp .neq 147 (.slice none 0 0) (.slice none 0 0)).run Tryz.prog w = .ok (.bool false) w := fun _ => rfl
  have hns : ∀ (a : Addr) (n c : Nat) w, (binOp .neq 147 (.slice (some a) n c) (.slice none 0 0)).run Tryz.prog w = .ok (.bool true) w := fun _ _ _ _ => rfl
  have h0 := HeldM.start h hS 220 (encIf c vt ve)
  have hc0 := h0.cond (by omega) c
  have hcn := compCond_len c
  have htl := comp_len t loops
  have hel := comp_len e (loops + t.loops)
  obtain ⟨cst, ⟨_, gt, capt, rfl⟩, _⟩ := id ht
  have hve : ∃ a2 n2 c2, ve = .slice a2 n2 c2 := by
    cases o with
    | true =>
      rw [if_pos rfl] at he
      obtain ⟨ce, ⟨_, ge, cape, hve⟩, _⟩ := he
      exact ⟨_, _, _, hve⟩
    | false =>
      rw [if_neg Bool.false_ne_true] at he
      exact he.1 ▸ vnil_form
  obtain ⟨a2, n2, c2, rfl⟩ := hve
  have HTV := Lib.hid ht
  have HEV := Lib.hid he
  have HTL := Lib.hid htl
  have HEL := Lib.hid hel
  have HB := Lib.hid hB
  obtain ⟨b0, n1, b2, n3, hv⟩ := ckVals_form c.k
  have hcond : encCond c = [vs (ckWord c.k), .int .i64 (ckNum c.k), vs b0, .int .i64 n1, vs b2, .int .i64 n3, .bool (oddB c.nots)] := by unfold encCond; rw [hv]; rfl
  have hif : encIf c (.slice (some ⟨gt, 0, none⟩) t.length capt) (.slice a2 n2 c2) = [vs kIf, .int .i64 0, .int .i64 0, .bool false, vs (ckWord c.k), .int .i64 (ckNum c.k), vs b0, .int .i64 n1, vs b2, .int .i64 n3, .bool (oddB c.nots), .slice (some ⟨gt, 0, none⟩) t.length capt, .slice a2 n2 c2] := by unfold encIf; rw [hcond]; rfl
  rw [hcond] at hc0
  rw [hif] at h0 hc0 ⊢
  have HC0 := Lib.hid hc0
  have H0 := Lib.hid h0
  clear hB h0 hc0 h hS ht he htl hel hv hcond hif
  unfold vs at *
  go_enter Tryz.func123, Tryz.ntmps123
  go_wp2_with fail
  refine HC0.out.mono ?_
  rintro e1 w1 ⟨rfl, h1⟩
  have H1 := Lib.hid h1
  clear h1 HC0
  go_wp2_with fail
  refine (H1.out.put' (by rw [List.length_append]; omega) (.skip 0) rfl rfl rfl).mono ?_
  rintro e1 w2 ⟨a, code1, rfl, ha, hc1, h2⟩
  obtain ⟨_, _, _, _, _, _, _, _, _, _, _, x11, x12⟩ := cells13 h2.row
  have l1 : code1.length = code.length + (compCond c).length + 1 := by rw [hc1]; simp; omega
  have hb2 := h2.block HB.out hst HTV.out (by omega) (by omega)
  have HA := Lib.hid ha
  have HC1 := Lib.hid hc1
  have HBK := Lib.hid hb2
  have L1 := Lib.hid l1
  clear h2 hb2 ha hc1 l1 x12
  go_wp2_with fail
  refine HBK.out.mono ?_
  rintro e1 w3 ⟨rfl, h3⟩
  obtain ⟨code2, hc2⟩ : ∃ x, x = code1 ++ comp loops code1.length t := ⟨_, rfl⟩
  rw [← hc2] at h3
  obtain ⟨_, _, _, _, _, _, _, _, _, _, _, _, x12⟩ := cells13 h3.row
  have l2 : code2.length = code1.length + (comp loops code1.length t).length := by rw [hc2, List.length_append]
  have htl1 := HTL.out code1.length
  have l2b : code2.length ≤ code1.length + 8 * t.size := by omega
  have l1' := L1.out
  have hga : code2[a]? = some (.skip 0) := by
    rw [hc2, HC1.out]
    simp only [List.append_assoc, List.cons_append, List.nil_append]
    rw [← List.append_assoc]
    exact get_at _ _ _ HA.out
  have HC2 := Lib.hid hc2
  have H3 := Lib.hid h3
  have L2 := Lib.hid l2
  clear h3 hc2 l2 htl1 x11
  cases o with
  | false =>
    have he := HEV.out
    rw [if_neg Bool.false_ne_true] at he
    obtain ⟨hv, rfl⟩ := he
    unfold vnil at hv
    injection hv with hv1 hv2 hv3
    subst hv1 hv2 hv3
    have hal : a < code2.length := (List.getElem?_eq_some_iff.1 hga).1
    obtain ⟨gl, cap, r1, rc, rt⟩ := H3.out.form (by omega)
    obtain ⟨cA, fA⟩ := rc a _ hga 1 (by omega)
    have F := Lib.hid (rt a (.skip 0) (.skip code2.length) 1 (.int .i64 code2.length) hga (by omega) rfl)
    have HGA := Lib.hid hga
    clear rc rt hga
    simp [encStep] at cA
    go_wp2_with fail
    go_region
    all_goals go_wp2
    all_goals
      refine bodyPost_end (results_none rfl _ _ _) rfl ?_
      rw [← ite_false c t loops code code1 code2 a HC1.out HA.out HC2.out]
      exact F.out.drew.out
  | true =>
    have he := HEV.out
    rw [if_pos rfl] at he
    obtain ⟨ce, ⟨_, ge, cape, hve⟩, _⟩ := id he
    injection hve with hv1 hv2 hv3
    subst hv1 hv2 hv3
    have HEV2 := Lib.hid he
    clear he
    go_wp2_with fail
    refine (H3.out.put' (by omega) (.jump 0) rfl rfl rfl).mono ?_
    rintro e1 w4 ⟨b, code2', rfl, hb, hc2', h4⟩
    have hga2 : code2'[a]? = some (.skip 0) := by
      rw [hc2', List.getElem?_append_left (List.getElem?_eq_some_iff.1 hga).1]; exact hga
    have hal : a < code2'.length := (List.getElem?_eq_some_iff.1 hga2).1
    obtain ⟨gl, cap, r1, rc, rt⟩ := h4.form (by omega)
    obtain ⟨cA, fA⟩ := rc a _ hga2 1 (by omega)
    have F4 := Lib.hid (rt a (.skip 0) (.skip code2'.length) 1 (.int .i64 code2'.length) hga2 (by omega) rfl)
    have hl2' : code2'.length = code2.length + 1 := by rw [hc2']; simp
    have HB2 := Lib.hid hb
    have HC2' := Lib.hid hc2'
    have HL2' := Lib.hid hl2'
    have l2bb := Lib.hid l2b
    clear rc rt hga hga2 hb hc2' h4 hl2' l2b x12
    simp [encStep] at cA
    go_wp2_with fail
    go_region
    all_goals
      have h5 := F4.out.drew
      obtain ⟨code3, hc3⟩ : ∃ x, x = code2'.set a (.skip code2'.length) := ⟨_, rfl⟩
      rw [← hc3] at h5
      have hl3 : code3.length = code2'.length := by rw [hc3, List.length_set]
      obtain ⟨_, _, _, _, _, _, _, _, _, _, _, _, x12⟩ := cells13 h5.row
      have hbk := h5.block HB.out hse HEV2.out (by have := HL2'.out; have := l2bb.out; have := L1.out; omega) (by have := loops_le t; omega)
      have HBK2 := Lib.hid hbk
      have HC3 := Lib.hid hc3
      have HL3 := Lib.hid hl3
      clear h5 hbk hc3 hl3 r1 cA fA
      go_wp2_with fail
      refine HBK2.out.mono ?_
      rintro e1 w6 ⟨rfl, h6⟩
      obtain ⟨code4, hc4⟩ : ∃ x, x = code3 ++ comp (loops + t.loops) code3.length e := ⟨_, rfl⟩
      rw [← hc4] at h6
      have hgb : code4[b]? = some (.jump 0) := by
        rw [hc4, HC3.out, HC2'.out, List.getElem?_append_left (by rw [List.length_set, HB2.out]; simp), List.getElem?_set_ne (by rw [HB2.out]; have := HL2'.out; have := HA.out; have := HC1.out; have := HC2.out; rw [HC2.out, HC1.out, HA.out]; simp)]
        exact get_at _ _ _ HB2.out
      have hbl : b < code4.length := (List.getElem?_eq_some_iff.1 hgb).1
      obtain ⟨gl2, cap2, r1, rc, rt⟩ := h6.form (by omega)
      obtain ⟨cA, fA⟩ := rc b _ hgb 1 (by omega)
      have F6 := Lib.hid (rt b (.jump 0) (.jump code4.length) 1 (.int .i64 code4.length) hgb (by omega) rfl)
      have HC4 := Lib.hid hc4
      clear rc rt hgb h6 hc4 x12
      simp [encStep] at cA
      go_wp2_with fail
      go_region
      all_goals
        go_wp2
        refine bodyPost_end (results_none rfl _ _ _) rfl ?_
        rw [← ite_true c t e loops code code1 code2 code3 code4 a b HC1.out HA.out HC2.out HB2.out (by rw [HC3.out, HC2'.out]) HC4.out]
        have hfin := F6.out.drew.out
        rw [Nat.add_assoc] at hfin
        exact hfin
end
end Go.Proofs.YtemppijblfflgabGreatDoor.Ev
namespace Go.Proofs.YtemppijblfflgabGreatDoor.Ev
open Go Go.RowKit

section
variable {S : Nat → Prop} {w w0 : World} {gm gg gp bm loops K : Nat} {vl : Value} {code : List Ins} {t : TypeId} {cs : List Value}

theorem HeldM.cells (h : HeldM S w0 w gm gg gp bm loops code K t cs) : w.cell? ⟨gm, 0, none⟩ = some (.pointer (some ⟨gg, 0, none⟩)) ∧ w.cell? ⟨gg, 2, none⟩ = some (.int .i64 loops) ∧ w.frozen? ⟨gg, 2, none⟩ = false := by
  obtain ⟨vl, hm⟩ := h.mr
  exact ⟨hm.row.cell 0, hm.prog.cell 2, hm.prog.frozen 2⟩
theorem HeldM.loop (h : HeldM S w0 w gm gg gp bm loops code K t cs) : HeldM S w0 (w.setCell ⟨gg, 2, none⟩ (.int .i64 ((loops : Int) + 1))) gm gg gp bm (loops + 1) code K t cs := by
  obtain ⟨vl, hm⟩ := h.mr
  have hk : Kept (fun b => b = gg) w (w.setCell ⟨gg, 2, none⟩ (.int .i64 ((loops : Int) + 1))) := Kept.one w ⟨gg, 2, none⟩ _
  exact h.call (hk.mono (fun b hb => hb ▸ hm.sg)) ⟨vl, hm.row.kept hk (hm.row.ne_ hm.prog (by decide)), hm.prog.set_ 2 _, hm.l.kept hk (fun b hb e => hm.l.ne_row hm.prog (by decide) (e ▸ hb)), hm.sm, hm.sg⟩

set_option maxRecDepth 100000 in
set_option maxHeartbeats 4000000 in
theorem rep_mk {m : Nat} (hB : BlockM m) (h : MkR S w gm gg gp bm vl loops code) (hS : Up S w) {n : Int} {c : Cond} {x : Blk} {vt : Value} (hst : x.size ≤ m) (ht : BlkV (fun k => ¬ S k) w vt x) (hcl : code.length + 8 * (1 + x.size) ≤ 900000) (hlo : loops + (1 + x.size) ≤ 1000000) :
    Calls Tryz.prog 123 #[.pointer (some ⟨gm, 0, none⟩), .agg (encRep n c vt).toArray] w fun e' w' => OutM S w gm gg gp bm (loops + (1 + x.loops)) (code ++ comp loops code.length (.rep n c x .nil)) e' w' := by
  have h0 := HeldM.start h hS 220 (encRep n c vt)
  have hcn := compCond_len c
  have htl := comp_len x (loops + 1)
  obtain ⟨cst, ⟨_, gt, capt, rfl⟩, _⟩ := id ht
  have HTV := Lib.hid ht
  have HTL := Lib.hid htl
  have HB := Lib.hid hB
  obtain ⟨b0, n1, b2, n3, hv⟩ := ckVals_form c.k
  have hcond : encCond c = [vs (ckWord c.k), .int .i64 (ckNum c.k), vs b0, .int .i64 n1, vs b2, .int .i64 n3, .bool (oddB c.nots)] := by unfold encCond; rw [hv]; rfl
  have hif : encRep n c (.slice (some ⟨gt, 0, none⟩) x.length capt) = [vs kRepeat, .int .i64 n, .int .i64 0, .bool false, vs (ckWord c.k), .int .i64 (ckNum c.k), vs b0, .int .i64 n1, vs b2, .int .i64 n3, .bool (oddB c.nots), .slice (some ⟨gt, 0, none⟩) x.length capt, .slice none 0 0] := by unfold encRep; rw [hcond]; rfl
  rw [hif] at h0 ⊢
  have hwr : wrap64 ((loops : Int) + 1) = (loops : Int) + 1 := by unfold wrap64; omega
  obtain ⟨g0, g2, gf⟩ := h0.cells
  have H0 := Lib.hid h0
  have HCO := Lib.hid hcond
  clear hB h0 h hS ht htl hv hcond hif
  unfold vs at *
  go_enter Tryz.func123, Tryz.ntmps123
  go_wp2_with fail
  have h1 := H0.out.loop
  refine (h1.put' (by omega) (.count loops n) rfl rfl rfl).mono ?_
  rintro e1 w1 ⟨_, code1, rfl, _, hc1, h1⟩
  have l1 : code1.length = code.length + 1 := by rw [hc1]; simp
  have H1 := Lib.hid h1
  have HC1 := Lib.hid hc1
  clear h1 hc1 g0 g2 gf
  go_wp2_with fail
  refine (H1.out.put' (by omega) (.again loops 0) rfl rfl rfl).mono ?_
  rintro e1 w2 ⟨a, code2, rfl, ha, hc2, h2⟩
  have l2 : code2.length = code1.length + 1 := by rw [hc2]; simp
  obtain ⟨_, _, _, _, x4, x5, x6, x7, x8, x9, x10, _, _⟩ := cells13 h2.row
  have hco := h2.cond (by omega) c
  rw [HCO.out] at hco
  have HC2 := Lib.hid hc2
  have HA := Lib.hid ha
  have HCD := Lib.hid hco
  clear h2 hc2 ha hco
  unfold vs at *
  go_wp2_with fail
  refine HCD.out.mono ?_
  rintro e1 w3 ⟨rfl, h3⟩
  have H3 := Lib.hid h3
  clear h3 x4 x5 x6 x7 x8 x9 x10
  go_wp2_with fail
  refine (H3.out.put' (by rw [List.length_append]; omega) (.skip 0) rfl rfl rfl).mono ?_
  rintro e1 w4 ⟨b, code3, rfl, hb, hc3, h4⟩
  obtain ⟨_, _, _, _, _, _, _, _, _, _, _, x11, _⟩ := cells13 h4.row
  have l3 : code3.length = code2.length + (compCond c).length + 1 := by rw [hc3]; simp; omega
  have hbk := h4.block HB.out hst HTV.out (by omega) (by omega)
  have HC3 := Lib.hid hc3
  have HBB := Lib.hid hb
  have HBK := Lib.hid hbk
  clear h4 hc3 hb hbk
  go_wp2_with fail
  refine HBK.out.mono ?_
  rintro e1 w5 ⟨rfl, h5⟩
  obtain ⟨code4, hc4⟩ : ∃ y, y = code3 ++ comp (loops + 1) code3.length x := ⟨_, rfl⟩
  rw [← hc4] at h5
  have htl := HTL.out code3.length
  have l4 : code4.length = code3.length + (comp (loops + 1) code3.length x).length := by rw [hc4, List.length_append]
  have l4b : code4.length ≤ code3.length + 8 * x.size := by omega
  have H5 := Lib.hid h5
  have HC4 := Lib.hid hc4
  clear h5 hc4 htl x11 l4
  go_wp2_with fail
  refine (H5.out.put' (by omega) (.jump a) rfl rfl rfl).mono ?_
  rintro e1 w6 ⟨_, code5, rfl, _, hc5, h6⟩
  have l5 : code5.length = code4.length + 1 := by rw [hc5]; simp
  have hga : code5[a]? = some (.again loops 0) := by
    rw [hc5, HC4.out, HC3.out, HC2.out]
    simp only [List.append_assoc, List.cons_append, List.nil_append]
    exact get_at _ _ _ HA.out
  have hal : a < code5.length := (List.getElem?_eq_some_iff.1 hga).1
  obtain ⟨gl, cap, r1, rc, rt⟩ := h6.form (by omega)
  obtain ⟨cA, fA⟩ := rc a _ hga 2 (by omega)
  have F6 := Lib.hid (rt a (.again loops 0) (.again loops code5.length) 2 (.int .i64 code5.length) hga (by omega) rfl)
  have HC5 := Lib.hid hc5
  have L5 := Lib.hid l5
  clear rc rt hga hc5 h6 l5
  simp [encStep] at cA
  go_wp2_with fail
  go_region
  all_goals
    have h7 := F6.out.drew
    obtain ⟨code6, hc6⟩ : ∃ y, y = code5.set a (.again loops code5.length) := ⟨_, rfl⟩
    rw [← hc6] at h7
    have hl6 : code6.length = code5.length := by rw [hc6, List.length_set]
    have hgb : code6[b]? = some (.skip 0) := by
      rw [hc6, List.getElem?_set_ne (by rw [HBB.out, HA.out, HC2.out]; simp), HC5.out, HC4.out, HC3.out]
      simp only [List.append_assoc, List.cons_append, List.nil_append]
      rw [← List.append_assoc]
      exact get_at _ _ _ HBB.out
    have hbl : b < code6.length := (List.getElem?_eq_some_iff.1 hgb).1
    obtain ⟨gl2, cap2, r1, rc, rt⟩ := h7.form (by have := L5.out; omega)
    obtain ⟨cA, fA⟩ := rc b _ hgb 1 (by omega)
    have F7 := Lib.hid (rt b (.skip 0) (.skip code6.length) 1 (.int .i64 code6.length) hgb (by omega) rfl)
    have HC6 := Lib.hid hc6
    clear rc rt hgb h7 hc6 hl6
    simp [encStep] at cA
    go_wp2_with fail
    go_region
    all_goals
      go_wp2
      refine bodyPost_end (results_none rfl _ _ _) rfl ?_
      rw [← rep_code n c x loops code code1 code2 code3 code4 code5 a b HC1.out HA.out HC2.out HBB.out HC3.out HC4.out HC5.out, ← HC6.out]
      have hfin := F7.out.drew.out
      rw [Nat.add_assoc] at hfin
      exact hfin

theorem len0 : ∀ (b : Blk), b.length = 0 → b = .nil
  | .nil, _ => rfl
  | .prim p r, h => by simp [Blk.length] at h
  | .ite c t o e r, h => by simp [Blk.length] at h
  | .rep n c b r, h => by simp [Blk.length] at h

theorem stmt_mk {m : Nat} (hB : BlockM m) : StmtM (m + 1) := by
  intro S w gm gg gp bm loops vl code x cs h hS hl hsz hst hcl hlo
  cases x with
  | nil => cases hl
  | prim p r =>
    have hr := len0 r (by simpa [Blk.length] using hl)
    subst hr
    obtain ⟨rest, rfl, rfl⟩ := hst
    simp only [Blk.loops, Blk.size, Nat.add_zero, List.append_nil, comp] at *
    exact prim_mk h hS (by omega) p
  | ite c t o e r =>
    have hr := len0 r (by simpa [Blk.length] using hl)
    subst hr
    obtain ⟨vt, ve, rest, rfl, ht, he, rfl⟩ := hst
    have hsz' : 1 + t.size + e.size ≤ m + 1 := by simpa [Blk.size] using hsz
    have hcl' : code.length + 8 * (1 + t.size + e.size) ≤ 900000 := by simpa [Blk.size] using hcl
    have hlo' : loops + (1 + t.size + e.size) ≤ 1000000 := by simpa [Blk.size] using hlo
    rw [List.append_nil]
    show Calls _ _ _ _ fun e' w' => OutM S w gm gg gp bm (loops + (t.loops + e.loops + 0)) _ e' w'
    exact if_mk hB h hS (by omega) (by omega) ht he hcl' hlo'
  | rep n c b r =>
    have hr := len0 r (by simpa [Blk.length] using hl)
    subst hr
    obtain ⟨vt, rest, rfl, ht, rfl⟩ := hst
    have hsz' : 1 + b.size ≤ m + 1 := by simpa [Blk.size] using hsz
    have hcl' : code.length + 8 * (1 + b.size) ≤ 900000 := by simpa [Blk.size] using hcl
    have hlo' : loops + (1 + b.size) ≤ 1000000 := by simpa [Blk.size] using hlo
    rw [List.append_nil]
    show Calls _ _ _ _ fun e' w' => OutM S w gm gg gp bm (loops + (1 + b.loops + 0)) _ e' w'
    exact rep_mk hB h hS (by omega) ht hcl' hlo'

theorem maker_all : ∀ m, StmtM m ∧ BlockM m
  | 0 => by
    have h : StmtM 0 := by
      intro S w gm gg gp bm loops vl code x cs h hS hl hsz
      cases x with
      | nil => cases hl
      | prim p r => simp [Blk.size] at hsz
      | ite c t o e r => simp [Blk.size] at hsz
      | rep n c b r => simp [Blk.size] at hsz
    exact ⟨h, block_mk h⟩
  | m + 1 => by
    have h := stmt_mk (maker_all m).2
    exact ⟨h, block_mk h⟩

/-- 'block', whole. -/
theorem block_any_mk (h : MkR S w gm gg gp bm vl loops code) (hS : Up S w) {b : Blk} {v : Value} (hb : BlkV (fun k => ¬ S k) w v b) (hcl : code.length + 8 * b.size ≤ 900000) (hlo : loops + b.size ≤ 1000000) :
    Calls Tryz.prog 82 #[.pointer (some ⟨gm, 0, none⟩), v] w fun e w' => OutM S w gm gg gp bm (loops + b.loops) (code ++ comp loops code.length b) e w' :=
  (maker_all b.size).2 S w gm gg gp bm loops vl code b v h hS (Nat.le_refl _) hb hcl hlo
end
end Go.Proofs.YtemppijblfflgabGreatDoor.Ev
namespace Go.Proofs.YtemppijblfflgabGreatDoor.Ev
open Go Go.RowKit
open Go.ChangeMaps (setBlock)

/-- Block r goes over the map at b, whose entries are M; the keys sk have been handed out. -/
def RangeAt (w : World) (r b : Nat) (k : IntKind) (M : IMap) (sk : List Int) : Prop :=
  ∃ (es : Array MapEntry) (clock : Nat) (sb : Array Nat), w.heap[b]? = some (.map es clock) ∧ es.toList.map (fun e => (e.key, e.val)) = M.map (fun x => (Value.int k x.1, x.2)) ∧ (∀ e ∈ es.toList, e.born < clock) ∧ (es.toList.map (·.born)).Nodup ∧
    (M.map (·.1)).Nodup ∧ w.heap[r]? = some (.mapIter (some b) clock sb clock) ∧ ∀ (i : Nat) (e : MapEntry) (y : Int × Value), es.toList[i]? = some e → M[i]? = some y → (sb.contains e.born = true ↔ y.1 ∈ sk)

theorem nodup_at {α : Type} {l : List α} (h : l.Nodup) {i j : Nat} {x : α} (hi : l[i]? = some x) (hj : l[j]? = some x) : i = j := by
  obtain ⟨h1, e1⟩ := List.getElem?_eq_some_iff.1 hi
  obtain ⟨h2, e2⟩ := List.getElem?_eq_some_iff.1 hj
  exact (List.getElem_inj h).1 (e1.trans e2.symm)

section
variable {P : Program} {w : World} {r b : Nat} {k : IntKind} {M : IMap} {sk : List Int}

theorem IsMap.range (h : IsMap w b k M) {T K E : TypeId} (hT : P.underlying T = some (.map K E)) :
    ∃ clock, (Instr.range T (.map (some b))).run P w = .ok (.pointer (some ⟨w.heap.size, 0, none⟩)) (w.alloc (.mapIter (some b) clock #[] clock)) ∧ RangeAt (w.alloc (.mapIter (some b) clock #[] clock)) w.heap.size b k M [] := by
  obtain ⟨es, clock, h1, h2, h3, h4, h5⟩ := h
  have hlt : b < w.heap.size := IsMap.lt (k := k) (M := M) ⟨es, clock, h1, h2, h3, h4, h5⟩
  refine ⟨clock, run_range_map w T K E b es clock hT h1, es, clock, #[], ?_, h2, h3, h4, h5, heap_alloc_new w _, fun i e y _ _ => by simp⟩
  first | rw [heap_alloc_old w _ hlt] | rw [heap_alloc_old w _ _ hlt]; exact h1

theorem RangeAt.next (h : RangeAt w r b k M sk) (ty : TypeId) :
    ((∀ y ∈ M, y.1 ∈ sk) ∧ (Instr.next (.pointer (some ⟨r, 0, none⟩)) false ty).run P w = .ok (.tuple #[.bool false]) w) ∨
    ∃ y ∈ M, y.1 ∉ sk ∧ ∃ w', (Instr.next (.pointer (some ⟨r, 0, none⟩)) false ty).run P w = .ok (.tuple #[.bool true, .int k y.1, y.2]) w' ∧ RangeAt w' r b k M (y.1 :: sk) ∧ Kept (fun i => i = r) w w' ∧
      (Instr.entry (.pointer (some ⟨r, 0, none⟩))).run P w' = .ok (.tuple #[.int k y.1, y.2]) w' := by
  obtain ⟨es, clock, sb, h1, h2, h3, h4, h5, h6, h7⟩ := h
  have hpair : ∀ (i : Nat) (e : MapEntry), es.toList[i]? = some e → ∃ y, M[i]? = some y ∧ e.key = .int k y.1 ∧ e.val = y.2 := by
    intro i e hi
    have := congrArg (fun l => l[i]?) h2
    simp only [List.getElem?_map, hi, Option.map_some] at this
    cases hm : M[i]? with
    | none => rw [hm] at this; cases this
    | some y =>
      rw [hm] at this
      simp only [Option.map_some, Option.some.injEq, Prod.mk.injEq] at this
      exact ⟨y, rfl, this.1, this.2⟩
  have hpair' : ∀ (i : Nat) (y : Int × Value), M[i]? = some y → ∃ e, es.toList[i]? = some e := by
    intro i y hi
    have := congrArg (fun l => l[i]?) h2
    simp only [List.getElem?_map, hi, Option.map_some] at this
    cases hm : es.toList[i]? with
    | none => rw [hm] at this; cases this
    | some e => exact ⟨e, rfl⟩
  have hne : r ≠ b := by
    rintro rfl
    rw [h1] at h6
    cases h6
  rcases run_next_at (P := P) w ty r b clock clock sb es clock h6 h1 h3 (Nat.le_refl _) with ⟨hz, hrun⟩ | ⟨e, he, w1, hw1, hrun⟩
  · left
    refine ⟨fun y hy => ?_, hrun⟩
    obtain ⟨i, hi⟩ := List.getElem?_of_mem hy
    obtain ⟨e, he⟩ := hpair' i y hi
    refine (h7 i e y he hi).1 ?_
    by_cases hc : sb.contains e.born = true
    · exact hc
    · have hin : e ∈ (leftOf es sb).toList := by
        unfold leftOf
        have hmem : e ∈ es.toList := List.mem_of_getElem? he
        simp only [Array.toList_filter, List.mem_filter]
        exact ⟨hmem, by simpa using hc⟩
      have : (leftOf es sb).toList.length = 0 := by simpa using hz
      rw [List.eq_nil_of_length_eq_zero this] at hin
      cases hin
  · right
    have hmem : e ∈ es.toList ∧ ¬ sb.contains e.born = true := by
      unfold leftOf at he
      simp only [Array.toList_filter, List.mem_filter] at he
      exact ⟨he.1, by simpa using he.2⟩
    obtain ⟨i, hi⟩ := List.getElem?_of_mem hmem.1
    obtain ⟨y, hy, ek, ev⟩ := hpair i e hi
    have hns : y.1 ∉ sk := fun hs => hmem.2 ((h7 i e y hi hy).2 hs)
    have hw1h : w1.heap = w.heap := by rcases hw1 with rfl | rfl <;> rfl
    have hrl : r < w.heap.size := by
      rcases Nat.lt_or_ge r w.heap.size with hlt | hge
      · exact hlt
      · rw [Array.getElem?_eq_none hge] at h6; cases h6
    have hb' : (setBlock w1 r (.mapIter (some b) clock (sb.push e.born) clock)).heap[b]? = some (.map es clock) := by
      show (w1.heap.setIfInBounds r _)[b]? = _
      rw [hw1h, Array.getElem?_setIfInBounds_ne hne]; exact h1
    have hr' : (setBlock w1 r (.mapIter (some b) clock (sb.push e.born) clock)).heap[r]? = some (.mapIter (some b) clock (sb.push e.born) clock) := by
      show (w1.heap.setIfInBounds r _)[r]? = _
      rw [hw1h, Array.getElem?_setIfInBounds_self_of_lt hrl]
    refine ⟨y, List.mem_of_getElem? hy, hns, _, by rw [hrun, ek, ev], ⟨es, clock, sb.push e.born, hb', h2, h3, h4, h5, hr', fun i' e' y' hi' hy' => ?_⟩, ?_, ?_⟩
    · have hc : (sb.push e.born).contains e'.born = true ↔ sb.contains e'.born = true ∨ e'.born = e.born := by simp
      rw [hc, h7 i' e' y' hi' hy', List.mem_cons, or_comm]
      refine or_congr ⟨fun hb => ?_, fun hk => ?_⟩ Iff.rfl
      · have := nodup_at h4 (i := i') (j := i) (x := e.born) (by simp [List.getElem?_map, hi', hb]) (by simp [List.getElem?_map, hi])
        subst this
        rw [hy] at hy'
        injection hy' with hy'
        rw [hy']
      · have := nodup_at h5 (i := i') (j := i) (x := y.1) (by simp [List.getElem?_map, hy', hk]) (by simp [List.getElem?_map, hy])
        subst this
        rw [hi] at hi'
        injection hi' with hi'
        rw [hi']
    · refine ⟨by rcases hw1 with rfl | rfl <;> rfl, by rcases hw1 with rfl | rfl <;> rfl, by rcases hw1 with rfl | rfl <;> rfl, ?_, fun j hj => ?_⟩
      · show w.heap.size ≤ (w1.heap.setIfInBounds r _).size
        rw [hw1h]; simp
      · show (w1.heap.setIfInBounds r _)[j]? = _
        rw [hw1h, Array.getElem?_setIfInBounds_ne (fun e => hj e.symm)]
    · rw [run_entry_at (P := P) _ r b clock sb es clock e hr' hb' hmem.1 h4, ek, ev]
end

theorem RangeAt.kept_ {w w' : World} {r b : Nat} {k : IntKind} {M : IMap} {sk : List Int} (h : RangeAt w r b k M sk) (hr : w'.heap[r]? = w.heap[r]?) (hb : w'.heap[b]? = w.heap[b]?) : RangeAt w' r b k M sk := by
  obtain ⟨es, c, sb, h1, h2, h3, h4, h5, h6, h7⟩ := h
  exact ⟨es, c, sb, hb.trans h1, h2, h3, h4, h5, hr.trans h6, h7⟩
theorem RangeAt.ne_row {w : World} {r b g : Nat} {k : IntKind} {M : IMap} {sk : List Int} {t : TypeId} {cs : List Value} (h : RangeAt w r b k M sk) (hr : Row w g t cs) : g ≠ r := by
  rintro rfl
  obtain ⟨es, c, sb, _, _, _, _, _, h6, _⟩ := h
  unfold Row at hr
  rw [hr] at h6
  cases h6
theorem mget_app_old {M : IMap} {x k : Int} {v u : Value} (h : mget M k = some u) : mget (M ++ [(x, v)]) k = some u := by
  unfold mget at *
  rw [Option.map_eq_some_iff] at h
  obtain ⟨y, h1, h2⟩ := h
  rw [List.find?_append, h1]
  exact congrArg some h2
theorem mget_app_new {M : IMap} {x : Int} {v : Value} (h : mget M x = none) : mget (M ++ [(x, v)]) x = some v := by
  unfold mget at *
  rw [Option.map_eq_none_iff] at h
  rw [List.find?_append, h]
  simp
theorem mget_app_none {M : IMap} {x k : Int} {v : Value} (h : mget M k = none) (hk : k ≠ x) : mget (M ++ [(x, v)]) k = none := by
  unfold mget at *
  rw [Option.map_eq_none_iff] at h
  rw [List.find?_append, h]
  have : ¬ x = k := fun e => hk e.symm
  simp [this]
theorem mput_fresh {M : IMap} {x : Int} (v : Value) (h : mget M x = none) : mput M x v = M ++ [(x, v)] := by
  unfold mput
  rw [h]
  rfl

theorem nodup_le : ∀ (a b : List Int), a.Nodup → (∀ x ∈ a, x ∈ b) → a.length ≤ b.length
  | [], _, _, _ => Nat.zero_le _
  | x :: a, b, h, hs => by
    have h1 := List.nodup_cons.1 h
    have hx : x ∈ b := hs x (List.mem_cons_self ..)
    have ih := nodup_le a (b.erase x) h1.2 (fun y hy => by
      have hne : y ≠ x := fun e => h1.1 (e ▸ hy)
      exact (List.mem_erase_of_ne hne).2 (hs y (List.mem_cons_of_mem _ hy)))
    rw [List.length_erase_of_mem hx] at ih
    have := List.length_pos_of_mem hx
    simp only [List.length_cons]
    omega

end Go.Proofs.YtemppijblfflgabGreatDoor.Ev
namespace Go.Proofs.YtemppijblfflgabGreatDoor.Ev
open Go Go.RowKit

/-- Of's loop. -/
structure OfL (w wr : World) (gp bm : Nat) (rules : List (Int × Blk)) (Mp : IMap) (sk : List Int) (loops : Nat) : Prop where
  rng : RangeAt wr (w.heap.size + 1 + 1) bm .i64 Mp sk
  nd : sk.Nodup
  sub : ∀ k ∈ sk, k ∈ Mp.map (·.1)
  row : Row wr (w.heap.size + 1) 75 [.pointer (some ⟨gp, 0, none⟩), .map (some w.heap.size), .int .i64 loops]
  map : ∃ M : IMap, IsMap wr w.heap.size .i64 M ∧ (∀ k, k ∈ sk → ∃ v, mget M k = some v ∧ RuleC (fun b => w.heap.size ≤ b) wr rules loops k v) ∧ ∀ k, k ∉ sk → mget M k = none
  lo : loops ≤ 700 * sk.length
  kept : Kept (fun b => w.heap.size ≤ b) w wr

theorem RuleC.kept {S S1 : Nat → Prop} {w w' : World} {rules : List (Int × Blk)} {loops loops' : Nat} {k : Int} {v : Value} (h : RuleC S w rules loops k v) (hk : Kept S1 w w') (hS : ∀ b cs, Row w b 172 cs → ¬ S1 b) (hl : loops ≤ loops') : RuleC S w' rules loops' k v := by
  obtain ⟨b, c, h1, h2, h3⟩ := h
  refine ⟨b, c, h1, h2.kept hk (fun g hg => ?_), by omega⟩
  obtain ⟨cs, hr⟩ := h2.row hg
  exact hS g cs hr

theorem ruleOf_at : ∀ (l : List (Int × Blk)) (i : Nat) (x : Int × Blk), (l.map (·.1)).Nodup → l[i]? = some x → ruleOf l x.1 = some x.2
  | [], i, x, _, h => by simp at h
  | y :: l, 0, x, _, h => by
    simp only [List.getElem?_cons_zero, Option.some.injEq] at h
    subst h
    simp [ruleOf]
  | y :: l, i + 1, x, hn, h => by
    simp only [List.getElem?_cons_succ] at h
    rw [List.map_cons, List.nodup_cons] at hn
    have hne : y.1 ≠ x.1 := fun e => hn.1 (e ▸ List.mem_map.2 ⟨x, List.mem_of_getElem? h, rfl⟩)
    have ih := ruleOf_at l i x hn.2 h
    unfold ruleOf at *
    rw [List.find?_cons_of_neg (by simpa using hne)]
    exact ih

theorem size_le_sizes : ∀ (l : List (Int × Blk)) (x : Int × Blk), x ∈ l → x.2.size ≤ sizes l
  | [], x, h => by cases h
  | y :: l, x, h => by
    have e : sizes (y :: l) = y.2.size + sizes l := by simp [sizes]
    rcases List.mem_cons.1 h with rfl | h
    · omega
    · have := size_le_sizes l x h; omega

section
variable {B : Nat} {w : World} {gp bm : Nat} {vd : Value} {p : Policy}

set_option maxRecDepth 100000 in
set_option maxHeartbeats 4000000 in
theorem of_any (h : PolR B w gp bm vd p) (hp : PolW p) : Calls Tryz.prog 52 #[.pointer (some ⟨gp, 0, none⟩)] w fun e w' =>
    ∃ gg bc loops, e = .returned (.pointer (some ⟨gg, 0, none⟩)) ∧ Kept (fun b => w.heap.size ≤ b) w w' ∧ CodeR (fun b => w.heap.size ≤ b) w' gg gp bc loops p.rules := by
  have hmm := @run_makeMap Tryz.prog
  obtain ⟨Mp, hM, hM2, hM3⟩ := h.rules
  have hMa := (hM.alloc (.map #[] 0)).alloc (.cells #[.pointer (some ⟨gp, 0, none⟩), .map (some w.heap.size), .int .i64 0] 75)
  obtain ⟨clock, hrun, hrng⟩ := hMa.range (P := Tryz.prog) Tryz.underlying104
  have e1 : (w.alloc (.map #[] 0)).heap.size = w.heap.size + 1 := by simp
  have e2 : ((w.alloc (.map #[] 0)).alloc (.cells #[.pointer (some ⟨gp, 0, none⟩), .map (some w.heap.size), .int .i64 0] 75)).heap.size = w.heap.size + 1 + 1 := by simp
  rw [e2] at hrun hrng
  have p2 := h.row.cell 2
  have pl := h.row.lt
  simp at p2
  have HR := Lib.hid hrng
  have HM := Lib.hid hM
  have HM2 := Lib.hid hM2
  have HM3 := Lib.hid hM3
  have HP := Lib.hid hp
  clear h hM hMa hM2 hM3 hp hrng
  go_enter Tryz.func52, Tryz.ntmps52
  go_wp2_with fail
  go_loopg [] p.rules.length (fun kk wr => ∃ sk loops, p.rules.length - sk.length ≤ kk ∧ OfL w wr gp bm p.rules Mp sk loops)
  case atStart =>
    have hk0 := (((Kept.refl (fun b => w.heap.size ≤ b) w).alloc (Nat.le_refl _) (.map #[] 0)).alloc (by rw [e1]; omega) (.cells #[.pointer (some ⟨gp, 0, none⟩), .map (some w.heap.size), .int .i64 0] 75)).alloc (by rw [e2]; omega) (.mapIter (some bm) clock #[] clock)
    have hr0 := (Row.new (w.alloc (.map #[] 0)) 75 [.pointer (some ⟨gp, 0, none⟩), .map (some w.heap.size), .int .i64 0]).alloc (.mapIter (some bm) clock #[] clock)
    rw [e1] at hr0
    exact ⟨[], 0, by simp, HR.out, List.nodup_nil, (fun k hk => absurd hk List.not_mem_nil), hr0, ⟨[], ((IsMap.new w .i64).alloc _).alloc _, (fun k hk => absurd hk List.not_mem_nil), fun k _ => rfl⟩, Nat.zero_le _, hk0⟩
  case round =>
    obtain ⟨sk, loops, hkk, hL⟩ := hrel
    have hskl : sk.length ≤ p.rules.length := by
      have h1 := nodup_le sk _ hL.nd hL.sub
      rw [HM2.out] at h1
      simpa using h1
    rcases hL.rng.next (P := Tryz.prog) 0 with ⟨hall, hrun⟩ | ⟨y, hy, hns, w', hrun, hr', hk', hen⟩
    · have HL := Lib.hid hL
      have HALL := Lib.hid hall
      clear hL hall
      go_wp2_with fail
      go_ret
      refine ⟨_, _, loops, rfl, HL.out.kept, HL.out.row, ?_, by have := HL.out.lo; have := HP.out.rl; omega, Nat.le_succ _, Nat.le_refl _⟩
      obtain ⟨M, m1, m2, m3⟩ := HL.out.map
      refine ⟨M, m1, fun k => ?_⟩
      by_cases hk : k ∈ sk
      · obtain ⟨v, hv, hc⟩ := m2 k hk
        obtain ⟨b, c, hb, h1, h2⟩ := id hc
        rw [hb]
        exact ⟨v, hv, hc⟩
      · cases hr : ruleOf p.rules k with
        | none => exact m3 k hk
        | some b =>
          exfalso
          apply hk
          have hmem : k ∈ p.rules.map (·.1) := by
            cases hn : (ruleOf p.rules k).isSome with
            | false => rw [hr] at hn; cases hn
            | true =>
              unfold ruleOf at hr
              rw [Option.map_eq_some_iff] at hr
              obtain ⟨x, hx, _⟩ := hr
              have h1 := List.find?_some hx
              have h2 := List.mem_of_find?_eq_some hx
              exact List.mem_map.2 ⟨x, h2, by simpa using h1⟩
          rw [← HM2.out] at hmem
          obtain ⟨z, hz, rfl⟩ := List.mem_map.1 hmem
          exact HALL.out z hz
    · obtain ⟨k, v⟩ := y
      simp only at hns hrun hr' hen
      obtain ⟨i, hi⟩ := List.getElem?_of_mem hy
      obtain ⟨yb, hyb⟩ : ∃ yb, p.rules[i]? = some yb := by
        have := congrArg (fun l => l[i]?) HM2.out
        simp only [List.getElem?_map, hi, Option.map_some] at this
        cases hm : p.rules[i]? with
        | none => rw [hm] at this; cases this
        | some z => exact ⟨z, rfl⟩
      have hkb : yb.1 = k := by
        have := congrArg (fun l => l[i]?) HM2.out
        simp only [List.getElem?_map, hi, hyb, Option.map_some, Option.some.injEq] at this
        exact this.symm
      obtain ⟨k0, b⟩ := yb
      simp only at hkb
      subst hkb
      have hblk : BlkV (fun k => k < w.heap.size) w v b := (HM3.out i (k0, v) (k0, b) hi hyb).mono (fun k h1 _ => h1)
      have hrl : ruleOf p.rules k0 = some b := ruleOf_at p.rules i (k0, b) HP.out.rules.nodup hyb
      have hbs : b.size ≤ 700 := Nat.le_trans (size_le_sizes p.rules (k0, b) (List.mem_of_getElem? hyb)) HP.out.size
      have hin : k0 ∈ Mp.map (·.1) := List.mem_map.2 ⟨(k0, v), hy, rfl⟩
      have hskl' : (k0 :: sk).length ≤ p.rules.length := by
        have h1 := nodup_le (k0 :: sk) (Mp.map (·.1)) (List.nodup_cons.2 ⟨hns, hL.nd⟩) (fun x hx => (List.mem_cons.1 hx).elim (fun e => e ▸ hin) (hL.sub x))
        rw [HM2.out] at h1
        simpa using h1
      have hkw : Kept (fun b => w.heap.size ≤ b) w w' := hL.kept.trans (hk'.mono (fun b hb => by rw [hb]; omega))
      have hrow' : Row w' (w.heap.size + 1) 75 [.pointer (some ⟨gp, 0, none⟩), .map (some w.heap.size), .int .i64 loops] := hL.row.kept hk' (by omega)
      have hlt' := hrow'.lt
      have hmk0 : MkR (fun b => b = w.heap.size + 1 ∨ w'.heap.size ≤ b) (w'.alloc (.cells #[.pointer (some ⟨w.heap.size + 1, 0, none⟩), .slice none 0 0] 206)) w'.heap.size (w.heap.size + 1) gp w.heap.size (.slice none 0 0) loops [] :=
        ⟨Row.new w' _ _, hrow'.alloc _, ⟨World.ownsRow_nil _ _ _ _, fun b hb => by cases hb⟩, .inr (Nat.le_refl _), .inl rfl⟩
      have hup : Up (fun b => b = w.heap.size + 1 ∨ w'.heap.size ≤ b) (w'.alloc (.cells #[.pointer (some ⟨w.heap.size + 1, 0, none⟩), .slice none 0 0] 206)) := fun b hb => .inr (by simp at hb; omega)
      have hbk := block_any_mk hmk0 hup (b := b) (v := v) ((hblk.kept (fun k cs hk hr => by
          have h1 := hkw.block k (by omega)
          exact (Below.heap_alloc w' _ k (Nat.lt_of_lt_of_le hk hkw.size)).trans h1)).mono (fun k _ h1 => by have := hkw.size; rintro (rfl | h2) <;> omega)) (by simp; omega) (by have := hL.lo; have := HP.out.rl; have : sk.length ≤ 700 := Nat.le_trans hskl HP.out.rl; omega)
      have HL := Lib.hid hL
      have HR' := Lib.hid hr'
      have HK' := Lib.hid hk'
      have HRL := Lib.hid hrl
      have HKW := Lib.hid hkw
      have HROW := Lib.hid hrow'
      have HNS := Lib.hid hns
      have HIN := Lib.hid hin
      have HBK := Lib.hid hbk
      have HUP := Lib.hid hup
      clear hL hr' hk' hblk hrl hkw hrow' hns hi hyb hy hin hmk0 hup hbk
      go_wp2_with fail
      refine HBK.out.mono ?_
      rintro e w2 ⟨rfl, hk2, vl2, hm2⟩
      have hcl : ([] ++ comp loops ([] : List Ins).length b).length ≤ 1000000 := by
        have := comp_len b loops 0
        simp; omega
      have hput := put_of hm2 (HUP.out.kept hk2) hcl .fin rfl rfl rfl
      have HPUT := Lib.hid hput
      have K2 := Lib.hid hk2
      clear hput hk2 hm2 hcl
      go_wp2_with fail
      refine HPUT.out.mono ?_
      rintro e w3 ⟨rfl, hk3, vl3, hm3⟩
      have ka : Kept (fun b => w'.heap.size ≤ b) w' (w'.alloc (.cells #[.pointer (some ⟨w.heap.size + 1, 0, none⟩), .slice none 0 0] 206)) := (Kept.refl _ w').alloc (Nat.le_refl _) _
      have k3 : Kept (fun b => b = w.heap.size + 1 ∨ w'.heap.size ≤ b) w' w3 := (ka.mono (fun b hb => .inr hb)).trans (K2.out.trans hk3)
      obtain ⟨M, m1, m2, m3⟩ := HL.out.map
      have hlw : w.heap.size + 1 + 1 < w'.heap.size := by
        obtain ⟨es, c, sb, _, _, _, _, _, h6, _⟩ := HR'.out
        rcases Nat.lt_or_ge (w.heap.size + 1 + 1) w'.heap.size with hlt | hge
        · exact hlt
        · rw [Array.getElem?_eq_none hge] at h6; cases h6
      have k03 : Kept (fun b => b = w.heap.size + 1 + 1 ∨ b = w.heap.size + 1 ∨ w'.heap.size ≤ b) wr w3 := (HK'.out.mono (fun b hb => .inl hb)).trans (k3.mono (fun b hb => .inr hb))
      have hM3 : IsMap w3 w.heap.size .i64 M := m1.kept k03 (by omega)
      have c1 := hm3.row.cell 1
      have g1 := hm3.prog.cell 1
      have l3 := hm3.row.lt
      have l4 := hm3.prog.lt
      simp at c1 g1
      have HMM := Lib.hid hM3.drew
      have HMK := Lib.hid hm3
      have M2 := Lib.hid m2
      have M3 := Lib.hid m3
      have K3 := Lib.hid k3
      have K03 := Lib.hid k03
      have M1 := Lib.hid m1
      clear hM3 hm3 m1 m2 m3 k3 k03 ka hk3
      go_wp2_with fail
      (refine wp_tail 9 (by kernel_rfl) (by kernel_rfl) ?_; simp only [List.take_succ_cons, List.take_zero, List.drop_succ_cons, List.drop_zero]; repeat still_step)
      refine wpStill_nil ?_
      go_wp2_with (at_mapUpdate; go_must (refine wp_mapUpdate Tryz.underlying73 Tryz.underlying3 HMM.out rfl _ _ _ rfl rfl k0 rfl vl3 rfl ?_; intro w6 hm6 hk6; have Hm6 := Lib.hid hm6; have Hk6 := Lib.hid hk6; clear hm6 hk6))
      have hne : ∀ x cs, Row w3 x 172 cs → ¬ x = w.heap.size := fun x cs hr e => HMM.out.ne_row hr.drew e.symm
      have hsk : mget M k0 = none := M3.out k0 HNS.out
      have hm6 := Hm6.out
      rw [mput_fresh vl3 hsk] at hm6
      go_roundg (p.rules.length - (sk.length + 1))
      case measure => have : (k0 :: sk).length = sk.length + 1 := rfl; omega
      case rel =>
        refine ⟨k0 :: sk, loops + b.loops, by simp, ?_⟩
        have hbmw : bm < w.heap.size := HM.out.lt
        refine ⟨HR'.out.kept_ ?_ ?_, List.nodup_cons.2 ⟨HNS.out, HL.out.nd⟩, fun x hx => (List.mem_cons.1 hx).elim (fun e => e ▸ HIN.out) (HL.out.sub x), HMK.out.prog.drew.kept Hk6.out (by omega), ⟨_, hm6, ?_, ?_⟩, ?_, ?_⟩
        · exact (Hk6.out.block _ (by omega)).trans (K3.out.block _ (by omega))
        · exact (Hk6.out.block _ (by omega)).trans (K3.out.block _ (by omega))
        · intro k hk
          rcases List.mem_cons.1 hk with rfl | hk
          · refine ⟨vl3, mget_app_new hsk, b, loops, HRL.out, ?_, Nat.le_refl _⟩
            have hs := HMK.out.l.mono (S' := fun b => w.heap.size ≤ b) (fun x hx => by rcases hx with rfl | hx <;> omega)
            have hs2 := (hs.of_heap (w' := w3.drew) rfl).kept Hk6.out (fun g hg => by obtain ⟨cs, hr⟩ := hs.row hg; exact hne g cs hr)
            exact hs2
          · obtain ⟨v', hv', hc⟩ := M2.out k hk
            refine ⟨v', mget_app_old hv', ?_⟩
            have hc3 := hc.kept (loops' := loops + b.loops) K03.out (fun x cs hr => by
              have h1 := HL.out.rng.ne_row hr
              have h2 := hr.ne_ HL.out.row (by decide)
              have h3 := hr.lt
              have h4 := HK'.out.size
              omega) (by omega)
            have hc4 : RuleC (fun b => w.heap.size ≤ b) w3.drew p.rules (loops + b.loops) k v' := hc3.kept (S1 := fun _ => False) ((Kept.refl _ w3).drew) (fun _ _ _ x => x) (Nat.le_refl _)
            exact hc4.kept Hk6.out (fun x cs hr => hne x cs hr) (Nat.le_refl _)
        · intro k hk
          exact mget_app_none (M3.out k (fun h => hk (List.mem_cons_of_mem _ h))) (fun e => hk (e ▸ List.mem_cons_self ..))
        · have := HL.out.lo
          have := loops_le b
          simp only [List.length_cons]
          omega
        · exact ((HKW.out.trans (K3.out.mono (fun x hx => by rcases hx with rfl | hx <;> omega))).drew).trans (Hk6.out.mono (fun x hx => by rw [hx]; exact Nat.le_refl _))
end
end Go.Proofs.YtemppijblfflgabGreatDoor.Ev
namespace Go.Proofs.YtemppijblfflgabGreatDoor.Ev
open Go Go.RowKit

theorem RulesR.mono_ {N N' : Nat → Prop} {w : World} {bm : Nat} {rules : List (Int × Blk)} (h : RulesR N w bm rules) (hN : ∀ k, k < w.heap.size → N k → N' k) : RulesR N' w bm rules := by
  obtain ⟨M, h1, h2, h3⟩ := h
  exact ⟨M, h1, h2, fun i x y hx hy => (h3 i x y hx hy).mono hN⟩

/-- A program and its policy in memory, all of it in S. -/
structure ProgR (S : Nat → Prop) (w : World) (gg : Nat) (p : Policy) (gp bm bc loops : Nat) (vd : Value) : Prop where
  code : CodeR S w gg gp bc loops p.rules
  pol : Row w gp 106 [vd, .int .i64 p.freq, .map (some bm)]
  decls : Sl S w 102 3 vd p.decls.length (p.decls.flatMap encDecl)
  rules : RulesR S w bm p.rules
  sp : S gp
  sb : S bm

section
variable {S S' T : Nat → Prop} {w w' : World} {gg gp bm bc loops : Nat} {vd : Value} {p : Policy} {rules : List (Int × Blk)}

theorem CodeR.kept_ (h : CodeR S w gg gp bc loops rules) (hk : Kept T w w') (hT : ∀ b, S b → b < w.heap.size → ¬ T b) : CodeR S w' gg gp bc loops rules := by
  obtain ⟨M, h1, h2⟩ := h.map
  refine ⟨h.row.kept hk (hT _ h.sg h.row.lt), ⟨M, h1.kept hk (hT _ h.sm h1.lt), fun k => ?_⟩, h.lo, h.sg, h.sm⟩
  have := h2 k
  cases hr : ruleOf rules k with
  | none => rw [hr] at this; exact this
  | some b =>
    rw [hr] at this
    obtain ⟨v, a, b', c, d1, d2, d3⟩ := this
    exact ⟨v, a, b', c, d1, d2.kept hk (fun g hg => hT g (d2.2 g hg) (d2.lt hg)), d3⟩
theorem CodeR.mono_ (h : CodeR S w gg gp bc loops rules) (hS : ∀ b, b < w.heap.size → S b → S' b) : CodeR S' w gg gp bc loops rules := by
  obtain ⟨M, h1, h2⟩ := h.map
  refine ⟨h.row, ⟨M, h1, fun k => ?_⟩, h.lo, hS _ h.row.lt h.sg, hS _ h1.lt h.sm⟩
  have := h2 k
  cases hr : ruleOf rules k with
  | none => rw [hr] at this; exact this
  | some b =>
    rw [hr] at this
    obtain ⟨v, a, b', c, d1, d2, d3⟩ := this
    exact ⟨v, a, b', c, d1, ⟨d2.1, fun g hg => hS g (d2.lt hg) (d2.2 g hg)⟩, d3⟩

theorem ProgR.kept (h : ProgR S w gg p gp bm bc loops vd) (hk : Kept T w w') (hT : ∀ b, S b → b < w.heap.size → ¬ T b) : ProgR S w' gg p gp bm bc loops vd := by
  obtain ⟨M, h1, _⟩ := h.rules
  exact ⟨h.code.kept_ hk hT, h.pol.kept hk (hT _ h.sp h.pol.lt), h.decls.kept hk (fun b hb => hT b (h.decls.2 b hb) (h.decls.lt hb)),
    h.rules.kept (hk.block bm (hT _ h.sb h1.lt)) (fun k cs hN hr => hk.block k (hT k hN hr.lt)), h.sp, h.sb⟩
theorem ProgR.mono (h : ProgR S w gg p gp bm bc loops vd) (hS : ∀ b, b < w.heap.size → S b → S' b) : ProgR S' w gg p gp bm bc loops vd := by
  obtain ⟨M, h1, _⟩ := h.rules
  exact ⟨h.code.mono_ hS, h.pol, ⟨h.decls.1, fun g hg => hS g (h.decls.lt hg) (h.decls.2 g hg)⟩, RulesR.mono_ h.rules hS, hS _ h.pol.lt h.sp, hS _ h1.lt h.sb⟩
end

/-- An engine, all of whose blocks lie in S; its arena's in SA. -/
structure EngP (S : Nat → Prop) (w : World) (ge : Nat) (e : Eng) (gg gs ga gp bm bc loops : Nat) (vd vva : Value) (SA : Nat → Prop) (A : Arena) (ns : List (List Nat)) : Prop where
  row : Row w ge 79 [.pointer (some ⟨gg, 0, none⟩), .pointer (some ⟨gs, 0, none⟩), .int .i64 e.n.hits, .int .i64 e.n.misses, .int .i64 e.n.evicted]
  prog : ProgR (fun b => S b ∧ ¬ SA b) w gg e.p gp bm bc loops vd
  srow : Row w gs 92 [.pointer (some ⟨ga, 0, none⟩), vva]
  vars : Sl (fun b => S b ∧ ¬ SA b) w 3 1 vva e.s.vars.length (e.s.vars.map encI)
  ar : ∃ vl vf vq bm, ARep SA w ga A vl vf vq bm
  inv : AInv A ns e.s.q
  si : SInv e.p e.s
  pw : PolW e.p
  nov : ∀ (j : Nat) x, AtQ e.s j x → (declAt e.p.decls (j : Int)).kind ≠ 2
  sa : ∀ b, SA b → S b
  se : S ge ∧ ¬ SA ge
  ss : S gs ∧ ¬ SA gs

/-- An engine in memory. -/
def EngR (S : Nat → Prop) (w : World) (ge : Nat) (e : Eng) : Prop :=
  ∃ gg gs ga gp bm bc loops vd vva SA A ns, EngP S w ge e gg gs ga gp bm bc loops vd vva SA A ns

section
variable {S S' T : Nat → Prop} {w w' : World} {ge : Nat} {e : Eng}
theorem EngR.kept (h : EngR S w ge e) (hk : Kept T w w') (hT : ∀ b, S b → b < w.heap.size → ¬ T b) : EngR S w' ge e := by
  obtain ⟨gg, gs, ga, gp, bm, bc, loops, vd, vva, SA, A, ns, h⟩ := h
  obtain ⟨vl, vf, vq, bm', ha⟩ := h.ar
  have ha' := ha.shrink
  have hT' : ∀ b, S b ∧ ¬ SA b → b < w.heap.size → ¬ T b := fun b hb => hT b hb.1
  refine ⟨gg, gs, ga, gp, bm, bc, loops, vd, vva, SA, A, ns, h.row.kept hk (hT _ h.se.1 h.row.lt), h.prog.kept hk hT', h.srow.kept hk (hT _ h.ss.1 h.srow.lt), h.vars.kept hk (fun b hb => hT b (h.vars.2 b hb).1 (h.vars.lt hb)),
    ⟨vl, vf, vq, bm', (ha'.kept hk (fun b hb => hT b (h.sa b hb.1) hb.2)).mono (fun b hb => hb.1)⟩, h.inv, h.si, h.pw, h.nov, h.sa, h.se, h.ss⟩
theorem EngR.mono (h : EngR S w ge e) (hS : ∀ b, S b → S' b) : EngR S' w ge e := by
  obtain ⟨gg, gs, ga, gp, bm, bc, loops, vd, vva, SA, A, ns, h⟩ := h
  have hS' : ∀ b, b < w.heap.size → (S b ∧ ¬ SA b) → (S' b ∧ ¬ SA b) := fun b _ hb => ⟨hS b hb.1, hb.2⟩
  exact ⟨gg, gs, ga, gp, bm, bc, loops, vd, vva, SA, A, ns, h.row, h.prog.mono hS', h.srow, h.vars.mono (fun b hb => ⟨hS b hb.1, hb.2⟩), h.ar, h.inv, h.si, h.pw, h.nov, fun b hb => hS b (h.sa b hb), ⟨hS _ h.se.1, h.se.2⟩, ⟨hS _ h.ss.1, h.ss.2⟩⟩
theorem EngR.lt (h : EngR S w ge e) : ge < w.heap.size := by
  obtain ⟨gg, gs, ga, gp, bm, bc, loops, vd, vva, SA, A, ns, h⟩ := h
  exact h.row.lt
theorem EngR.inv (h : EngR S w ge e) : PolW e.p ∧ EInv e.p e.s := by
  obtain ⟨gg, gs, ga, gp, bm, bc, loops, vd, vva, SA, A, ns, h⟩ := h
  exact ⟨h.pw, h.si, h.nov, A, ns, h.inv⟩
end
end Go.Proofs.YtemppijblfflgabGreatDoor.Ev
namespace Go.Proofs.YtemppijblfflgabGreatDoor.Ev
open Go Go.RowKit Go.Extern.Stop Go.Stop Go.Extern

theorem isTypeOf (v : Value) (w : World) : (Extern.ReflectliteType.typeOf #[.iface 304 v]).run Tryz.prog w = .ok (.iface 242 (.agg #[.pointer (some ⟨21, 304, none⟩)])) w := by kernel_rfl
theorem isComparable (w : World) : ((Extern.ReflectliteType.method fun t => do Extern.Rtype.noPackHeld "Comparable" t; Functor.map (fun a => Value.bool a.comparable) (typeInfo t)) #[.agg #[.pointer (some ⟨21, 304, none⟩)]]).run Tryz.prog w = .ok (.bool true) w := by kernel_rfl
theorem isMethodComparable (v : Value) (w : World) : (Go.method 433 242 v "Comparable").run Tryz.prog w = .ok (194, v) w := by kernel_rfl
theorem isComp : (Tryz.prog.info? 304).map (·.comparable) = some true := by kernel_rfl
theorem isSize : (Tryz.prog.info? 306).map (·.size) = some 1 := by kernel_rfl
theorem noIsE (v : Value) (xT : TypeId) (w : World) : (Instr.typeAssert (.iface 304 v) xT 261 true).run Tryz.prog w = .ok (.tuple #[.nilIface, .bool false]) w := run_typeAssert_lacksB Tryz.underlying261 (by kernel_rfl) (by kernel_rfl) v xT w
theorem noUnwrapE (v : Value) (xT : TypeId) (w : World) : (Instr.typeAssert (.iface 304 v) xT 249 true).run Tryz.prog w = .ok (.tuple #[.nilIface, .bool false]) w := run_typeAssert_lacksB Tryz.underlying249 (by kernel_rfl) (by kernel_rfl) v xT w
theorem noUnwrapsE (v : Value) (xT : TypeId) (w : World) : (Instr.typeAssert (.iface 304 v) xT 251 true).run Tryz.prog w = .ok (.tuple #[.nilIface, .bool false]) w := run_typeAssert_lacksB Tryz.underlying251 (by kernel_rfl) (by kernel_rfl) v xT w
theorem noIsF (v : Value) (xT : TypeId) (w : World) : (Instr.typeAssert (.iface 125 v) xT 261 true).run Tryz.prog w = .ok (.tuple #[.nilIface, .bool false]) w := run_typeAssert_lacksB Tryz.underlying261 (by kernel_rfl) (by kernel_rfl) v xT w
theorem hasUnwrapF (v : Value) (xT : TypeId) (w : World) : (Instr.typeAssert (.iface 125 v) xT 249 true).run Tryz.prog w = .ok (.tuple #[.iface 125 v, .bool true]) w := run_typeAssert_hasB Tryz.underlying249 (by kernel_rfl) v xT w

set_option maxRecDepth 100000 in
theorem unwrap_any (gf : Nat) (a b : Value) (w : World) (h : Row w gf 129 [a, b]) : Calls Tryz.prog 187 #[.pointer (some ⟨gf, 0, none⟩)] w fun e w' => e = .returned a ∧ w' = w := by
  have c0 := h.cell 0
  simp at c0
  clear h
  go_enter Tryz.func187, Tryz.ntmps187
  go_wp2
  go_ret
  exact ⟨rfl, rfl⟩

theorem methodUnwrap (v : Value) (w : World) : (Go.method 433 125 v "Unwrap").run Tryz.prog w = .ok (187, v) w := by kernel_rfl

set_option maxRecDepth 100000 in
theorem is_fault_same (gf : Nat) (x : Value) (b : Addr) (w : World) (h : Row w gf 129 [.iface 304 (.pointer (some b)), x]) :
    Calls Tryz.prog 68 #[.iface 125 (.pointer (some ⟨gf, 0, none⟩)), .iface 304 (.pointer (some b))] w fun e w' => e = .returned (.bool true) ∧ w' = w := by
  obtain ⟨i, hi, hcmp⟩ := Option.map_eq_some_iff.1 isComp
  obtain ⟨j, hj, hjs⟩ := Option.map_eq_some_iff.1 isSize
  have tT := isTypeOf
  have cT := isComparable
  have mR := isMethodComparable
  have nE := noIsE
  have uE := noUnwrapE
  have vE := noUnwrapsE
  have nW := noIsF
  have uW := hasUnwrapF
  have mU := methodUnwrap
  have heq := run_eql_iface_ptr_same (P := Tryz.prog) w b Tryz.underlying96 Tryz.underlying304 hi hcmp hj
  have hty := run_eql_iface_types (P := Tryz.prog) 125 304 (.pointer (some ⟨gf, 0, none⟩)) (.pointer (some b)) Tryz.underlying96 (by decide) w
  have h8 := @run_callFunc_extern Tryz.prog 106 _ Extern.ReflectliteType.typeOf Tryz.func106 (by kernel_rfl) (by kernel_rfl) (by kernel_rfl) (by kernel_rfl)
  have h32 := @run_callFunc_extern Tryz.prog 194 _ (Extern.ReflectliteType.method fun t => do Extern.Rtype.noPackHeld "Comparable" t; pure (.bool (← typeInfo t).comparable)) Tryz.func194 (by kernel_rfl) (by kernel_rfl) (by kernel_rfl) (by kernel_rfl)
  have HR := Lib.hid h
  clear h
  go_enter Tryz.func68, Tryz.ntmps68
  go_wp2
  refine wp_loop_rounds 2 ?_
  rw [rounds_succ]
  go_wp2_with (go_at_call 187; refine (unwrap_any gf _ x w HR.out).mono ?_; rintro e w' ⟨rfl, rfl⟩)
  rw [rounds_succ]
  go_wp2
  go_ret
  exact ⟨rfl, rfl⟩

set_option maxRecDepth 100000 in
theorem is_fault_other (gf : Nat) (x : Value) (a b : Addr) (ca cb : Array Value) (ta tb : TypeId) (w : World) (h : Row w gf 129 [.iface 304 (.pointer (some a)), x]) (hne : a ≠ b) (ha : w.heap[a.block]? = some (.cells ca ta (0, 0))) (hb : w.heap[b.block]? = some (.cells cb tb (0, 0))) :
    Calls Tryz.prog 68 #[.iface 125 (.pointer (some ⟨gf, 0, none⟩)), .iface 304 (.pointer (some b))] w fun e w' => e = .returned (.bool false) ∧ w' = w := by
  obtain ⟨i, hi, hcmp⟩ := Option.map_eq_some_iff.1 isComp
  obtain ⟨j, hj, hjs⟩ := Option.map_eq_some_iff.1 isSize
  have tT := isTypeOf
  have cT := isComparable
  have mR := isMethodComparable
  have nE := noIsE
  have uE := noUnwrapE
  have vE := noUnwrapsE
  have nW := noIsF
  have uW := hasUnwrapF
  have mU := methodUnwrap
  have heq := run_eql_iface_ptr_other (P := Tryz.prog) w Tryz.underlying96 Tryz.underlying304 hi hcmp hj (by rw [hjs]; decide) hne ha hb
  have hty := run_eql_iface_types (P := Tryz.prog) 125 304 (.pointer (some ⟨gf, 0, none⟩)) (.pointer (some b)) Tryz.underlying96 (by decide) w
  have h8 := @run_callFunc_extern Tryz.prog 106 _ Extern.ReflectliteType.typeOf Tryz.func106 (by kernel_rfl) (by kernel_rfl) (by kernel_rfl) (by kernel_rfl)
  have h32 := @run_callFunc_extern Tryz.prog 194 _ (Extern.ReflectliteType.method fun t => do Extern.Rtype.noPackHeld "Comparable" t; pure (.bool (← typeInfo t).comparable)) Tryz.func194 (by kernel_rfl) (by kernel_rfl) (by kernel_rfl) (by kernel_rfl)
  have HR := Lib.hid h
  clear h
  go_enter Tryz.func68, Tryz.ntmps68
  go_wp2
  refine wp_loop_rounds 2 ?_
  rw [rounds_succ]
  go_wp2_with (go_at_call 187; refine (unwrap_any gf _ x w HR.out).mono ?_; rintro e w' ⟨rfl, rfl⟩)
  rw [rounds_succ]
  go_wp2
  go_ret
  exact ⟨rfl, rfl⟩
end Go.Proofs.YtemppijblfflgabGreatDoor.Ev
