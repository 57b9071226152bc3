/- The place of a name of one kind. No program in sight. engine.find: walked. engine.Keys, Value, Counts: walked. errors.Is over this program's errors: a *Fault that wraps a sentinel, a bare sentinel. After the worked text SentryIs. errors.As at this program's *Fault: Go's own text of errors.As and errors.as, walked. After the worked text ToyasAs. append of a whole slice, or of a part of one, to a slice that owns its row. Over any program. Conditions: none. -/
import Derived.LaidEql
import Derived.Stop.Asserts
import Derived.RowKitTokens
import Derived.LoopN
import Derived.Laws.AppendOwnNone
import Derived.Test.YtemppijblfflgaaGreatDoorZb01
import Derived.Test.YtemppijblfflgaaGreatDoorZb06
import Derived.Test.YtemppijblfflgaaGreatDoorZb08
import Derived.Test.YtemppijblfflgaaGreatDoorZb14
set_option linter.all false
set_option linter.unusedSimpArgs false
set_option linter.unusedVariables false
namespace Go.Proofs.YtemppijblfflgaaGreatDoor.Ev

def findP (q : Decl → Bool) : List Decl → Nat → Int
  | [], _ => -1
  | d :: l, k => if q d = true then (k : Int) else findP q l (k + 1)

theorem findP_miss (q : Decl → Bool) : ∀ (l : List Decl) (k : Nat), (∀ (j : Nat) (d : Decl), l[j]? = some d → q d = false) → findP q l k = -1
  | [], k, _ => rfl
  | d :: l, k, h => by
    rw [findP, if_neg (by rw [h 0 d rfl]; decide)]
    exact findP_miss q l (k + 1) (fun j d' hd => h (j + 1) d' hd)
theorem findP_hit (q : Decl → Bool) : ∀ (l : List Decl) (k i : Nat) (d : Decl), l[i]? = some d → q d = true → (∀ (j : Nat) (d : Decl), j < i → l[j]? = some d → q d = false) → findP q l k = ((k + i : Nat) : Int)
  | [], k, i, d, h, _, _ => by simp at h
  | d' :: l, k, 0, d, h, hn, _ => by
    simp only [List.getElem?_cons_zero, Option.some.injEq] at h
    subst h
    rw [findP, if_pos hn]
    rfl
  | d' :: l, k, i + 1, d, h, hn, hlt => by
    rw [findP, if_neg (by rw [hlt 0 d' (Nat.succ_pos _) rfl]; decide), findP_hit q l (k + 1) i d (by simpa using h) hn (fun j x hj hx => hlt (j + 1) x (by omega) (by simpa using hx))]
    congr 1
    omega

/-- What is asked of a declaration. -/
def isNV (nm : Bytes) (v : Bool) (d : Decl) : Bool := d.name == nm && ((d.kind == 2) == v)

theorem findP_find {l : List Decl} (hn : (l.map (·.name)).Nodup) (nm : Bytes) (v : Bool) :
    findP (isNV nm v) l 0 = if find l nm < 0 ∨ ((declAt l (find l nm)).kind == 2) ≠ v then -1 else find l nm := by
  have one : ∀ (i j : Nat) (d d' : Decl), l[i]? = some d → l[j]? = some d' → d.name = nm → d'.name = nm → i = j := by
    intro i j d d' hi hj h1 h2
    exact at_once hn (i := i) (j := j) (x := nm) (by rw [List.getElem?_map, hi, Option.map_some, h1]) (by rw [List.getElem?_map, hj, Option.map_some, h2])
  rcases findFrom_range nm l 0 with h | ⟨i, d, hi, hd, h⟩
  · have hf : find l nm = -1 := h
    rw [hf, if_pos (.inl (by decide))]
    refine findP_miss _ _ _ (fun j d hj => ?_)
    have hne : d.name ≠ nm := by
      intro e
      have hneg := find_neg (l := l) (name := nm) (by rw [hf]; decide)
      exact hneg (List.mem_map.2 ⟨d, List.mem_of_getElem? hj, e⟩)
    unfold isNV
    simp [hne]
  · have hf : find l nm = (i : Int) := by
      have : find l nm = ((0 + i : Nat) : Int) := h
      rw [this, Nat.zero_add]
    have hda : declAt l (i : Int) = d := declAt_some hi
    rw [hf, hda]
    by_cases hk : (d.kind == 2) = v
    · rw [if_neg (by rintro (h | h); omega; exact h hk)]
      have := findP_hit (isNV nm v) l 0 i d hi (by unfold isNV; simp [hd, hk]) (fun j d' hj hd' => by
        unfold isNV
        have hne : d'.name ≠ nm := fun e => by have := one j i d' d hd' hi e hd; omega
        simp [hne])
      rw [this, Nat.zero_add]
    · rw [if_pos (.inr hk)]
      refine findP_miss _ _ _ (fun j d' hj => ?_)
      unfold isNV
      by_cases hne : d'.name = nm
      · have := one j i d' d hj hi hne hd
        subst this
        rw [hi] at hj
        injection hj with hj
        subst hj
        have : ((d.kind == 2) == v) = false := by simpa using hk
        rw [this, Bool.and_false]
      · simp [hne]

theorem keys_findP {p : Policy} {s : St} {c : Cnt} (hn : (p.decls.map (·.name)).Nodup) (nm : Bytes) :
    (⟨p, s, c⟩ : Eng).keys nm = if findP (isNV nm false) p.decls 0 < 0 then none else some ((s.queue (findP (isNV nm false) p.decls 0)).map (·.key)) := by
  rw [findP_find hn]
  unfold Eng.keys
  by_cases h : find p.decls nm < 0 ∨ (declAt p.decls (find p.decls nm)).kind = 2
  · have h2 : find p.decls nm < 0 ∨ ((declAt p.decls (find p.decls nm)).kind == 2) ≠ false := h.elim .inl (fun e => .inr (by simp [e]))
    simp only [if_pos h, if_pos h2]
    rw [if_pos (by decide)]
  · have h2 : ¬ (find p.decls nm < 0 ∨ ((declAt p.decls (find p.decls nm)).kind == 2) ≠ false) := fun e => h (e.elim .inl (fun e => .inr (by simpa using e)))
    simp only [if_neg h, if_neg h2]
    rw [if_neg (fun e => h (.inl e))]
theorem value_findP {p : Policy} {s : St} {c : Cnt} (hn : (p.decls.map (·.name)).Nodup) (nm : Bytes) :
    (⟨p, s, c⟩ : Eng).value nm = if findP (isNV nm true) p.decls 0 < 0 then none else some (s.var (findP (isNV nm true) p.decls 0)) := by
  rw [findP_find hn]
  unfold Eng.value
  by_cases h : find p.decls nm < 0 ∨ (declAt p.decls (find p.decls nm)).kind ≠ 2
  · have h2 : find p.decls nm < 0 ∨ ((declAt p.decls (find p.decls nm)).kind == 2) ≠ true := h.elim .inl (fun e => .inr (by simp [e]))
    simp only [if_pos h, if_pos h2]
    rw [if_pos (by decide)]
  · have h2 : ¬ (find p.decls nm < 0 ∨ ((declAt p.decls (find p.decls nm)).kind == 2) ≠ true) := fun e => h (e.elim .inl (fun e => .inr (by simpa using e)))
    simp only [if_neg h, if_neg h2]
    rw [if_neg (fun e => h (.inl e))]
theorem findP_ix (q : Decl → Bool) (l : List Decl) : findP q l 0 = -1 ∨ Ix l.length (findP q l 0) := by
  have : ∀ (l : List Decl) (k : Nat), findP q l k = -1 ∨ ((k : Int) ≤ findP q l k ∧ findP q l k < ((k + l.length : Nat) : Int)) := by
    intro l
    induction l with
    | nil => exact fun k => .inl rfl
    | cons d l ih =>
      intro k
      rw [findP]
      split
      · right; simp; omega
      · rcases ih (k + 1) with h | h
        · exact .inl h
        · right; simp; omega
  rcases this l 0 with h | h
  · exact .inl h
  · exact .inr ⟨by simpa using h.1, by simpa using h.2⟩
end Go.Proofs.YtemppijblfflgaaGreatDoor.Ev
namespace Go.Proofs.YtemppijblfflgaaGreatDoor.Ev
open Go Go.RowKit Go.Shelf

set_option maxRecDepth 100000 in
set_option maxHeartbeats 400000 in
theorem efind1_any (nm : Bytes) (v : Bool) (b b2 : Nat) (d : Decl) (w : World) (hb : b < w.heap.size) (hb2 : b2 < w.heap.size) (hc : w.cell? ⟨b, 0, none⟩ = some (vs nm)) (hc2 : w.cell? ⟨b2, 0, none⟩ = some (.bool v)) :
    Calls Tryz.prog 64 #[.agg (encDecl d).toArray, .pointer (some ⟨b, 0, none⟩), .pointer (some ⟨b2, 0, none⟩)] w fun e w' => e = .returned (.bool (isNV nm v d)) ∧ Below w.heap.size w w' := by
  have hne : b ≠ w.heap.size := by omega
  have hne2 : b2 ≠ w.heap.size := by omega
  unfold encDecl vs at *
  unfold isNV
  have hk : (d.kind == 2) = decide ((d.kind : Int) = 2) := by
    rw [Bool.eq_iff_iff]; simp; omega
  rw [hk]
  generalize (d.kind : Int) = K
  clear hk
  by_cases hn : d.name = nm
  · have e1 : (d.name == nm) = true := by simpa using hn
    rw [e1]
    go_enter Tryz.func64, Tryz.ntmps64
    go_wp2
    all_goals (go_ret; exact ⟨by simp_all <;> rfl, (Below.refl _ w).alloc (Nat.le_refl _) _⟩)
  · have e1 : (d.name == nm) = false := by simpa using hn
    rw [e1]
    go_enter Tryz.func64, Tryz.ntmps64
    go_wp2
    all_goals (go_ret; exact ⟨by simp_all <;> rfl, (Below.refl _ w).alloc (Nat.le_refl _) _⟩)

set_option maxRecDepth 100000 in
set_option maxHeartbeats 1000000 in
theorem eindex_any {S : Nat → Prop} (nm : Bytes) (v : Bool) (b b2 : Nat) (l : List Decl) (vd : Value) (w : World) (hs : Sl S w 86 3 vd l.length (l.flatMap encDecl)) (hl : l.length ≤ 1000) (hb : b < w.heap.size) (hb2 : b2 < w.heap.size)
    (hc : w.cell? ⟨b, 0, none⟩ = some (vs nm)) (hc2 : w.cell? ⟨b2, 0, none⟩ = some (.bool v)) :
    Calls Tryz.prog 63 #[vd, .func (.func 64) #[] #[.pointer (some ⟨b, 0, none⟩), .pointer (some ⟨b2, 0, none⟩)]] w fun e w' => e = .returned (.int .i64 (findP (isNV nm v) l 0)) ∧ Below w.heap.size w w' := by
  obtain ⟨ao, cap, rfl⟩ := hs.any_
  have HS := Lib.hid hs
  have HC := Lib.hid hc
  have HB := Lib.hid hb
  have HC2 := Lib.hid hc2
  have HB2 := Lib.hid hb2
  clear hs hc hb hc2 hb2
  go_enter Tryz.func63, Tryz.ntmps63
  go_wp2
  go_loopg [5, 8] l.length (fun gg _ s8 wr => ∃ kk : Nat, kk ≤ l.length ∧ l.length - kk ≤ gg ∧ s8 = .int .i64 kk ∧ Below w.heap.size w wr ∧ (∀ (j : Nat) (d : Decl), j < kk → l[j]? = some d → isNV nm v d = false))
  case atStart => exact ⟨0, Nat.zero_le _, by omega, rfl, Below.refl _ w, fun j d hj => absurd hj (Nat.not_lt_zero _)⟩
  case round =>
    obtain ⟨kk, hkk, hg, rfl, bw, a⟩ := hrel
    have BW := Lib.hid bw
    have A := Lib.hid a
    clear bw a
    by_cases hlt : kk < l.length
    · obtain ⟨x, hx⟩ : ∃ x, l[kk]? = some x := ⟨_, List.getElem?_eq_getElem hlt⟩
      obtain ⟨gd, rfl, hgd, hcell⟩ := HS.out.get_ (fun _ => rfl) hx
      have c0 : wr.cell? ⟨gd, kk * 3, none⟩ = some (.int .i64 x.kind) := (BW.out.cell (p := ⟨gd, kk * 3, none⟩) hgd).trans (hcell 0 (by omega))
      have c1 : wr.cell? ⟨gd, kk * 3 + 1, none⟩ = some (vs x.name) := (BW.out.cell (p := ⟨gd, kk * 3 + 1, none⟩) hgd).trans (hcell 1 (by omega))
      have c2 : wr.cell? ⟨gd, kk * 3 + 2, none⟩ = some (.int .i64 x.max) := (BW.out.cell (p := ⟨gd, kk * 3 + 2, none⟩) hgd).trans (hcell 2 (by omega))
      have hcall := efind1_any nm v b b2 x wr (Nat.lt_of_lt_of_le HB.out BW.out.size) (Nat.lt_of_lt_of_le HB2.out BW.out.size) ((BW.out.cell (p := ⟨b, 0, none⟩) HB.out).trans HC.out) ((BW.out.cell (p := ⟨b2, 0, none⟩) HB2.out).trans HC2.out)
      have HX := Lib.hid hx
      clear hx hcell hgd
      unfold vs at *
      cases hn : isNV nm v x with
      | true =>
        rw [hn] at hcall
        have HCA := Lib.hid hcall
        have HN := Lib.hid hn
        clear hcall hn
        go_wp2_with fail
        refine HCA.out.mono ?_
        rintro e w' ⟨rfl, hb'⟩
        have HBW := Lib.hid hb'
        clear hb'
        go_wp2
        go_ret
        refine ⟨?_, BW.out.trans (HBW.out.mono BW.out.size)⟩
        rw [findP_hit _ l 0 kk x HX.out HN.out A.out, Nat.zero_add]
        rfl
      | false =>
        rw [hn] at hcall
        have HCA := Lib.hid hcall
        have HN := Lib.hid hn
        clear hcall hn
        go_wp2_with fail
        refine HCA.out.mono ?_
        rintro e w' ⟨rfl, hb'⟩
        have HBW := Lib.hid hb'
        clear hb'
        go_wp2
        go_roundg (l.length - (kk + 1))
        case measure => omega
        case rel =>
          refine ⟨kk + 1, by omega, by omega, by go_num, BW.out.trans (HBW.out.mono BW.out.size), fun j d hj hd => ?_⟩
          by_cases e : j = kk
          · subst e
            rw [HX.out] at hd
            injection hd with hd
            exact hd ▸ HN.out
          · exact A.out j d (by omega) hd
    · have : kk = l.length := by omega
      subst this
      go_wp2
      go_ret
      refine ⟨?_, BW.out⟩
      rw [findP_miss _ l 0 (fun j d hd => A.out j d (List.getElem?_eq_some_iff.1 hd).1 hd)]
      rfl

/-- A number is given; new blocks alone. -/
def IntOut (w : World) (n : Int) (e : Ending) (w' : World) : Prop := e = .returned (.int .i64 n) ∧ Kept (fun b => w.heap.size ≤ b) w w'

theorem Kept.of_belowN {w w' : World} (h : Below w.heap.size w w') : Kept (fun b => w.heap.size ≤ b) w w' := Kept.of_below h (fun _ h => h)

set_option maxRecDepth 100000 in
set_option maxHeartbeats 1000000 in
theorem efind_any {S : Nat → Prop} {w : World} {ge : Nat} {e : Eng} (h : EngR S w ge e) (nm : Bytes) (v : Bool) :
    Calls Tryz.prog 39 #[.pointer (some ⟨ge, 0, none⟩), vs nm, .bool v] w (IntOut w (findP (isNV nm v) e.p.decls 0)) := by
  obtain ⟨gg, gs, ga, gp, bm, bc, loops, vd, vva, SA, A, ns, h⟩ := h
  have c0 := h.row.cell 0
  have g0 := h.prog.code.row.cell 0
  have p0 := h.prog.pol.cell 0
  have r1 := h.row.lt
  have r2 := h.prog.code.row.lt
  have r3 := h.prog.pol.lt
  have hmf : ∀ (fn : Fn) (first cap : Array Value) (w : World), (Instr.makeFunc fn first cap).run Tryz.prog w = .ok (.func fn first cap) w := fun _ _ _ _ => rfl
  have hidx := eindex_any nm v w.heap.size (w.heap.size + 1) e.p.decls vd ((w.alloc (.cells #[vs nm] 9)).alloc (.cells #[.bool v] 4)) ((h.prog.decls.alloc _).alloc _) (by have := h.pw.decls.len; omega) (by simp; omega) (by simp) (by simp) (by simp)
  obtain ⟨ao, cap, rfl⟩ := h.prog.decls.any_
  have q1 : ¬ ge = w.heap.size := by omega
  have q2 : ¬ ge = w.heap.size + 1 := by omega
  have q3 : ¬ gg = w.heap.size := by omega
  have q4 : ¬ gg = w.heap.size + 1 := by omega
  have q5 : ¬ gp = w.heap.size := by omega
  have q6 : ¬ gp = w.heap.size + 1 := by omega
  have HI := Lib.hid hidx
  generalize findP (isNV nm v) e.p.decls 0 = R at *
  generalize e.p.decls.length = D at *
  clear hidx h
  simp at c0 g0 p0
  unfold vs at *
  go_enter Tryz.func39, Tryz.ntmps39
  go_wp2_with fail
  refine HI.out.mono ?_
  rintro e w' ⟨rfl, hb'⟩
  have HBW := Lib.hid hb'
  clear hb'
  go_wp2
  go_ret
  exact ⟨rfl, (((Kept.refl _ w).alloc (Nat.le_refl _) _).alloc (by simp) _).trans ((Kept.of_belowN HBW.out).mono (fun b hb => by simp at hb; omega))⟩
end Go.Proofs.YtemppijblfflgaaGreatDoor.Ev
namespace Go.Proofs.YtemppijblfflgaaGreatDoor.Ev
open Go Go.RowKit

/-- What Keys gives. -/
def OutKeys (w : World) (r : Option (List Int)) (e : Ending) (w' : World) : Prop :=
  Kept (fun b => w.heap.size ≤ b) w w' ∧ match r with
    | none => e = .returned (.tuple #[.slice none 0 0, .int .i64 13])
    | some l => ∃ v, e = .returned (.tuple #[v, .int .i64 0]) ∧ Sl (fun b => w.heap.size ≤ b) w' 27 1 v l.length (l.map encU)

section
variable {S : Nat → Prop} {w : World} {ge : Nat} {e : Eng}

set_option maxRecDepth 100000 in
set_option maxHeartbeats 1000000 in
theorem ekeys_any (h0 : EngR S w ge e) (nm : Bytes) : Calls Tryz.prog 21 #[.pointer (some ⟨ge, 0, none⟩), vs nm] w (OutKeys w (e.keys nm)) := by
  have hfind := efind_any h0 nm false
  have hinv := h0.inv
  have hkeys : e.keys nm = if findP (isNV nm false) e.p.decls 0 < 0 then none else some ((e.s.queue (findP (isNV nm false) e.p.decls 0)).map (·.key)) := keys_findP (p := e.p) (s := e.s) (c := e.n) hinv.1.decls.nodup nm
  rw [hkeys]
  have hix := findP_ix (isNV nm false) e.p.decls
  generalize findP (isNV nm false) e.p.decls 0 = R at *
  have HF := Lib.hid hfind
  have H0 := Lib.hid h0
  clear hfind hkeys h0
  unfold vs at *
  rcases hix with rfl | hix
  · clear hinv
    go_enter Tryz.func21, Tryz.ntmps21
    go_wp2_with fail
    refine HF.out.mono ?_
    rintro e1 w1 ⟨rfl, hk1⟩
    go_wp2
    go_ret2
    exact ⟨hk1, rfl⟩
  · have hneg : ¬ R < 0 := by have := hix.1; omega
    rw [if_neg hneg]
    obtain ⟨m, rfl⟩ : ∃ m : Nat, R = (m : Int) := ⟨R.toNat, by have := hix.1; omega⟩
    obtain ⟨gg, gs, ga, gp, bm, bc, loops, vd, vva, SA, A, ns, h⟩ := H0.out
    obtain ⟨vl, vf, vq, bm2, har⟩ := h.ar
    have hm : m < A.qs.length := by rw [← h.inv.qlen, h.si.q]; have := hix.2; omega
    obtain ⟨l, hl⟩ := h.inv.get hm
    have hch := h.inv.chain hl
    have hfl := h.inv.fifty m l hl
    have hq := h.inv.queue e.s.vars hl
    have eq1 : (⟨e.s.q, e.s.vars⟩ : St) = e.s := rfl
    rw [eq1] at hq
    have hkv : keyVals A l = ((e.s.queue (m : Int)).map (·.key)).map encU := by
      rw [hq]
      unfold keyVals
      rw [List.map_map, List.map_map]
      rfl
    have hlen : ((e.s.queue (m : Int)).map (·.key)).length = l.length := by rw [hq]; simp
    have c1 := h.row.cell 1
    have s0 := h.srow.cell 0
    have r1 := h.row.lt
    have r2 := h.srow.lt
    have hcall : ∀ W, Kept (fun b => w.heap.size ≤ b) w W → Calls Tryz.prog 40 #[.pointer (some ⟨ga, 0, none⟩), .int .i64 m] W fun e w' =>
        ∃ v, e = .returned v ∧ Kept (fun b => W.heap.size ≤ b) W w' ∧ Sl (fun b => W.heap.size ≤ b) w' 27 1 v l.length (keyVals A l) := fun W hk => by
      have hW := (har.shrink).kept hk (fun b hb => by have := hb.2; omega)
      exact keys_any hW (So := fun b => W.heap.size ≤ b) (fun k hk => hk) (fun b hb => by have := hb.2; have := hk.size; omega) h.inv.ok (by have := h.inv.q8; omega) m hm l hch (by omega)
    have HC := Lib.hid hcall
    have HKV := Lib.hid hkv
    have HLEN := Lib.hid hlen
    clear hcall har h hch hl hq eq1 hkv hlen hinv hm hfl hix
    simp at c1 s0
    go_enter Tryz.func21, Tryz.ntmps21
    go_wp2_with fail
    refine HF.out.mono ?_
    rintro e1 w1 ⟨rfl, hk1⟩
    have d1 : w1.cell? ⟨ge, 1, none⟩ = some (.pointer (some ⟨gs, 0, none⟩)) := (hk1.cell (p := ⟨ge, 1, none⟩) (by simp only; omega)).trans c1
    have d0 : w1.cell? ⟨gs, 0, none⟩ = some (.pointer (some ⟨ga, 0, none⟩)) := (hk1.cell (p := ⟨gs, 0, none⟩) (by simp only; omega)).trans s0
    have K1 := Lib.hid hk1
    clear hk1
    go_wp2_with fail
    refine (HC.out _ K1.out).mono ?_
    rintro e1 w2 ⟨v, rfl, hk2, hs2⟩
    go_wp2
    go_ret2
    refine ⟨K1.out.trans (hk2.mono (fun b hb => Nat.le_trans K1.out.size hb)), v, rfl, ?_⟩
    rw [HLEN.out, ← HKV.out]
    exact hs2.mono (fun b hb => Nat.le_trans K1.out.size hb)

/-- What Value gives. -/
def OutVal (w : World) (r : Option Int) (e : Ending) (w' : World) : Prop :=
  Kept (fun b => w.heap.size ≤ b) w w' ∧ match r with
    | none => e = .returned (.tuple #[.int .i64 0, .int .i64 13])
    | some n => e = .returned (.tuple #[.int .i64 n, .int .i64 0])

set_option maxRecDepth 100000 in
set_option maxHeartbeats 1000000 in
theorem evalue_any (h0 : EngR S w ge e) (nm : Bytes) : Calls Tryz.prog 25 #[.pointer (some ⟨ge, 0, none⟩), vs nm] w (OutVal w (e.value nm)) := by
  have hfind := efind_any h0 nm true
  have hinv := h0.inv
  have hval : e.value nm = if findP (isNV nm true) e.p.decls 0 < 0 then none else some (e.s.var (findP (isNV nm true) e.p.decls 0)) := value_findP (p := e.p) (s := e.s) (c := e.n) hinv.1.decls.nodup nm
  rw [hval]
  have hix := findP_ix (isNV nm true) e.p.decls
  generalize findP (isNV nm true) e.p.decls 0 = R at *
  have HF := Lib.hid hfind
  have H0 := Lib.hid h0
  clear hfind hval h0
  unfold vs at *
  rcases hix with rfl | hix
  · clear hinv
    go_enter Tryz.func25, Tryz.ntmps25
    go_wp2_with fail
    refine HF.out.mono ?_
    rintro e1 w1 ⟨rfl, hk1⟩
    go_wp2
    go_ret2
    exact ⟨hk1, rfl⟩
  · have hneg : ¬ R < 0 := by have := hix.1; omega
    rw [if_neg hneg]
    obtain ⟨m, rfl⟩ : ∃ m : Nat, R = (m : Int) := ⟨R.toNat, by have := hix.1; omega⟩
    obtain ⟨gg, gs, ga, gp, bm, bc, loops, vd, vva, SA, A, ns, h⟩ := H0.out
    have hvl : e.s.vars.length = e.p.decls.length := h.si.v
    have hm : m < e.s.vars.length := by rw [hvl]; have := hix.2; omega
    have h8 := hinv.1.decls.len
    obtain ⟨gv, cv, rfl, _, hcv, hcm, hgv⟩ := h.vars.form (by omega)
    have cx := h.vars.1.cellAt m (by simpa using hm)
    have ex : (e.s.vars.map encI)[m]? = some (.int .i64 (e.s.var (m : Int))) := by
      unfold St.var
      rw [Int.toNat_natCast, List.getElem?_map, List.getElem?_eq_getElem hm]
      rfl
    rw [ex] at cx
    have c1 := h.row.cell 1
    have s1 := h.srow.cell 1
    have r1 := h.row.lt
    have r2 := h.srow.lt
    unfold maxLen at hcm
    generalize e.s.vars.length = L at *
    clear h hinv ex hix hvl
    simp at c1 s1
    go_enter Tryz.func25, Tryz.ntmps25
    go_wp2_with fail
    refine HF.out.mono ?_
    rintro e1 w1 ⟨rfl, hk1⟩
    have d1 : w1.cell? ⟨ge, 1, none⟩ = some (.pointer (some ⟨gs, 0, none⟩)) := (hk1.cell (p := ⟨ge, 1, none⟩) (by simp only; omega)).trans c1
    have d0 : w1.cell? ⟨gs, 1, none⟩ = some (.slice (some ⟨gv, 0, none⟩) L cv) := (hk1.cell (p := ⟨gs, 1, none⟩) (by simp only; omega)).trans s1
    have dx : w1.cell? ⟨gv, m, none⟩ = some (.int .i64 (e.s.var (m : Int))) := (hk1.cell (p := ⟨gv, m, none⟩) (by simp only; omega)).trans cx
    have K1 := Lib.hid hk1
    clear hk1
    go_wp2
    go_ret2
    exact ⟨K1.out, rfl⟩

theorem infoCounts : (Tryz.prog.info? 52).map (fun i => (i.zero, i.size, i.bytes)) = some (some (.agg #[.int .i64 0, .int .i64 0, .int .i64 0]), 3, 24) := by kernel_rfl

theorem aggCounts (w : World) : (isAgg 52).run Tryz.prog w = .ok true w := by kernel_rfl
theorem sizeCounts (w : World) : (Go.sizeOf 52).run Tryz.prog w = .ok 3 w := by kernel_rfl

/-- Counts as a value. -/
def encCnt (c : Cnt) : Value := .agg #[.int .i64 c.hits, .int .i64 c.misses, .int .i64 c.evicted]
def OutCnt (w : World) (c : Cnt) (e : Ending) (w' : World) : Prop := e = .returned (encCnt c) ∧ Kept (fun b => w.heap.size ≤ b) w w'

set_option maxRecDepth 100000 in
set_option maxHeartbeats 1000000 in
theorem ecounts_any (h0 : EngR S w ge e) : Calls Tryz.prog 27 #[.pointer (some ⟨ge, 0, none⟩)] w (OutCnt w e.n) := by
  obtain ⟨gg, gs, ga, gp, bm, bc, loops, vd, vva, SA, A, ns, h⟩ := h0
  have c2 := h.row.cell 2
  have c3 := h.row.cell 3
  have c4 := h.row.cell 4
  have r1 := h.row.lt
  have q1 : ¬ ge = w.heap.size := by omega
  clear h
  simp at c2 c3 c4
  go_enter Tryz.func27, Tryz.ntmps27
  go_wp2
  refine bodyPost_ret (results_cell (cs := [.int .i64 e.n.hits, .int .i64 e.n.misses, .int .i64 e.n.evicted]) Tryz.results27 aggCounts sizeCounts rfl (Row.new w _ _)) rfl ?_
  exact ⟨rfl, (Kept.refl _ w).alloc (Nat.le_refl _) _⟩
end
end Go.Proofs.YtemppijblfflgaaGreatDoor.Ev
namespace Go.Proofs.YtemppijblfflgaaGreatDoor.Ev
open Go Go.RowKit Go.Extern.Stop Go.Stop Go.Extern

theorem isTypeOf (v : Value) (w : World) : (Extern.ReflectliteType.typeOf #[.iface 315 v]).run Tryz.prog w = .ok (.iface 241 (.agg #[.pointer (some ⟨21, 315, none⟩)])) w := by kernel_rfl
theorem isComparable (w : World) : ((Extern.ReflectliteType.method fun t => do Extern.Rtype.noPackHeld "Comparable" t; Functor.map (fun a => Value.bool a.comparable) (typeInfo t)) #[.agg #[.pointer (some ⟨21, 315, none⟩)]]).run Tryz.prog w = .ok (.bool true) w := by kernel_rfl
theorem isMethodComparable (v : Value) (w : World) : (Go.method 446 241 v "Comparable").run Tryz.prog w = .ok (207, v) w := by kernel_rfl
theorem isComp : (Tryz.prog.info? 315).map (·.comparable) = some true := by kernel_rfl
theorem isSize : (Tryz.prog.info? 317).map (·.size) = some 1 := by kernel_rfl
theorem noIsE (v : Value) (xT : TypeId) (w : World) : (Instr.typeAssert (.iface 315 v) xT 266 true).run Tryz.prog w = .ok (.tuple #[.nilIface, .bool false]) w := run_typeAssert_lacksB Tryz.underlying266 (by kernel_rfl) (by kernel_rfl) v xT w
theorem noUnwrapE (v : Value) (xT : TypeId) (w : World) : (Instr.typeAssert (.iface 315 v) xT 248 true).run Tryz.prog w = .ok (.tuple #[.nilIface, .bool false]) w := run_typeAssert_lacksB Tryz.underlying248 (by kernel_rfl) (by kernel_rfl) v xT w
theorem noUnwrapsE (v : Value) (xT : TypeId) (w : World) : (Instr.typeAssert (.iface 315 v) xT 250 true).run Tryz.prog w = .ok (.tuple #[.nilIface, .bool false]) w := run_typeAssert_lacksB Tryz.underlying250 (by kernel_rfl) (by kernel_rfl) v xT w
theorem noIsF (v : Value) (xT : TypeId) (w : World) : (Instr.typeAssert (.iface 106 v) xT 266 true).run Tryz.prog w = .ok (.tuple #[.nilIface, .bool false]) w := run_typeAssert_lacksB Tryz.underlying266 (by kernel_rfl) (by kernel_rfl) v xT w
theorem hasUnwrapF (v : Value) (xT : TypeId) (w : World) : (Instr.typeAssert (.iface 106 v) xT 248 true).run Tryz.prog w = .ok (.tuple #[.iface 106 v, .bool true]) w := run_typeAssert_hasB Tryz.underlying248 (by kernel_rfl) v xT w

set_option maxRecDepth 100000 in
theorem unwrap_any (gf : Nat) (a b : Value) (w : World) (h : Row w gf 110 [a, b]) : Calls Tryz.prog 200 #[.pointer (some ⟨gf, 0, none⟩)] w fun e w' => e = .returned a ∧ w' = w := by
  have c0 := h.cell 0
  simp at c0
  clear h
  go_enter Tryz.func200, Tryz.ntmps200
  go_wp2
  go_ret
  exact ⟨rfl, rfl⟩

set_option maxRecDepth 100000 in
theorem is_same (a : Addr) (w : World) :
    Calls Tryz.prog 62 #[.iface 315 (.pointer (some a)), .iface 315 (.pointer (some a))] w fun e w' => e = .returned (.bool true) ∧ w' = w := by
  obtain ⟨i, hi, hcmp⟩ := Option.map_eq_some_iff.1 isComp
  obtain ⟨j, hj, hjs⟩ := Option.map_eq_some_iff.1 isSize
  have tT := isTypeOf
  have cT := isComparable
  have mR := isMethodComparable
  have heq := run_eql_iface_ptr_same (P := Tryz.prog) w a Tryz.underlying80 Tryz.underlying315 hi hcmp hj
  have h8 := @run_callFunc_extern Tryz.prog 108 _ Extern.ReflectliteType.typeOf Tryz.func108 (by kernel_rfl) (by kernel_rfl) (by kernel_rfl) (by kernel_rfl)
  have h32 := @run_callFunc_extern Tryz.prog 207 _ (Extern.ReflectliteType.method fun t => do Extern.Rtype.noPackHeld "Comparable" t; pure (.bool (← typeInfo t).comparable)) Tryz.func207 (by kernel_rfl) (by kernel_rfl) (by kernel_rfl) (by kernel_rfl)
  go_enter Tryz.func62, Tryz.ntmps62
  go_wp2
  refine wp_loop_rounds 1 ?_
  rw [rounds_succ]
  go_wp2
  go_ret
  exact ⟨rfl, rfl⟩

theorem methodUnwrap (v : Value) (w : World) : (Go.method 446 106 v "Unwrap").run Tryz.prog w = .ok (200, v) w := by kernel_rfl

set_option maxRecDepth 100000 in
theorem is_other (a b : Addr) (ca cb : Array Value) (ta tb : TypeId) (w : World) (hne : a ≠ b) (ha : w.heap[a.block]? = some (.cells ca ta (0, 0))) (hb : w.heap[b.block]? = some (.cells cb tb (0, 0))) :
    Calls Tryz.prog 62 #[.iface 315 (.pointer (some a)), .iface 315 (.pointer (some b))] w fun e w' => e = .returned (.bool false) ∧ w' = w := by
  obtain ⟨i, hi, hcmp⟩ := Option.map_eq_some_iff.1 isComp
  obtain ⟨j, hj, hjs⟩ := Option.map_eq_some_iff.1 isSize
  have tT := isTypeOf
  have cT := isComparable
  have mR := isMethodComparable
  have nE := noIsE
  have uE := noUnwrapE
  have vE := noUnwrapsE
  have nW := noIsF
  have uW := hasUnwrapF
  have mU := methodUnwrap
  have heq := run_eql_iface_ptr_other (P := Tryz.prog) w Tryz.underlying80 Tryz.underlying315 hi hcmp hj (by rw [hjs]; decide) hne ha hb
  have h8 := @run_callFunc_extern Tryz.prog 108 _ Extern.ReflectliteType.typeOf Tryz.func108 (by kernel_rfl) (by kernel_rfl) (by kernel_rfl) (by kernel_rfl)
  have h32 := @run_callFunc_extern Tryz.prog 207 _ (Extern.ReflectliteType.method fun t => do Extern.Rtype.noPackHeld "Comparable" t; pure (.bool (← typeInfo t).comparable)) Tryz.func207 (by kernel_rfl) (by kernel_rfl) (by kernel_rfl) (by kernel_rfl)
  go_enter Tryz.func62, Tryz.ntmps62
  go_wp2
  refine wp_loop_rounds 1 ?_
  rw [rounds_succ]
  go_wp2
  go_ret
  exact ⟨rfl, rfl⟩

set_option maxRecDepth 100000 in
theorem is_fault_same (gf : Nat) (x : Value) (b : Addr) (w : World) (h : Row w gf 110 [.iface 315 (.pointer (some b)), x]) :
    Calls Tryz.prog 62 #[.iface 106 (.pointer (some ⟨gf, 0, none⟩)), .iface 315 (.pointer (some b))] w fun e w' => e = .returned (.bool true) ∧ w' = w := by
  obtain ⟨i, hi, hcmp⟩ := Option.map_eq_some_iff.1 isComp
  obtain ⟨j, hj, hjs⟩ := Option.map_eq_some_iff.1 isSize
  have tT := isTypeOf
  have cT := isComparable
  have mR := isMethodComparable
  have nE := noIsE
  have uE := noUnwrapE
  have vE := noUnwrapsE
  have nW := noIsF
  have uW := hasUnwrapF
  have mU := methodUnwrap
  have heq := run_eql_iface_ptr_same (P := Tryz.prog) w b Tryz.underlying80 Tryz.underlying315 hi hcmp hj
  have hty := run_eql_iface_types (P := Tryz.prog) 106 315 (.pointer (some ⟨gf, 0, none⟩)) (.pointer (some b)) Tryz.underlying80 (by decide) w
  have h8 := @run_callFunc_extern Tryz.prog 108 _ Extern.ReflectliteType.typeOf Tryz.func108 (by kernel_rfl) (by kernel_rfl) (by kernel_rfl) (by kernel_rfl)
  have h32 := @run_callFunc_extern Tryz.prog 207 _ (Extern.ReflectliteType.method fun t => do Extern.Rtype.noPackHeld "Comparable" t; pure (.bool (← typeInfo t).comparable)) Tryz.func207 (by kernel_rfl) (by kernel_rfl) (by kernel_rfl) (by kernel_rfl)
  have HR := Lib.hid h
  clear h
  go_enter Tryz.func62, Tryz.ntmps62
  go_wp2
  refine wp_loop_rounds 2 ?_
  rw [rounds_succ]
  go_wp2_with (go_at_call 200; refine (unwrap_any gf _ x w HR.out).mono ?_; rintro e w' ⟨rfl, rfl⟩)
  rw [rounds_succ]
  go_wp2
  go_ret
  exact ⟨rfl, rfl⟩

set_option maxRecDepth 100000 in
theorem is_fault_other (gf : Nat) (x : Value) (a b : Addr) (ca cb : Array Value) (ta tb : TypeId) (w : World) (h : Row w gf 110 [.iface 315 (.pointer (some a)), x]) (hne : a ≠ b) (ha : w.heap[a.block]? = some (.cells ca ta (0, 0))) (hb : w.heap[b.block]? = some (.cells cb tb (0, 0))) :
    Calls Tryz.prog 62 #[.iface 106 (.pointer (some ⟨gf, 0, none⟩)), .iface 315 (.pointer (some b))] w fun e w' => e = .returned (.bool false) ∧ w' = w := by
  obtain ⟨i, hi, hcmp⟩ := Option.map_eq_some_iff.1 isComp
  obtain ⟨j, hj, hjs⟩ := Option.map_eq_some_iff.1 isSize
  have tT := isTypeOf
  have cT := isComparable
  have mR := isMethodComparable
  have nE := noIsE
  have uE := noUnwrapE
  have vE := noUnwrapsE
  have nW := noIsF
  have uW := hasUnwrapF
  have mU := methodUnwrap
  have heq := run_eql_iface_ptr_other (P := Tryz.prog) w Tryz.underlying80 Tryz.underlying315 hi hcmp hj (by rw [hjs]; decide) hne ha hb
  have hty := run_eql_iface_types (P := Tryz.prog) 106 315 (.pointer (some ⟨gf, 0, none⟩)) (.pointer (some b)) Tryz.underlying80 (by decide) w
  have h8 := @run_callFunc_extern Tryz.prog 108 _ Extern.ReflectliteType.typeOf Tryz.func108 (by kernel_rfl) (by kernel_rfl) (by kernel_rfl) (by kernel_rfl)
  have h32 := @run_callFunc_extern Tryz.prog 207 _ (Extern.ReflectliteType.method fun t => do Extern.Rtype.noPackHeld "Comparable" t; pure (.bool (← typeInfo t).comparable)) Tryz.func207 (by kernel_rfl) (by kernel_rfl) (by kernel_rfl) (by kernel_rfl)
  have HR := Lib.hid h
  clear h
  go_enter Tryz.func62, Tryz.ntmps62
  go_wp2
  refine wp_loop_rounds 2 ?_
  rw [rounds_succ]
  go_wp2_with (go_at_call 200; refine (unwrap_any gf _ x w HR.out).mono ?_; rintro e w' ⟨rfl, rfl⟩)
  rw [rounds_succ]
  go_wp2
  go_ret
  exact ⟨rfl, rfl⟩
end Go.Proofs.YtemppijblfflgaaGreatDoor.Ev
namespace Go.Proofs.YtemppijblfflgaaGreatDoor.Ev
open Go Go.RowKit Go.Extern.Stop Go.Stop Go.Extern

/-- errors.As(nil, target). -/
theorem as_nil (t : Value) (w : World) :
    Calls Tryz.prog 46 #[.nilIface, t] w fun e w' => e = .returned (.bool false) ∧ w' = w := by
  go_enter Tryz.func46, Tryz.ntmps46
  go_wp2
  go_ret
  exact ⟨rfl, rfl⟩

/-! ### CLOSED FACTS ON THE MODEL's ENTRIES FOR internal/reflectlite, at this program's types: 25: *p.E · 27: **p.E · 23: error · 45: reflectlite's rtype · 1: how many package-level variables the dump has -/
theorem as_valueOf27 (t : Addr) (w : World) : (ReflectliteValue.unpack (.iface 108 (.pointer (some t)))).run Tryz.prog w
    = .ok (.agg #[.pointer (some ⟨21, 108, none⟩), .pointer (some ⟨w.heap.size, 0, none⟩), .int .u64 150]) (w.alloc (.cells #[.pointer (some t)] 108)) := by kernel_rfl
theorem as_type27 (a : Addr) (w : World) : (ReflectliteValue.methodAny (ReflectliteValue.valueError "reflectlite.Value.Type" 0) (fun t _ _ _ => ReflectliteType.toType t) #[.agg #[.pointer (some ⟨21, 108, none⟩), .pointer (some a), .int .u64 150]]).run Tryz.prog w
    = .ok (.iface 241 (.agg #[.pointer (some ⟨21, 108, none⟩)])) w := by kernel_rfl
theorem as_methodKind (h : Value) (w : World) : (Go.method 446 241 (.agg #[h]) "Kind").run Tryz.prog w = .ok (196, h) w := by kernel_rfl
theorem as_kind27 (w : World) : ((ReflectliteType.abiMethod fun t => Functor.map (fun a : Nat => Value.int IntKind.u8 (a : Int)) (Rtype.kind t)) #[.pointer (some ⟨21, 108, none⟩)]).run Tryz.prog w = .ok (.int .u8 22) w := by kernel_rfl
theorem as_kind25 (w : World) : ((ReflectliteType.abiMethod fun t => Functor.map (fun a : Nat => Value.int IntKind.u8 (a : Int)) (Rtype.kind t)) #[.pointer (some ⟨21, 106, none⟩)]).run Tryz.prog w = .ok (.int .u8 22) w := by kernel_rfl

/-! ### THE ENTRIES THAT READ OR WRITE MEMORY: laws with a premise on the cell (after Derived/Lib/ReflectliteSlice.lean's manner: each unfolding a lemma of its own, by rfl) -/
theorem rlm (z : Sem Value) (f : TypeId → Addr → Nat → Nat → Sem Value) (v : Value) :
    ReflectliteValue.method z f #[v] = (do match ← ReflectliteValue.parts v with | none => z | some (t, a, fl) => f t a fl (fl % 32)) := rfl
theorem as_parts27 (a : Addr) (w : World) : (ReflectliteValue.parts (.agg #[.pointer (some ⟨21, 108, none⟩), .pointer (some a), .int .u64 150])).run Tryz.prog w = .ok (some (108, a, 150)) w := by kernel_rfl
/-- (Value).IsNil at the Value of a **p.E that is not nil. -/
theorem as_isNil27 (a p : Addr) (W : World) (ha : W.cell? a = some (.pointer (some p))) :
    (ReflectliteValue.method (ReflectliteValue.valueError "reflectlite.Value.IsNil" 0) ReflectliteValue.isNil #[.agg #[.pointer (some ⟨21, 108, none⟩), .pointer (some a), .int .u64 150]]).run Tryz.prog W = .ok (.bool false) W := by
  rw [rlm]
  simp only [Sem.run_bind, as_parts27, Result.andThen]
  simp [ReflectliteValue.isNil, loadVar, isAgg, underlying, Tryz.underlying108, ha, Result.andThen]

theorem as_methodElem (h : Value) (w : World) : (Go.method 446 241 (.agg #[h]) "Elem").run Tryz.prog w = .ok (208, .agg #[h]) w := by kernel_rfl
theorem as_methodImplements (h : Value) (w : World) : (Go.method 446 241 (.agg #[h]) "Implements").run Tryz.prog w = .ok (209, .agg #[h]) w := by kernel_rfl
theorem as_methodAssignableTo (h : Value) (w : World) : (Go.method 446 241 (.agg #[h]) "AssignableTo").run Tryz.prog w = .ok (206, .agg #[h]) w := by kernel_rfl
theorem as_elem27 (w : World) : (ReflectliteType.method ReflectliteType.elem #[.agg #[.pointer (some ⟨21, 108, none⟩)]]).run Tryz.prog w = .ok (.iface 241 (.agg #[.pointer (some ⟨21, 106, none⟩)])) w := by kernel_rfl
theorem as_implements25 (w : World) : (ReflectliteType.relation "Implements" ReflectliteType.implements_ #[.agg #[.pointer (some ⟨21, 106, none⟩)], .iface 241 (.agg #[.pointer (some ⟨21, 80, none⟩)])]).run Tryz.prog w = .ok (.bool true) w := by kernel_rfl
theorem as_typeOf25 (v : Value) (w : World) : (ReflectliteType.typeOf #[.iface 106 v]).run Tryz.prog w = .ok (.iface 241 (.agg #[.pointer (some ⟨21, 106, none⟩)])) w := by kernel_rfl
theorem as_assignable25 (w : World) : (ReflectliteType.relation "AssignableTo" ReflectliteType.assignableTo #[.agg #[.pointer (some ⟨21, 106, none⟩)], .iface 241 (.agg #[.pointer (some ⟨21, 106, none⟩)])]).run Tryz.prog w = .ok (.bool true) w := by kernel_rfl
theorem as_valueOf25 (e : Addr) (w : World) : (ReflectliteValue.unpack (.iface 106 (.pointer (some e)))).run Tryz.prog w
    = .ok (.agg #[.pointer (some ⟨21, 106, none⟩), .pointer (some ⟨w.heap.size, 0, none⟩), .int .u64 150]) (w.alloc (.cells #[.pointer (some e)] 106)) := by kernel_rfl

theorem as_elemOf27 (w : World) : (Rtype.elem? 108).run Tryz.prog w = .ok (some 106) w := by kernel_rfl
theorem as_mk25 (p : Addr) (w : World) : (ReflectliteValue.mk 106 p ReflectliteValue.flagAddr).run Tryz.prog w = .ok (.agg #[.pointer (some ⟨21, 106, none⟩), .pointer (some p), .int .u64 406]) w := by kernel_rfl
/-- (Value).Elem at the Value of a **p.E that is not nil: the Value of the *p.E variable that it points to, addressable. -/
theorem as_elemV27 (a p : Addr) (W : World) (ha : W.cell? a = some (.pointer (some p))) :
    (ReflectliteValue.method (ReflectliteValue.valueError "reflectlite.Value.Elem" 0) ReflectliteValue.elem #[.agg #[.pointer (some ⟨21, 108, none⟩), .pointer (some a), .int .u64 150]]).run Tryz.prog W
      = .ok (.agg #[.pointer (some ⟨21, 106, none⟩), .pointer (some p), .int .u64 406]) W := by
  rw [rlm]
  simp only [Sem.run_bind, as_parts27, Result.andThen]
  simp [ReflectliteValue.elem, loadVar, isAgg, underlying, Tryz.underlying108, ha, Result.andThen, as_elemOf27, as_mk25]
theorem rls (v x : Value) : ReflectliteValue.set #[v, x] = (do
    let (some (dst, a, fl), some (src, b, _)) := (← ReflectliteValue.parts v, ← ReflectliteValue.parts x)
      | unsupported (.noEntry "extern/(internal/reflectlite.Value).Set.zeroValue")
    if fl / ReflectliteValue.flagAddr % 2 == 0 then unsupported (.noEntry "extern/(internal/reflectlite.Value).Set.unaddressable")
    let val ← loadVar src b
    if ← Rtype.directlyAssignable dst src then storeVar dst a val
    else if ← Rtype.implements dst src then
      if (← Rtype.kind src) == 20 then
        match val with
        | .nilIface => unsupported (.noEntry "extern/reflectlite: a nil value of one interface type handed on as a value of another")
        | _ => storeVar dst a val
      else storeVar dst a (.iface src val)
    else panicString ("reflectlite.Set: value of type " ++ (← Rtype.spelt src) ++ " is not assignable to type " ++ (← Rtype.spelt dst))
    pure (.tuple #[])) := rfl
theorem as_parts25a (a : Addr) (w : World) : (ReflectliteValue.parts (.agg #[.pointer (some ⟨21, 106, none⟩), .pointer (some a), .int .u64 406])).run Tryz.prog w = .ok (some (106, a, 406)) w := by kernel_rfl
theorem as_parts25 (a : Addr) (w : World) : (ReflectliteValue.parts (.agg #[.pointer (some ⟨21, 106, none⟩), .pointer (some a), .int .u64 150])).run Tryz.prog w = .ok (some (106, a, 150)) w := by kernel_rfl
theorem as_direct25 (w : World) : (Rtype.directlyAssignable 106 106).run Tryz.prog w = .ok true w := by kernel_rfl
theorem as_size25 (w : World) : (sizeOf 106).run Tryz.prog w = .ok 1 w := by kernel_rfl
/-- (Value).Set: the *p.E variable at 'ta' gets what the Value's own variable 'b' holds. -/
theorem as_set25 (ta b e : Addr) (old : Value) (W : World) (hb : W.cell? b = some (.pointer (some e))) (ht : W.cell? ta = some old) (hf : W.frozen? ta = false) :
    (ReflectliteValue.set #[.agg #[.pointer (some ⟨21, 106, none⟩), .pointer (some ta), .int .u64 406], .agg #[.pointer (some ⟨21, 106, none⟩), .pointer (some b), .int .u64 150]]).run Tryz.prog W
      = .ok (.tuple #[]) (W.setCell ta (.pointer (some e))) := by
  rw [rls]
  simp only [Sem.run_bind, as_parts25a, as_parts25, Result.andThen]
  simp [ReflectliteValue.flagAddr, loadVar, isAgg, underlying, Tryz.underlying106, hb, Result.andThen, as_direct25, storeVar, Value.cells, storeCells, Addr.add]
  rw [run_store Tryz.prog W ta _ _ (by rfl)]
  simp [ht, hf]

set_option maxHeartbeats 4000000 in
theorem as_hit (e t : Addr) (old : Value) (w : World) (hg : w.cell? ⟨2, 0, none⟩ = some (.iface 241 (.agg #[.pointer (some ⟨21, 80, none⟩)]))) (ht0 : w.cell? t = some old) (hf0 : w.frozen? t = false) :
    Calls Tryz.prog 46 #[.iface 106 (.pointer (some e)), .iface 108 (.pointer (some t))] w fun ev w' => ev = .returned (.bool true) ∧ w' = ((((w.alloc (.cells #[.pointer (some t)] 108)).alloc (.cells #[.pointer (some ⟨21, 108, none⟩), .pointer (some ⟨w.heap.size, 0, none⟩), .int .u64 150] 178)).alloc (.cells #[.pointer (some ⟨21, 108, none⟩), .pointer (some ⟨w.heap.size, 0, none⟩), .int .u64 150] 178)).alloc (.cells #[.pointer (some e)] 106)).setCell t (.pointer (some e)) := by
  have h6 := @run_callFunc_extern Tryz.prog 77 _ (fun args => ReflectliteValue.unpack (args.getD 0 (.tuple #[]))) Tryz.func77 (by kernel_rfl) (by kernel_rfl) (by kernel_rfl) (by kernel_rfl)
  have h7 := @run_callFunc_extern Tryz.prog 78 _ (ReflectliteValue.methodAny (ReflectliteValue.valueError "reflectlite.Value.Type" 0) (fun t _ _ _ => ReflectliteType.toType t)) Tryz.func78 (by kernel_rfl) (by kernel_rfl) (by kernel_rfl) (by kernel_rfl)
  have h8 := @run_callFunc_extern Tryz.prog 79 _ (ReflectliteValue.method (ReflectliteValue.valueError "reflectlite.Value.IsNil" 0) ReflectliteValue.isNil) Tryz.func79 (by kernel_rfl) (by kernel_rfl) (by kernel_rfl) (by kernel_rfl)
  have h27 := @run_callFunc_extern Tryz.prog 196 _ (ReflectliteType.abiMethod fun t => do pure (.int .u8 (← Rtype.kind t))) Tryz.func196 (by kernel_rfl) (by kernel_rfl) (by kernel_rfl) (by kernel_rfl)
  have h37 := @run_callFunc_extern Tryz.prog 208 _ (ReflectliteType.method ReflectliteType.elem) Tryz.func208 (by kernel_rfl) (by kernel_rfl) (by kernel_rfl) (by kernel_rfl)
  have h38 := @run_callFunc_extern Tryz.prog 209 _ (ReflectliteType.relation "Implements" ReflectliteType.implements_) Tryz.func209 (by kernel_rfl) (by kernel_rfl) (by kernel_rfl) (by kernel_rfl)
  have h10 := @run_callFunc_extern Tryz.prog 108 _ ReflectliteType.typeOf Tryz.func108 (by kernel_rfl) (by kernel_rfl) (by kernel_rfl) (by kernel_rfl)
  have h35 := @run_callFunc_extern Tryz.prog 206 _ (ReflectliteType.relation "AssignableTo" ReflectliteType.assignableTo) Tryz.func206 (by kernel_rfl) (by kernel_rfl) (by kernel_rfl) (by kernel_rfl)
  have h11 := @run_callFunc_extern Tryz.prog 125 _ (ReflectliteValue.method (ReflectliteValue.valueError "reflectlite.Value.Elem" 0) ReflectliteValue.elem) Tryz.func125 (by kernel_rfl) (by kernel_rfl) (by kernel_rfl) (by kernel_rfl)
  have h12 := @run_callFunc_extern Tryz.prog 126 _ ReflectliteValue.set Tryz.func126 (by kernel_rfl) (by kernel_rfl) (by kernel_rfl) (by kernel_rfl)
  have tO := as_typeOf25
  have mA := as_methodAssignableTo
  have a25 := as_assignable25
  have v25 := as_valueOf25
  have f6 := as_valueOf27
  have f7 := as_type27
  have mK := as_methodKind
  have mE := as_methodElem
  have mI := as_methodImplements
  have k27 := as_kind27
  have k25 := as_kind25
  have e27 := as_elem27
  have i25 := as_implements25
  have n8 := as_isNil27 ⟨w.heap.size, 0, none⟩ t ((w.alloc (.cells #[.pointer (some t)] 108)).alloc (.cells #[.pointer (some ⟨21, 108, none⟩), .pointer (some ⟨w.heap.size, 0, none⟩), .int .u64 150] 178)) (by simp)
  have hlt : 2 < w.heap.size := World.block_lt_of_cell? w _ hg
  have hg2 : ((w.alloc (.cells #[.pointer (some t)] 108)).alloc (.cells #[.pointer (some ⟨21, 108, none⟩), .pointer (some ⟨w.heap.size, 0, none⟩), .int .u64 150] 178)).cell? ⟨2, 0, none⟩ = some (.iface 241 (.agg #[.pointer (some ⟨21, 80, none⟩)])) := by
    rw [World.cell?_alloc_lt _ _ ⟨2, 0, none⟩ (by simp; omega), World.cell?_alloc_lt _ _ ⟨2, 0, none⟩ hlt]; exact hg
  have htl : t.block < w.heap.size := by
    rcases Nat.lt_or_ge t.block w.heap.size with h | h
    · exact h
    · simp [World.cell?, Array.getElem?_eq_none h] at ht0
  have el := as_elemV27 ⟨w.heap.size, 0, none⟩ t (((w.alloc (.cells #[.pointer (some t)] 108)).alloc (.cells #[.pointer (some ⟨21, 108, none⟩), .pointer (some ⟨w.heap.size, 0, none⟩), .int .u64 150] 178)).alloc (.cells #[.pointer (some ⟨21, 108, none⟩), .pointer (some ⟨w.heap.size, 0, none⟩), .int .u64 150] 178)) (by rw [World.cell?_alloc_lt _ _ ⟨w.heap.size, 0, none⟩ (by simp; omega)]; simp)
  have st := as_set25 t ⟨w.heap.size + 1 + 1 + 1, 0, none⟩ e old ((((w.alloc (.cells #[.pointer (some t)] 108)).alloc (.cells #[.pointer (some ⟨21, 108, none⟩), .pointer (some ⟨w.heap.size, 0, none⟩), .int .u64 150] 178)).alloc (.cells #[.pointer (some ⟨21, 108, none⟩), .pointer (some ⟨w.heap.size, 0, none⟩), .int .u64 150] 178)).alloc (.cells #[.pointer (some e)] 106))
    (by rw [World.cell?_alloc_at _ _ _ _ (by simp)]; rfl)
    (by rw [World.cell?_alloc_lt _ _ t (by simp; omega), World.cell?_alloc_lt _ _ t (by simp; omega), World.cell?_alloc_lt _ _ t (by simp; omega), World.cell?_alloc_lt _ _ t htl]; exact ht0)
    (by rw [World.frozen?_alloc_old _ _ t (by simp; omega), World.frozen?_alloc_old _ _ t (by simp; omega), World.frozen?_alloc_old _ _ t (by simp; omega), World.frozen?_alloc_old _ _ t (Nat.ne_of_lt htl)]; exact hf0)
  go_enter Tryz.func46, Tryz.ntmps46
  go_wp2
  refine wp_loop_rounds 1 ?_
  rw [rounds_succ]
  go_wp2
  go_ret
  exact ⟨rfl, rfl⟩
end Go.Proofs.YtemppijblfflgaaGreatDoor.Ev
namespace Go.Proofs.YtemppijblfflgaaGreatDoor.Ev
open Go Go.RowKit

/-- The slice u holds the cells news: nil, or at an address. -/
def Src (w : World) (size : Nat) (u : Value) (m : Nat) (news : List Value) : Prop :=
  news.length = m * size ∧ ((u = .slice none 0 0 ∧ m = 0) ∨ ∃ ad c, u = .slice (some ad) m c ∧ ∀ j x, news[j]? = some x → w.cell? (ad.add j) = some x)

section
variable {S : Nat → Prop} {w w' : World} {e : TypeId} {size n m : Nat} {u v : Value} {xs news : List Value}

theorem cell_add (g j : Nat) : (⟨g, 0, none⟩ : Addr).add j = ⟨g, j, none⟩ := by
  unfold Addr.add
  split
  · rename_i h; subst h; rfl
  · simp

theorem Sl.src (h : Sl S w e size v n xs) : Src w size v n xs := by
  refine ⟨h.1.1, ?_⟩
  rcases h.1.2 with ⟨h1, h0⟩ | ⟨g, cap, cur, rfl, _⟩
  · exact .inl ⟨h1, h0⟩
  · refine .inr ⟨_, _, rfl, fun j x hj => ?_⟩
    exact h.1.cells (g := g) rfl j x hj

/-- What lies from place k on. -/
theorem Sl.srcFrom {g cap k : Nat} (h : Sl S w e size (.slice (some ⟨g, 0, none⟩) n cap) n xs) (hk : k ≤ n) (c : Nat) :
    Src w size (.slice (some ⟨g, k * size, none⟩) (n - k) c) (n - k) (xs.drop (k * size)) := by
  refine ⟨by rw [List.length_drop, h.1.1, Nat.sub_mul], .inr ⟨_, _, rfl, fun j x hj => ?_⟩⟩
  rw [List.getElem?_drop] at hj
  have h1 := h.1.cells (g := g) rfl _ x hj
  rw [cell_add] at h1
  have e : (⟨g, k * size, none⟩ : Addr).add j = ⟨g, k * size + j, none⟩ := by
    unfold Addr.add
    split
    · rename_i h; subst h; rfl
    · rfl
  rw [e]
  exact h1

theorem Src.kept {T : Nat → Prop} (h : Src w size u m news) (hk : Kept T w w') (hT : ∀ ad n c, u = .slice (some ad) n c → ¬ T ad.block) : Src w' size u m news := by
  refine ⟨h.1, ?_⟩
  rcases h.2 with h2 | ⟨ad, c, rfl, h3⟩
  · exact .inl h2
  · refine .inr ⟨ad, c, rfl, fun j x hj => ?_⟩
    have hb : (ad.add j).block = ad.block := by unfold Addr.add; split <;> rfl
    exact (hk.cell (p := ad.add j) (by rw [hb]; exact hT ad m c rfl)).trans (h3 j x hj)
theorem Src.of_heap (h : Src w size u m news) (hh : w'.heap = w.heap) : Src w' size u m news :=
  h.kept (T := fun _ => False) (w' := { w with heap := w'.heap }) ⟨rfl, rfl, rfl, by rw [hh]; exact Nat.le_refl _, fun k _ => by rw [hh]⟩ (fun _ _ _ _ h => h)

theorem wp_appendS {P : Program} {ops : Array Oper} {rest : List Oper} {o : Oper} {a : Act} {Q : Exit → Act → World → Prop} {i : TypeInfo} {z : Value} {bytes : Nat} {t : TypeId} (ht : P.underlying t = some (.slice e)) (hi : P.info? e = some i) (hz : i.zero = some z)
    (hsize : i.size = size) (hby : i.bytes = bytes) (hzs : z.cells.size = size) (hsz : 0 < size) (h : Sl S w e size v n xs) (hS : S w.heap.size)
    (hgd : o.guard = none) (s x : Operand) (ho : o.op = .call { callee := .builtin .append, args := #[s, x], argTypes := #[t, t] }) (hs : a.eval s = v)
    (hx : a.eval x = u) (hsrc : Src w size u m news) (h1 : ∀ u ∈ news, u.oneCell' = true)
    (h63 : n + m ≤ maxLen) (hbytes : (n + m) * bytes ≤ 140737488355328)
    (hK : ∀ v' w', Sl S w' e size v' (n + m) (xs ++ news) → Kept (fun b => v.ownBlock = some b ∨ w.heap.size ≤ b) w w' → (v'.ownBlock = v.ownBlock ∨ v'.ownBlock = some w.heap.size) →
      wpList P ops Q rest (a.put o.dst v') w') : wpList P ops Q (o :: rest) a w := by
  rcases hsrc.2 with ⟨rfl, rfl⟩ | ⟨ad, c, rfl, hc⟩
  · have hn : news = [] := List.eq_nil_of_length_eq_zero (by simpa using hsrc.1)
    subst hn
    refine wpList_append_own_none hgd s x t ho 0 e i size ht hi v n xs hs h.1 hx ?_
    refine hK v w ?_ (Kept.refl _ _) (.inl rfl)
    rw [List.append_nil]
    exact h
  · exact wp_append ht hi hz hsize hby hzs hsz h hS hgd s x ho hs ad m c news hx hsrc.1 hc h1 h63 hbytes (fun v' w' h2 h3 h4 _ => hK v' w' h2 h3 h4)

theorem Sl.later {T : Nat → Prop} (h : Sl S w e size v n xs) (hk : Kept T w w') (hT : ∀ b, T b → w.heap.size ≤ b) : Sl S w' e size v n xs := h.kept hk (fun g hg ht => by have := h.lt hg; have := hT g ht; omega)
theorem Sl.src_lt (h : Sl S w e size v n xs) : ∀ ad n c, v = .slice (some ad) n c → ad.block < w.heap.size := fun ad n c e => h.lt (by rw [e]; rfl)
theorem Sl.nil_ (S : Nat → Prop) (w : World) (e : TypeId) (size : Nat) : Sl S w e size (.slice none 0 0) 0 [] := ⟨World.ownsRow_nil _ _ _ _, fun g hg => by cases hg⟩

/-- A copy of a slice that stood below N in world w0. -/
theorem run_copy {P : Program} {w0 : World} {N : Nat} {i : TypeInfo} {z : Value} {bytes : Nat} {t ty : TypeId} (hk : Kept (fun b => N ≤ b) w0 w) (hN : N ≤ w.heap.size) (hsrc : Src w0 size u m news) (hb : ∀ ad n c, u = .slice (some ad) n c → ad.block < N)
    (ht : P.underlying t = some (.slice e)) (hi : P.info? e = some i) (hz : i.zero = some z) (hsize : i.size = size) (hby : i.bytes = bytes) (hzs : z.cells.size = size) (hsz : 0 < size) (h1 : ∀ u ∈ news, u.oneCell' = true)
    (h63 : m ≤ maxLen) (hbytes : m * bytes ≤ 140737488355328) :
    ∃ v' w', (Builtin.append_ #[t, t] ty #[.slice none 0 0, u]).run P w = .ok v' w' ∧ Sl (fun b => w.heap.size ≤ b) w' e size v' m news ∧ Kept (fun b => w.heap.size ≤ b) w w' ∧ Kept (fun b => N ≤ b) w0 w' := by
  have hsrc' := hsrc.kept hk (fun ad n c hu hn => by have := hb ad n c hu; omega)
  rcases hsrc'.2 with ⟨rfl, rfl⟩ | ⟨ad, c, rfl, hc⟩
  · have hn : news = [] := List.eq_nil_of_length_eq_zero (by simpa using hsrc.1)
    subst hn
    exact ⟨_, _, run_append_owned_none (P := P) (w := w) 0 t ty e i size ht hi (.slice none 0 0) 0 [] (World.ownsRow_nil _ _ _ _), Sl.nil_ _ _ _ _, Kept.refl _ _, hk⟩
  · obtain ⟨v', w', hr, h2, h3, _, h5⟩ := run_append_own_at (P := P) w 0 t ty e i z size bytes ht hi hz hsize hby hzs hsz (.slice none 0 0) 0 [] (World.ownsRow_nil _ _ _ _) ad m c news hsrc'.1 hc h1 (by omega) (by rw [Nat.zero_add]; exact hbytes) (Nat.zero_le _)
    have hk2 : Kept (fun b => w.heap.size ≤ b) w w' := ⟨h3.os, h3.tape, h3.output, h3.size, fun k hk => h3.block k (by omega) (by simp [Value.ownBlock])⟩
    refine ⟨v', w', hr, ⟨by simpa using h2, fun g hg => ?_⟩, hk2, hk.trans (hk2.mono (fun b hb => Nat.le_trans hN hb))⟩
    rcases h5 with h5 | h5
    · rw [h5] at hg; cases hg
    · rw [h5] at hg
      injection hg with hg
      exact hg ▸ Nat.le_refl _

theorem step_copy {P : Program} {ops : Array Oper} {o : Oper} {a : Act} {K : Act → World → Prop} {Q : Exit → Act → World → Prop} {E : Prop} {w0 : World} {N : Nat} {i : TypeInfo} {z : Value} {bytes : Nat} {t : TypeId}
    (hk : Kept (fun b => N ≤ b) w0 w) (hN : N ≤ w0.heap.size) (hsrc : Src w0 size u m news) (hb : ∀ ad n c, u = .slice (some ad) n c → ad.block < N)
    (ht : P.underlying t = some (.slice e)) (hi : P.info? e = some i) (hz : i.zero = some z) (hsize : i.size = size) (hby : i.bytes = bytes) (hzs : z.cells.size = size) (hsz : 0 < size) (h1 : ∀ u ∈ news, u.oneCell' = true)
    (h63 : m ≤ maxLen) (hbytes : m * bytes ≤ 140737488355328) (hgd : o.guard = none) (s x : Operand) (ho : o.op = .call { callee := .builtin .append, args := #[s, x], argTypes := #[t, t] }) (hs : a.eval s = .slice none 0 0) (hx : a.eval x = u)
    (hK : ∀ a' c' w', Sl (fun b => w.heap.size ≤ b) w' e size (.slice a' m c') m news → Kept (fun b => w.heap.size ≤ b) w w' → Kept (fun b => N ≤ b) w0 w' → K (a.put o.dst (.slice a' m c')) w') : if Region.wanted o (yielded ops a.tmps) = true then Oper.wp P o a w K Q else E := by
  have hw : Region.wanted o (yielded ops a.tmps) = true := by simp [Region.wanted, hgd]
  rw [if_pos hw]
  obtain ⟨v', w', hr, h2, h3, h4⟩ := run_copy (P := P) (ty := o.type) hk (Nat.le_trans hN hk.size) hsrc hb ht hi hz hsize hby hzs hsz h1 h63 hbytes
  unfold Oper.wp execOp
  simp only [ho, resolve, invoke, builtin, Sem.run_bind, Sem.run_pure, Result.andThen_ok, List.map_toArray, List.map_cons, List.map_nil, hs, hx, hr]
  obtain ⟨a', c', rfl⟩ : ∃ a' c', v' = .slice a' m c' := by
    rcases h2.1.2 with ⟨e1, e2⟩ | ⟨g, cap, cur, e1, _⟩
    · exact ⟨none, 0, by rw [e1, e2]⟩
    · exact ⟨_, _, e1⟩
  exact hK a' c' w' h2 h3 h4
end
end Go.Proofs.YtemppijblfflgaaGreatDoor.Ev
