/- The tokens of a text, as the document's answer lists them; where its reader stands. No program in sight. The reader of the document's answer: what it holds, and how that stands to the plain reader. No program in sight. The document's answer: its reader's kinds of tokens. No program in sight. How a policy's tree lies in the memory of the document's answer. The document's answer: its reader in memory; its small calls. The document's answer: its reader: note, find. The document's answer: its reader: number. The document's answer: its reader: named. The document's answer: its reader: a call's own boxes; value. The document's answer: its reader: cond. Printed by a program of ours (genrcond.py). The document's answer: its reader: blocks, on the statements' contract. Conditions: none. -/
import Derived.BigQuiet
import Derived.Deep.QuietTactic
import Derived.Deep.DeepMust
import Derived.Test.YtemppijblfflgabGreatDoorZt01
import Derived.Test.YtemppijblfflgabGreatDoorZt02
import Derived.Test.YtemppijblfflgabGreatDoorZt04
set_option linter.all false
namespace Go.Proofs.YtemppijblfflgabGreatDoor.Ev

abbrev kNum : Bytes := [110, 117, 109]
/-- A token's kind, as the document's answer names it. -/
def rKind (k : Bytes) : Bytes := if k = kNumber then kNum else k

def final (t : Tok) : Bool := t.kind == kEnd || t.kind == kNone

def toksFrom (s : Bytes) : Nat → Nat → List Tok
  | 0, _ => []
  | n + 1, i => if final (lex s i).1 then [(lex s i).1] else (lex s i).1 :: toksFrom s n (lex s i).2

def toks (s : Bytes) : List Tok := toksFrom s (s.length + 1) 0

theorem final_no {t : Tok} (h : final t = false) : t.kind ≠ kEnd ∧ t.kind ≠ kNone := by
  unfold final at h
  simp only [Bool.or_eq_false_iff, beq_eq_false_iff_ne, ne_eq] at h
  exact h

/-- The reader stands at token k. -/
def KPos (s : Bytes) (k : Nat) (st : PS) : Prop :=
  ∃ n i, (toks s).drop k = toksFrom s (n + 1) i ∧ st.t = (lex s i).1 ∧ st.i = (lex s i).2 ∧ i ≤ s.length ∧ s.length < i + (n + 1)

theorem KPos.get {s : Bytes} {k : Nat} {st : PS} (h : KPos s k st) : (toks s)[k]? = some st.t := by
  obtain ⟨n, i, h1, h2, _⟩ := h
  have e : ((toks s).drop k)[0]? = some st.t := by
    rw [h1, toksFrom, h2]
    split <;> rfl
  rw [List.getElem?_drop] at e
  simpa using e
theorem KPos.lt {s : Bytes} {k : Nat} {st : PS} (h : KPos s k st) : k < (toks s).length := (List.getElem?_eq_some_iff.1 h.get).1

theorem KPos.next {s : Bytes} {k : Nat} {st : PS} (h : KPos s k st) (h1 : st.t.kind ≠ kEnd) (h2 : st.t.kind ≠ kNone) : KPos s (k + 1) (next s st) := by
  obtain ⟨n, i, e1, e2, e3, e4, e5⟩ := h
  have hf : final (lex s i).1 = false := by
    rw [← e2]
    unfold final
    simp [h1, h2]
  obtain ⟨a, b, c, d⟩ := lex_facts s i e4
  rw [← e2, ← e3] at d
  have := d h1 h2
  rw [← e2] at a
  rw [← e3] at c
  rw [toksFrom, hf] at e1
  simp only [Bool.false_eq_true, if_false] at e1
  have e6 : (toks s).drop (k + 1) = toksFrom s n (lex s i).2 := by
    rw [← List.drop_drop, e1]
    rfl
  cases n with
  | zero => omega
  | succ n =>
    refine ⟨n, st.i, by rw [e6, e3], rfl, rfl, c, ?_⟩
    omega

theorem KPos.start (s : Bytes) : KPos s 0 (start s) := ⟨s.length, 0, rfl, rfl, rfl, Nat.zero_le _, by omega⟩
theorem KPos.of {s : Bytes} {k : Nat} {st st' : PS} (h : KPos s k st) (ht : st'.t = st.t) (hi : st'.i = st.i) : KPos s k st' := by
  obtain ⟨n, i, e1, e2, e3, e4, e5⟩ := h
  exact ⟨n, i, e1, ht.trans e2, hi.trans e3, e4, e5⟩
theorem toksFrom_len (s : Bytes) : ∀ (n i : Nat), (toksFrom s n i).length ≤ n
  | 0, _ => Nat.le_refl _
  | n + 1, i => by
    rw [toksFrom]
    split
    · simp
    · have := toksFrom_len s n (lex s i).2
      simp; omega
theorem toks_len (s : Bytes) : (toks s).length ≤ s.length + 1 := toksFrom_len s _ _

/-- What the document's answer lists of a token: at 'none' its text is any. -/
structure RTok where
  is : Bytes
  txt : Bytes
  pos : Nat

def RTok.Of (x : RTok) (t : Tok) : Prop := x.is = rKind t.kind ∧ x.pos = t.pos ∧ (t.kind ≠ kNone → x.txt = t.text)

def rlex (s : Bytes) (i0 : Nat) : RTok × Nat :=
  let i := skip blank s i0
  match s[i]? with
  | none => (⟨kEnd, [], i⟩, i)
  | some c =>
    if low c then
      (if 8 < skip low s i - i then ⟨kNone, piece s i (skip low s i), i⟩ else ⟨if keywords.contains (piece s i (skip low s i)) then piece s i (skip low s i) else kName, piece s i (skip low s i), i⟩, skip low s i)
    else if fig c then
      (if 3 < skip fig s i - i then ⟨kNone, piece s i (skip fig s i), i⟩ else ⟨kNum, piece s i (skip fig s i), i⟩, skip fig s i)
    else if punct c then (⟨[c], [c], i⟩, i + 1)
    else (⟨kNone, [], i⟩, i)

theorem rkEnd : kEnd = rKind kEnd := by decide
theorem rkNone : kNone = rKind kNone := by decide
theorem rkName : kName = rKind kName := by decide
theorem rkNum : kNum = rKind kNumber := by decide

theorem rlex_lex (s : Bytes) (i : Nat) : (rlex s i).1.Of (lex s i).1 ∧ (final (lex s i).1 = false → (rlex s i).2 = (lex s i).2) := by
  unfold rlex lex RTok.Of
  simp only
  cases hc : s[skip blank s i]? with
  | none => (refine ⟨⟨?_, ?_, ?_⟩, ?_⟩ <;> first | trivial | exact fun _ => trivial | exact rkEnd | exact rkNone | exact rkNum | exact fun _ => rfl | exact fun h => absurd rfl h | (intro h; simp [final] at h))
  | some c =>
    simp only
    cases hl : low c with
    | true =>
      simp only [if_true]
      by_cases h8 : 8 < skip low s (skip blank s i) - skip blank s i
      · simp only [if_pos h8]
        (refine ⟨⟨?_, ?_, ?_⟩, ?_⟩ <;> first | trivial | exact fun _ => trivial | exact rkEnd | exact rkNone | exact rkNum | exact fun _ => rfl | exact fun h => absurd rfl h | (intro h; simp [final] at h))
      · simp only [if_neg h8]
        refine ⟨⟨?_, by trivial, by first | exact fun _ => trivial | exact fun _ => rfl | trivial⟩, by first | exact fun _ => trivial | exact fun _ => rfl | trivial⟩
        split
        · rename_i hk
          unfold rKind
          rw [if_neg]
          intro e
          rw [e] at hk
          exact absurd (List.contains_iff_mem.1 hk) kw_noNumber
        · exact rkName
    | false =>
      simp only [Bool.false_eq_true, if_false]
      cases hf : fig c with
      | true =>
        simp only [if_true]
        by_cases h8 : 3 < skip fig s (skip blank s i) - skip blank s i
        · simp only [if_pos h8]
          (refine ⟨⟨?_, ?_, ?_⟩, ?_⟩ <;> first | trivial | exact fun _ => trivial | exact rkEnd | exact rkNone | exact rkNum | exact fun _ => rfl | exact fun h => absurd rfl h | (intro h; simp [final] at h))
        · simp only [if_neg h8]
          (refine ⟨⟨?_, ?_, ?_⟩, ?_⟩ <;> first | trivial | exact fun _ => trivial | exact rkEnd | exact rkNone | exact rkNum | exact fun _ => rfl | exact fun h => absurd rfl h | (intro h; simp [final] at h))
      | false =>
        simp only [Bool.false_eq_true, if_false]
        cases hp : punct c with
        | true =>
          simp only [if_true]
          refine ⟨⟨?_, by trivial, by first | exact fun _ => trivial | exact fun _ => rfl | trivial⟩, by first | exact fun _ => trivial | exact fun _ => rfl | trivial⟩
          unfold rKind
          rw [if_neg]
          intro e
          have := congrArg List.length e
          simp at this
        | false =>
          simp only [Bool.false_eq_true, if_false]
          (refine ⟨⟨?_, ?_, ?_⟩, ?_⟩ <;> first | trivial | exact fun _ => trivial | exact rkEnd | exact rkNone | exact rkNum | exact fun _ => rfl | exact fun h => absurd rfl h | (intro h; simp [final] at h))

/-- Lists of tokens that stand for one another. -/
def RToks : List RTok → List Tok → Prop
  | [], [] => True
  | x :: l, t :: m => x.Of t ∧ RToks l m
  | _, _ => False

theorem RToks.len : ∀ {l : List RTok} {m : List Tok}, RToks l m → l.length = m.length
  | [], [], _ => rfl
  | _ :: _, _ :: _, h => by simp [RToks.len h.2]
  | [], _ :: _, h => h.elim
  | _ :: _, [], h => h.elim
theorem RToks.get : ∀ {l : List RTok} {m : List Tok} {k : Nat} {t : Tok}, RToks l m → m[k]? = some t → ∃ x, l[k]? = some x ∧ x.Of t
  | _ :: _, _ :: _, 0, _, h, e => by
    simp only [List.getElem?_cons_zero, Option.some.injEq] at e
    exact ⟨_, rfl, e ▸ h.1⟩
  | _ :: l, _ :: m, k + 1, _, h, e => RToks.get (l := l) (m := m) (k := k) h.2 e
  | [], [], _, _, _, e => by simp at e
  | [], _ :: _, _, _, h, _ => h.elim
  | _ :: _, [], _, _, h, _ => h.elim
end Go.Proofs.YtemppijblfflgabGreatDoor.Ev
namespace Go.Proofs.YtemppijblfflgabGreatDoor.Ev

/-- What the reader of the document's answer holds. -/
structure Raw where
  k : Nat
  deep : Int
  loops : Int
  bad : Nat
  badAt : Nat
  wrong : Nat
  wrongAt : Nat
  decls : List Decl
  freq : Int
  freqs : Int

def WrongS (x : Option (Nat × Nat)) (r : Raw) : Prop :=
  match x with
  | none => r.wrong = 0
  | some y => r.wrong = y.1 ∧ r.wrongAt = y.2 ∧ y.1 ≠ 0

/-- Nothing is bad: the reader is at st. -/
structure SaysOk (s : Bytes) (r : Raw) (st : PS) : Prop where
  pos : KPos s r.k st
  ok : st.Ok s
  deep : r.deep = st.depth
  loops : r.loops = st.loops
  bad : r.bad = 0
  wrong : WrongS st.wrong r
  decls : r.decls = st.decls
  freq : r.freq = st.freq
  seen : st.fseen = decide (0 < r.freqs)
  f0 : 0 ≤ r.freqs
  fk : r.freqs ≤ r.k

structure SaysBad (s : Bytes) (r : Raw) (e pos : Nat) : Prop where
  lt : r.k < (toks s).length
  bad : r.bad = e
  badAt : r.badAt = pos
  ne : e ≠ 0
  fk : 0 ≤ r.freqs ∧ r.freqs ≤ r.k

/-- What the reader holds, by what the plain reader gives. -/
def Says {α : Type} (s : Bytes) (r : Raw) : Out α → Prop
  | .ok _ st => SaysOk s r st
  | .bad e pos => SaysBad s r e pos

def Out.isB {α : Type} (o : Out α) (k : Bytes) : Bool :=
  match o with
  | .ok _ st => st.t.kind == k
  | .bad _ _ => false

theorem Out.isB_ok {α : Type} {o : Out α} {k : Bytes} (h : o.isB k = true) : ∃ a st, o = .ok a st ∧ st.t.kind = k := by
  cases o with
  | ok a st => exact ⟨a, st, rfl, by simpa [Out.isB] using h⟩
  | bad e p => cases h

section
variable {α β : Type} {s : Bytes} {r : Raw} {o : Out α} {st : PS}
theorem Says.lt (h : Says s r o) : r.k < (toks s).length := by
  cases o with
  | ok a st => exact SaysOk.pos h |>.lt
  | bad e p => exact SaysBad.lt h

theorem SaysOk.next (h : SaysOk s r st) (h1 : st.t.kind ≠ kEnd) (h2 : st.t.kind ≠ kNone) : SaysOk s { r with k := r.k + 1 } (next s st) :=
  ⟨h.pos.next h1 h2, next_ok h.ok, h.deep, h.loops, h.bad, h.wrong, h.decls, h.freq, h.seen, h.f0, by have := h.fk; show r.freqs ≤ ((r.k + 1 : Nat) : Int); omega⟩
theorem SaysOk.note {e pos : Nat} (h : SaysOk s r st) (he : e ≠ 0) : SaysOk s (if r.wrong = 0 then { r with wrong := e, wrongAt := pos } else r) (note e pos st) := by
  have hw := h.wrong
  cases hx : st.wrong with
  | none =>
    rw [hx] at hw
    rw [if_pos (show r.wrong = 0 from hw)]
    have e1 : Ev.note e pos st = { st with wrong := some (e, pos) } := by unfold Ev.note; rw [hx]
    rw [e1]
    exact ⟨h.pos.of rfl rfl, ⟨h.ok.i, h.ok.pos, h.ok.more, h.ok.num, h.ok.name⟩, h.deep, h.loops, h.bad, ⟨rfl, rfl, he⟩, h.decls, h.freq, h.seen, h.f0, h.fk⟩
  | some y =>
    rw [hx] at hw
    have e1 : Ev.note e pos st = st := by unfold Ev.note; rw [hx]
    have h0 : ¬ r.wrong = 0 := by
      rw [hw.1]; exact hw.2.2
    rw [if_neg h0, e1]
    exact h
theorem SaysOk.fail {e : Nat} (h : SaysOk s r st) (he : e ≠ 0) : SaysBad s { r with bad := e, badAt := st.t.pos } e st.t.pos :=
  ⟨h.pos.lt, rfl, rfl, he, h.f0, h.fk⟩
end
end Go.Proofs.YtemppijblfflgabGreatDoor.Ev
namespace Go.Proofs.YtemppijblfflgabGreatDoor.Ev

theorem kw_noNum {k : Bytes} (h : k ∈ keywords) : k ≠ kNum := by
  intro e
  rw [e] at h
  exact absurd h (by decide)

theorem lex_noNum (s : Bytes) (i : Nat) : (lex s i).1.kind ≠ kNum := by
  have n1 : kNone ≠ kNum := by decide
  have n2 : kName ≠ kNum := by decide
  have n3 : kNumber ≠ kNum := by decide
  have n4 : kEnd ≠ kNum := by decide
  unfold lex
  simp only
  cases hc : s[skip blank s i]? with
  | none => exact n4
  | some c =>
    simp only
    split
    · split
      · exact n1
      · show (if keywords.contains _ = true then _ else _) ≠ kNum
        split
        · rename_i hk
          exact kw_noNum (List.contains_iff_mem.1 hk)
        · exact n2
    · split
      · split
        · exact n1
        · exact n3
      · split
        · intro e
          have := congrArg List.length e
          simp at this
        · exact n1

theorem KPos.noNum {s : Bytes} {k : Nat} {st : PS} (h : KPos s k st) : st.t.kind ≠ kNum := by
  obtain ⟨n, i, _, h2, _⟩ := h
  rw [h2]
  exact lex_noNum s i

theorem rKind_eq {a b : Bytes} (ha : a ≠ kNum) (hb : b ≠ kNum) : (rKind a == rKind b) = (a == b) := by
  unfold rKind
  by_cases h1 : a = kNumber
  · by_cases h2 : b = kNumber
    · rw [h1, h2]; rfl
    · have e : (a == b) = false := by rw [beq_eq_false_iff_ne]; intro e; exact h2 (e ▸ h1)
      rw [if_pos h1, if_neg h2, e, beq_eq_false_iff_ne]
      intro e; exact hb e.symm
  · by_cases h2 : b = kNumber
    · have e : (a == b) = false := by rw [beq_eq_false_iff_ne]; intro e; exact h1 (e.trans h2)
      rw [if_neg h1, if_pos h2, e, beq_eq_false_iff_ne]
      exact ha
    · rw [if_neg h1, if_neg h2]

/-- The token at which the reader stands, as the document's answer has it. -/
theorem SaysOk.tok {s : Bytes} {r : Raw} {st : PS} (h : SaysOk s r st) {ts : List RTok} (ht : RToks ts (toks s)) : ∃ x, ts[r.k]? = some x ∧ x.Of st.t := ht.get h.pos.get
theorem Says.tok {α : Type} {s : Bytes} {r : Raw} {o : Out α} (h : Says s r o) {ts : List RTok} (ht : RToks ts (toks s)) : ∃ x, ts[r.k]? = some x := by
  have := h.lt
  rw [← ht.len] at this
  exact ⟨_, List.getElem?_eq_getElem this⟩
theorem isB_tok {α : Type} {s : Bytes} {k : Nat} {a : α} {st : PS} {x : RTok} (hp : KPos s k st) (hx : x.Of st.t) {kd : Bytes} (hk : kd ≠ kNum) : (x.is == rKind kd) = (Out.ok a st).isB kd := by
  rw [hx.1, rKind_eq hp.noNum hk]
  rfl
end Go.Proofs.YtemppijblfflgabGreatDoor.Ev
namespace Go.Proofs.YtemppijblfflgabGreatDoor.Ev
open Go Go.RowKit

abbrev rNum : Bytes := [110, 117, 109]
def rvalWord : Val → Bytes
  | .num _ => rNum
  | .var _ => kVar
  | .len _ => kLen
  | .freq => kFreq
/-- evictorref.Value -/
def encRVal (v : Val) : List Value := [vs (rvalWord v), .int .i64 (valNum v)]
def rckWord : CK → Bytes
  | .full _ => kFull
  | .empty _ => kEmpty
  | .warm _ => kWarm
  | .less _ _ => kLess
def rckVals : CK → List Value
  | .less a b => encRVal a ++ encRVal b
  | _ => [vs [], .int .i64 0, vs [], .int .i64 0]
/-- evictorref.Cond -/
def encRCond (c : Cond) : List Value := [vs (rckWord c.k), .int .i64 (ckNum c.k)] ++ rckVals c.k ++ [.int .i64 c.nots]
def noRCond : List Value := [vs [], .int .i64 0, vs [], .int .i64 0, vs [], .int .i64 0, .int .i64 0]
/-- evictorref.Stmt -/
def encRPrim (p : Prim) : List Value := [vs (primWord p), .int .i64 (primN p), .int .i64 (primM p), .bool (primTail p)] ++ noRCond ++ [vnil, vnil, .bool false]
def encRIf (c : Cond) (vt : Value) (o : Bool) (ve : Value) : List Value := [vs kIf, .int .i64 0, .int .i64 0, .bool false] ++ encRCond c ++ [vt, ve, .bool o]
def encRRep (n : Int) (c : Cond) (vt : Value) : List Value := [vs kRepeat, .int .i64 n, .int .i64 0, .bool false] ++ encRCond c ++ [vt, vnil, .bool false]

theorem rckVals_len (c : CK) : (rckVals c).length = 4 := by cases c <;> rfl
theorem encRCond_len (c : Cond) : (encRCond c).length = 7 := by simp [encRCond, rckVals_len]
theorem encRPrim_len (p : Prim) : (encRPrim p).length = 14 := rfl
theorem encRIf_len (c : Cond) (vt : Value) (o : Bool) (ve : Value) : (encRIf c vt o ve).length = 14 := by simp [encRIf, encRCond_len]
theorem encRRep_len (n : Int) (c : Cond) (vt : Value) : (encRRep n c vt).length = 14 := by simp [encRRep, encRCond_len]

/-- A slice of statements that owns its row in N. -/
abbrev RSn (N : Nat → Prop) (w : World) (v : Value) (n : Nat) (cs : List Value) : Prop := Sl N w 155 14 v n cs

/-- The cells of a block's statements; what they lead to lies in N. -/
def RStmtsR (N : Nat → Prop) (w : World) : Blk → List Value → Prop
  | .nil, cs => cs = []
  | .prim p r, cs => ∃ rest, cs = encRPrim p ++ rest ∧ RStmtsR N w r rest
  | .ite c t o e r, cs => ∃ vt ve rest, cs = encRIf c vt o ve ++ rest ∧ (∃ ct, RSn N w vt t.length ct ∧ RStmtsR N w t ct) ∧
      (if o then ∃ ce, RSn N w ve e.length ce ∧ RStmtsR N w e ce else ve = vnil ∧ e = .nil) ∧ RStmtsR N w r rest
  | .rep n c b r, cs => ∃ vt rest, cs = encRRep n c vt ++ rest ∧ (∃ ct, RSn N w vt b.length ct ∧ RStmtsR N w b ct) ∧ RStmtsR N w r rest

/-- A block. -/
def RBlkV (N : Nat → Prop) (w : World) (v : Value) (b : Blk) : Prop := ∃ cs, RSn N w v b.length cs ∧ RStmtsR N w b cs

section
variable {N N' : Nat → Prop} {w w' : World}
theorem RSn.kept_ {v : Value} {n : Nat} {cs : List Value} (h : RSn N w v n cs) (hk : ∀ k cs, N k → Row w k 155 cs → w'.heap[k]? = w.heap[k]?) : RSn N w' v n cs := by
  obtain ⟨⟨h0, h1⟩, h2⟩ := h
  refine ⟨⟨h0, ?_⟩, h2⟩
  rcases h1 with h1 | ⟨g, cap, cur, rfl, hb, hg, h4⟩
  · exact .inl h1
  · exact .inr ⟨g, cap, cur, rfl, hb, (hk g cur.toList (h2 g rfl) (by unfold Row; simpa using hg)).trans hg, h4⟩
theorem RSn.mono_ {v : Value} {n : Nat} {cs : List Value} (h : RSn N w v n cs) (hN : ∀ k, k < w.heap.size → N k → N' k) : RSn N' w v n cs :=
  ⟨h.1, fun g hg => hN g (h.lt hg) (h.2 g hg)⟩
theorem RStmtsR.kept (hk : ∀ k cs, N k → Row w k 155 cs → w'.heap[k]? = w.heap[k]?) : ∀ (b : Blk) (cs : List Value), RStmtsR N w b cs → RStmtsR N w' b cs
  | .nil, _, h => h
  | .prim p r, cs, ⟨rest, h1, h2⟩ => ⟨rest, h1, RStmtsR.kept hk r rest h2⟩
  | .ite c t o e r, cs, ⟨vt, ve, rest, h1, ⟨ct, h2, h3⟩, h4, h5⟩ => ⟨vt, ve, rest, h1, ⟨ct, h2.kept_ hk, RStmtsR.kept hk t ct h3⟩, by
      cases o with
      | false => exact h4
      | true =>
        obtain ⟨ce, h6, h7⟩ := h4
        exact ⟨ce, h6.kept_ hk, RStmtsR.kept hk e ce h7⟩, RStmtsR.kept hk r rest h5⟩
  | .rep n c b r, cs, ⟨vt, rest, h1, ⟨ct, h2, h3⟩, h5⟩ => ⟨vt, rest, h1, ⟨ct, h2.kept_ hk, RStmtsR.kept hk b ct h3⟩, RStmtsR.kept hk r rest h5⟩
theorem RStmtsR.mono (hN : ∀ k, k < w.heap.size → N k → N' k) : ∀ (b : Blk) (cs : List Value), RStmtsR N w b cs → RStmtsR N' w b cs
  | .nil, _, h => h
  | .prim p r, cs, ⟨rest, h1, h2⟩ => ⟨rest, h1, RStmtsR.mono hN r rest h2⟩
  | .ite c t o e r, cs, ⟨vt, ve, rest, h1, ⟨ct, h2, h3⟩, h4, h5⟩ => ⟨vt, ve, rest, h1, ⟨ct, h2.mono_ hN, RStmtsR.mono hN t ct h3⟩, by
      cases o with
      | false => exact h4
      | true =>
        obtain ⟨ce, h6, h7⟩ := h4
        exact ⟨ce, h6.mono_ hN, RStmtsR.mono hN e ce h7⟩, RStmtsR.mono hN r rest h5⟩
  | .rep n c b r, cs, ⟨vt, rest, h1, ⟨ct, h2, h3⟩, h5⟩ => ⟨vt, rest, h1, ⟨ct, h2.mono_ hN, RStmtsR.mono hN b ct h3⟩, RStmtsR.mono hN r rest h5⟩
theorem RStmtsR.len : ∀ (b : Blk) (cs : List Value), RStmtsR N w b cs → cs.length = b.length * 14
  | .nil, _, h => by rw [show _ = [] from h]; rfl
  | .prim p r, cs, ⟨rest, h1, h2⟩ => by rw [h1, List.length_append, encRPrim_len, RStmtsR.len r rest h2]; simp [Blk.length, Nat.add_mul, Nat.add_comm]
  | .ite c t o e r, cs, ⟨vt, ve, rest, h1, _, _, h5⟩ => by rw [h1, List.length_append, encRIf_len, RStmtsR.len r rest h5]; simp [Blk.length, Nat.add_mul, Nat.add_comm]
  | .rep n c b r, cs, ⟨vt, rest, h1, _, h5⟩ => by rw [h1, List.length_append, encRRep_len, RStmtsR.len r rest h5]; simp [Blk.length, Nat.add_mul, Nat.add_comm]
theorem RStmtsR.app : ∀ (b : Blk) (cs : List Value) (r : Blk) (rs : List Value), RStmtsR N w b cs → RStmtsR N w r rs → RStmtsR N w (b.app r) (cs ++ rs)
  | .nil, _, r, rs, h, hr => by rw [show _ = [] from h]; exact hr
  | .prim p x, cs, r, rs, ⟨rest, h1, h2⟩, hr => ⟨rest ++ rs, by rw [h1, List.append_assoc], RStmtsR.app x rest r rs h2 hr⟩
  | .ite c t o e x, cs, r, rs, ⟨vt, ve, rest, h1, h2, h4, h5⟩, hr => ⟨vt, ve, rest ++ rs, by rw [h1, List.append_assoc], h2, h4, RStmtsR.app x rest r rs h5 hr⟩
  | .rep n c b x, cs, r, rs, ⟨vt, rest, h1, h2, h5⟩, hr => ⟨vt, rest ++ rs, by rw [h1, List.append_assoc], h2, RStmtsR.app x rest r rs h5 hr⟩
theorem RBlkV.kept {v : Value} {b : Blk} (h : RBlkV N w v b) (hk : ∀ k cs, N k → Row w k 155 cs → w'.heap[k]? = w.heap[k]?) : RBlkV N w' v b := by
  obtain ⟨cs, h1, h2⟩ := h
  exact ⟨cs, h1.kept_ hk, RStmtsR.kept hk b cs h2⟩
theorem RBlkV.mono {v : Value} {b : Blk} (h : RBlkV N w v b) (hN : ∀ k, k < w.heap.size → N k → N' k) : RBlkV N' w v b := by
  obtain ⟨cs, h1, h2⟩ := h
  exact ⟨cs, h1.mono_ hN, RStmtsR.mono hN b cs h2⟩
end
end Go.Proofs.YtemppijblfflgabGreatDoor.Ev
namespace Go.Proofs.YtemppijblfflgabGreatDoor.Ev
open Go Go.RowKit

def encRTok (x : RTok) : List Value := [vs x.is, vs x.txt, .int .i64 x.pos]
def rdeclWord (k : Nat) : Bytes := if k = 2 then kVar else if k = 1 then kGhost else kQueue
def encRDecl (d : Decl) : List Value := [vs (rdeclWord d.kind), vs d.name, .int .i64 d.max]

/-- The cells of evictorref.reader. -/
def rrCells (tl : Value) (gp : Nat) (r : Raw) : List Value :=
  [tl, .int .i64 r.k, .int .i64 r.deep, .int .i64 r.loops, .int .i64 r.bad, .int .i64 r.badAt, .int .i64 r.wrong, .int .i64 r.wrongAt, .pointer (some ⟨gp, 0, none⟩), .int .i64 r.freqs]

/-- The reader of the document's answer. -/
structure RRd (w : World) (g gp : Nat) (tl : Value) (ts : List RTok) (pc : List Value) (r : Raw) : Prop where
  row : Row w g 136 (rrCells tl gp r)
  toks : ∃ N, Sl N w 138 3 tl ts.length (ts.flatMap encRTok)
  tl : ts.length ≤ 1000
  pol : Row w gp 85 pc
  decls : ∃ N vd, pc[0]? = some vd ∧ Sl N w 87 3 vd r.decls.length (r.decls.flatMap encRDecl)
  dl : r.decls.length ≤ 1000

section
variable {w w' : World} {g gp : Nat} {tl : Value} {ts : List RTok} {pc : List Value} {r r' : Raw}

theorem RRd.turn (h : RRd w g gp tl ts pc r) (hk : Kg g w w') (hr : Row w' g 136 (rrCells tl gp r')) (hd : r'.decls = r.decls) : RRd w' g gp tl ts pc r' := by
  have ks : ∀ {t : TypeId} {size n : Nat} {v : Value} {xs : List Value}, t ≠ 136 → (∃ N, Sl N w t size v n xs) → ∃ N, Sl N w' t size v n xs := by
    rintro t size n v xs ht ⟨N, hs⟩
    exact ⟨N, hs.kept hk (fun b hb hh => hh.elim (fun e => hs.ne_row h.row ht (e ▸ hb)) (fun h2 => by have := hs.lt hb; omega))⟩
  refine ⟨hr, ks (by decide) h.toks, h.tl, (kg_at hk h.pol.lt (h.pol.ne_ h.row (by decide))).trans h.pol, ?_, by rw [hd]; exact h.dl⟩
  obtain ⟨N, vd, h1, h2⟩ := h.decls
  obtain ⟨N', h3⟩ := ks (by decide) ⟨N, h2⟩
  rw [hd]
  exact ⟨N', vd, h1, h3⟩
theorem RRd.kg (h : RRd w g gp tl ts pc r) (hk : Kg g w w') (hg : w'.heap[g]? = w.heap[g]?) : RRd w' g gp tl ts pc r := h.turn hk (hg.trans h.row) rfl
theorem RRd.drewN (h : RRd w g gp tl ts pc r) (n : Nat) : RRd (w.drewN n) g gp tl ts pc r := h.kg ((Kept.refl _ _).drewN n) rfl
theorem RRd.alloc (h : RRd w g gp tl ts pc r) (o : Obj) : RRd (w.alloc o) g gp tl ts pc r := h.kg ((Kept.refl _ _).alloc (.inr (Nat.le_refl _)) o) (Below.heap_alloc w o g h.row.lt)
/-- A store into a row beside. -/
theorem RRd.far (h : RRd w g gp tl ts pc r) {n : Nat} {t : TypeId} {cs : List Value} (hn : Row w n t cs) (ht : t ≠ 136 ∧ t ≠ 85 ∧ t ≠ 87) (htl : tl.ownBlock ≠ some n) (i : Nat) (u : Value) :
    RRd (w.setCell ⟨n, i, none⟩ u) g gp tl ts pc r := by
  have hk : Kept (fun b => b = n) w (w.setCell ⟨n, i, none⟩ u) := Kept.one w ⟨n, i, none⟩ u
  obtain ⟨N, hs⟩ := h.toks
  obtain ⟨N', vd, h1, h2⟩ := h.decls
  exact ⟨h.row.far (h.row.ne_ hn (fun e => ht.1 e.symm)) u, ⟨N, hs.kept hk (fun b hb e => htl (e ▸ hb))⟩, h.tl, h.pol.far (h.pol.ne_ hn (fun e => ht.2.1 e.symm)) u, ⟨N', vd, h1, h2.kept hk (fun b hb e => h2.ne_row hn (fun e' => ht.2.2 e'.symm) (e ▸ hb))⟩, h.dl⟩
theorem RRd.cells (h : RRd w g gp tl ts pc r) : w.cell? ⟨g, 0, none⟩ = some tl ∧ w.cell? ⟨g, 1, none⟩ = some (.int .i64 r.k) ∧ w.cell? ⟨g, 2, none⟩ = some (.int .i64 r.deep) ∧ w.cell? ⟨g, 3, none⟩ = some (.int .i64 r.loops) ∧ w.cell? ⟨g, 4, none⟩ = some (.int .i64 r.bad) ∧
    w.cell? ⟨g, 5, none⟩ = some (.int .i64 r.badAt) ∧ w.cell? ⟨g, 6, none⟩ = some (.int .i64 r.wrong) ∧ w.cell? ⟨g, 7, none⟩ = some (.int .i64 r.wrongAt) ∧ w.cell? ⟨g, 8, none⟩ = some (.pointer (some ⟨gp, 0, none⟩)) ∧ w.cell? ⟨g, 9, none⟩ = some (.int .i64 r.freqs) :=
  ⟨h.row.cell 0, h.row.cell 1, h.row.cell 2, h.row.cell 3, h.row.cell 4, h.row.cell 5, h.row.cell 6, h.row.cell 7, h.row.cell 8, h.row.cell 9⟩
/-- The token at a place. -/
theorem RRd.at_ (h : RRd w g gp tl ts pc r) {k : Nat} {x : RTok} (hx : ts[k]? = some x) : ∃ gt ct, tl = .slice (some ⟨gt, 0, none⟩) ts.length ct ∧ ts.length ≤ ct ∧ ct ≤ maxLen ∧ k < ts.length ∧ gt ≠ g ∧ gt < w.heap.size ∧
    w.cell? ⟨gt, k * 3, none⟩ = some (vs x.is) ∧ w.cell? ⟨gt, k * 3 + 1, none⟩ = some (vs x.txt) ∧ w.cell? ⟨gt, k * 3 + 2, none⟩ = some (.int .i64 x.pos) := by
  obtain ⟨N, hs⟩ := h.toks
  have hk := (List.getElem?_eq_some_iff.1 hx).1
  obtain ⟨gt, ct, rfl, _, h1, h2, h3⟩ := hs.form (by omega)
  refine ⟨gt, ct, rfl, h1, h2, hk, fun e => hs.ne_row h.row (by decide) (e ▸ rfl), h3, hs.at_ (fun _ => rfl) hx (j := 0) (by omega), hs.at_ (fun _ => rfl) hx (j := 1) (by omega), hs.at_ (fun _ => rfl) hx (j := 2) (by omega)⟩
end

/-- A truth value; nothing turns. -/
def BoolD (w : World) (b : Bool) (e : Ending) (w' : World) : Prop := e = .returned (.bool b) ∧ ∃ n, w' = w.drewN n

section
variable {w : World} {g gp : Nat} {tl : Value} {ts : List RTok} {pc : List Value} {r : Raw} {s : Bytes} {α : Type} {o : Out α}

set_option maxRecDepth 100000 in
set_option maxHeartbeats 1000000 in
theorem ris_any (h : RRd w g gp tl ts pc r) (hs : Says s r o) (ht : RToks ts (toks s)) {kd kr : Bytes} (hk : kd ≠ kNum) (hkr : rKind kd = kr) : Calls Tryz.prog 55 #[.pointer (some ⟨g, 0, none⟩), vs kr] w (BoolD w (o.isB kd)) := by
  obtain ⟨c0, c1, _, _, c4, _⟩ := h.cells
  cases o with
  | bad e pos =>
    have hb : r.bad ≠ 0 := by rw [SaysBad.bad hs]; exact SaysBad.ne hs
    have e1 : ((r.bad : Int) == 0) = false := by simpa using hb
    have e2 : decide ((r.bad : Int) = 0) = false := by simpa using hb
    have e3 : (Out.bad e pos : Out α).isB kd = false := rfl
    rw [e3]
    clear hs h e3 hb hkr
    go_enter Tryz.func55, Tryz.ntmps55
    go_wp2
    go_quiet (fail)
    go_wp2
    go_ret
    exact ⟨rfl, _, rfl⟩
  | ok a st =>
    obtain ⟨x, hx, hof⟩ := SaysOk.tok hs ht
    obtain ⟨gt, ct, rfl, h1, h2, h3, h4, h5, t0, _⟩ := h.at_ hx
    have hi := isB_tok (a := a) (SaysOk.pos hs) hof hk
    rw [hkr] at hi
    have hb : (r.bad : Int) = 0 := by rw [SaysOk.bad hs]; rfl
    rw [hb] at c4
    rw [← hi]
    unfold maxLen at h2
    have hkk : r.k < ts.length := h3
    generalize r.k = k at *
    generalize ts.length = L at *
    clear hs h hb hx hof hi hkr ht
    unfold vs at *
    go_enter Tryz.func55, Tryz.ntmps55
    go_wp2
    go_quiet (fail)
    go_wp2
    go_ret
    exact ⟨rfl, nq, rfl⟩

/-- What a call comes to that writes into the reader alone. -/
def OutQ {β : Type} (w : World) (g gp : Nat) (tl : Value) (ts : List RTok) (pc : List Value) (s : Bytes) (ds : List Decl) (v : Value) (o : Out β) (e : Ending) (w' : World) : Prop :=
  e = .returned v ∧ Kg g w w' ∧ ∃ r', RRd w' g gp tl ts pc r' ∧ Says s r' o ∧ r'.decls = ds

/-- The first wrong is kept: the reader has failed, if it has not yet. -/
def Out.fail_ {α : Type} (o : Out α) (e : Nat) : Out α := o.bind fun _ st => fail e st

set_option maxRecDepth 100000 in
set_option maxHeartbeats 1000000 in
theorem rfail_any (h : RRd w g gp tl ts pc r) (hs : Says s r o) (ht : RToks ts (toks s)) {e : Nat} (he : e ≠ 0) : Calls Tryz.prog 91 #[.pointer (some ⟨g, 0, none⟩), .int .i64 e] w (OutQ w g gp tl ts pc s r.decls (.tuple #[]) (o.fail_ e)) := by
  obtain ⟨c0, c1, _, _, c4, c5, _⟩ := h.cells
  have ff := fun j => h.row.frozen j
  cases o with
  | bad k pos =>
    have hb : r.bad ≠ 0 := by rw [SaysBad.bad hs]; exact SaysBad.ne hs
    have e1 : ((r.bad : Int) == 0) = false := by simpa using hb
    have e2 : decide ((r.bad : Int) = 0) = false := by simpa using hb
    have HR := Lib.hid h
    have HS := Lib.hid hs
    clear hs h hb
    go_enter Tryz.func91, Tryz.ntmps91
    go_wp2
    go_end0
    exact ⟨rfl, Kept.refl _ _, r, HR.out, HS.out, rfl⟩
  | ok a st =>
    obtain ⟨x, hx, hof⟩ := SaysOk.tok hs ht
    obtain ⟨gt, ct, rfl, h1, h2, h3, h4, h5, _, _, t2⟩ := h.at_ hx
    have hb : (r.bad : Int) = 0 := by rw [SaysOk.bad hs]; rfl
    rw [hb] at c4
    unfold maxLen at h2
    have hkk : r.k < ts.length := h3
    have hpos : x.pos = st.t.pos := hof.2.1
    rw [hpos] at t2
    have HR := Lib.hid h
    have HS := Lib.hid hs
    generalize hk0 : r.k = k at *
    generalize hL : ts.length = L at *
    have HK0 := Lib.hid hk0
    have HL := Lib.hid hL
    clear hs h hb hx hof ht hk0 hL hpos
    go_enter Tryz.func91, Tryz.ntmps91
    go_wp2
    (refine wp_tail 14 (by kernel_rfl) (by kernel_rfl) ?_; simp only [List.take_succ_cons, List.take_zero, List.drop_succ_cons, List.drop_zero]; repeat still_step); refine wpStill_nil ?_
    go_wp2
    go_end0
    have hk2 : Kg g w (((w.setCell ⟨g, 4, none⟩ (.int .i64 e)).setCell ⟨g, 5, none⟩ (.int .i64 st.t.pos)).drewN 1) := (((Kept.refl _ w).setCell (p := ⟨g, 4, none⟩) (.inl rfl) _).setCell (p := ⟨g, 5, none⟩) (.inl rfl) _).drewN 1
    refine ⟨rfl, hk2, { r with bad := e, badAt := st.t.pos }, HR.out.turn hk2 ?_ rfl, HS.out.fail he, rfl⟩
    have := (HR.out.row.set_ 4 (.int .i64 e)).set_ 5 (.int .i64 st.t.pos)
    exact this

/-- A token is taken, if it is the one. -/
def takeO {α : Type} (s kd : Bytes) (o : Out α) : Out Unit := o.bind fun _ st => .ok () (take s kd st).2

theorem takeO_yes {s kd : Bytes} {o : Out α} (h : o.isB kd = true) : ∃ a st, o = .ok a st ∧ st.t.kind = kd ∧ takeO s kd o = .ok () (next s st) := by
  obtain ⟨a, st, rfl, hk⟩ := Out.isB_ok h
  refine ⟨a, st, rfl, hk, ?_⟩
  show Out.ok () (take s kd st).2 = _
  unfold take
  rw [if_pos hk]
theorem takeO_no {s kd : Bytes} {o : Out α} (h : o.isB kd = false) : takeO s kd o = o.bind fun _ st => .ok () st := by
  cases o with
  | bad e p => rfl
  | ok a st =>
    have hk : ¬ st.t.kind = kd := by simpa [Out.isB] using h
    show Out.ok () (take s kd st).2 = .ok () st
    unfold take
    rw [if_neg hk]
theorem Says.unit {s : Bytes} {r : Raw} {o : Out α} (h : Says s r o) : Says s r (o.bind fun _ st => .ok () st) := by
  cases o with
  | bad e p => exact h
  | ok a st => exact h

set_option maxRecDepth 100000 in
set_option maxHeartbeats 1000000 in
theorem rtake_any (h : RRd w g gp tl ts pc r) (hs : Says s r o) (ht : RToks ts (toks s)) {kd kr : Bytes} (hk : kd ≠ kNum) (hkr : rKind kd = kr) (hk1 : kd ≠ kEnd) (hk2 : kd ≠ kNone) :
    Calls Tryz.prog 88 #[.pointer (some ⟨g, 0, none⟩), vs kr] w (OutQ w g gp tl ts pc s r.decls (.bool (o.isB kd)) (takeO s kd o)) := by
  have his := ris_any h hs ht hk hkr
  obtain ⟨c0, c1, _⟩ := h.cells
  have ff := fun j => h.row.frozen j
  have h8 := h.tl
  have hlt := hs.lt
  rw [← ht.len] at hlt
  have HR := Lib.hid h
  have HS := Lib.hid hs
  cases hb : o.isB kd with
  | true =>
    obtain ⟨a, st, rfl, hkd, hto⟩ := takeO_yes (s := s) hb
    have hnx := SaysOk.next hs (by rw [hkd]; exact hk1) (by rw [hkd]; exact hk2)
    rw [hb] at his
    have HI := Lib.hid his
    have HN := Lib.hid hnx
    have HT := Lib.hid hto
    generalize hk0 : r.k = k at *
    generalize hL : ts.length = L at *
    have HK0 := Lib.hid hk0
    have HL := Lib.hid hL
    clear his hs h hb hkd hnx hto ht hk0 hL hkr
    unfold vs at *
    go_enter Tryz.func88, Tryz.ntmps88
    go_wp2_with fail
    refine HI.out.mono ?_
    rintro e w1 ⟨rfl, n, rfl⟩
    go_wp2
    go_ret
    have hk3 : Kg g w ((w.setCell ⟨g, 1, none⟩ (.int .i64 (k + 1))).drewN n) := ((Kept.refl _ w).setCell (p := ⟨g, 1, none⟩) (.inl rfl) _).drewN n
    rw [HT.out]
    refine ⟨rfl, hk3, { r with k := k + 1 }, HR.out.turn hk3 ?_ rfl, HN.out, rfl⟩
    have := HR.out.row.set_ 1 (.int .i64 (k + 1))
    exact this
  | false =>
    have hto := takeO_no (s := s) hb
    rw [hb] at his
    have HI := Lib.hid his
    have HT := Lib.hid hto
    clear his hs h hb hto ht hkr c0 c1 ff hlt h8
    unfold vs at *
    go_enter Tryz.func88, Tryz.ntmps88
    go_wp2_with fail
    refine HI.out.mono ?_
    rintro e w1 ⟨rfl, n, rfl⟩
    go_wp2
    go_ret
    rw [HT.out]
    exact ⟨rfl, (Kept.refl _ _).drewN n, r, HR.out.drewN n, HS.out.unit, rfl⟩

def encRTokV (x : RTok) : Value := .agg #[vs x.is, vs x.txt, .int .i64 x.pos]

/-- What need comes to: a token; the reader. -/
def OutN (w : World) (g gp : Nat) (tl : Value) (ts : List RTok) (pc : List Value) (s : Bytes) (ds : List Decl) (o : Out Tok) (e : Ending) (w' : World) : Prop :=
  ∃ x : RTok, e = .returned (encRTokV x) ∧ Kg g w w' ∧ (∀ t st, o = .ok t st → x.Of t) ∧ ∃ r', RRd w' g gp tl ts pc r' ∧ Says s r' o ∧ r'.decls = ds

/-- need, of the reader so far. -/
def wantO {α : Type} (s kd : Bytes) (o : Out α) : Out Tok := o.bind fun _ st => want s kd st

theorem wantO_yes {s kd : Bytes} {o : Out α} (h : o.isB kd = true) : ∃ a st, o = .ok a st ∧ takeO s kd o = .ok () (next s st) ∧ wantO s kd o = .ok st.t (next s st) := by
  obtain ⟨a, st, rfl, hk, ht⟩ := takeO_yes (s := s) h
  refine ⟨a, st, rfl, ht, ?_⟩
  show want s kd st = _
  unfold want
  rw [if_pos hk]
theorem wantO_no {s kd : Bytes} {o : Out α} (h : o.isB kd = false) {r : Raw} (hs : Says s r ((takeO s kd o).fail_ eSyntax)) : Says s r (wantO s kd o) ∧ ∀ t st, wantO s kd o ≠ .ok t st := by
  rw [takeO_no h] at hs
  cases o with
  | bad e p => exact ⟨hs, fun t st e => by cases e⟩
  | ok a st =>
    have hk : ¬ st.t.kind = kd := by simpa [Out.isB] using h
    have e : wantO s kd (.ok a st) = .bad eSyntax st.t.pos := by
      show want s kd st = _
      unfold want
      rw [if_neg hk]
      rfl
    rw [e]
    exact ⟨hs, fun t st e => by cases e⟩

theorem row_kg {w w' : World} {g : Nat} (hk : Kg g w w') {n : Nat} {t : TypeId} {cs : List Value} (hr : Row w n t cs) (hn : n ≠ g) : Row w' n t cs := (kg_at hk hr.lt hn).trans hr

theorem aggRTok (w : World) : (isAgg 138).run Tryz.prog w = .ok true w := by kernel_rfl
theorem sizeRTok (w : World) : (Go.sizeOf 138).run Tryz.prog w = .ok 3 w := by kernel_rfl

set_option maxRecDepth 100000 in
set_option maxHeartbeats 1000000 in
theorem rneed_any (h : RRd w g gp tl ts pc r) (hs : Says s r o) (ht : RToks ts (toks s)) {kd kr : Bytes} (hk : kd ≠ kNum) (hkr : rKind kd = kr) (hk1 : kd ≠ kEnd) (hk2 : kd ≠ kNone) :
    Calls Tryz.prog 58 #[.pointer (some ⟨g, 0, none⟩), vs kr] w (OutN w g gp tl ts pc s r.decls (wantO s kd o)) := by
  have htake := fun W (hW : RRd W g gp tl ts pc r) => rtake_any hW hs ht hk hkr hk1 hk2
  obtain ⟨c0, c1, _⟩ := h.cells
  have hlt := h.row.lt
  obtain ⟨x, hx⟩ := hs.tok ht
  obtain ⟨gt, ct, rfl, h1, h2, h3, h4, h5, t0, t1, t2⟩ := h.at_ hx
  unfold maxLen at h2
  have hkk : r.k < ts.length := h3
  have h8 := h.tl
  have HR := Lib.hid h
  have HS := Lib.hid hs
  have HX := Lib.hid hx
  have HTT := Lib.hid ht
  have HT := Lib.hid htake
  generalize hk0 : r.k = k at *
  generalize hL : ts.length = L at *
  have HK0 := Lib.hid hk0
  have HL := Lib.hid hL
  clear hs h hx ht hk0 hL htake hkr
  cases hb : o.isB kd
  all_goals
    have HB := Lib.hid hb
    clear hb
    unfold vs at *
    go_enter Tryz.func58, Tryz.ntmps58
    go_wp2
    go_region
    go_wp2_with fail
    have hrr : RRd ((w.alloc (.cells #[vs [], vs [], .int .i64 0] 138)).alloc (.cells #[vs x.is, vs x.txt, .int .i64 x.pos] 138)).drew g gp (.slice (some ⟨gt, 0, none⟩) L ct) ts pc r := ((HR.out.alloc _).alloc _).drewN 1
    have x0 : Row ((w.alloc (.cells #[vs [], vs [], .int .i64 0] 138)).alloc (.cells #[vs x.is, vs x.txt, .int .i64 x.pos] 138)).drew w.heap.size 138 [vs [], vs [], .int .i64 0] := (Row.new w _ _).alloc _
    have x1 : Row ((w.alloc (.cells #[vs [], vs [], .int .i64 0] 138)).alloc (.cells #[vs x.is, vs x.txt, .int .i64 x.pos] 138)).drew (w.heap.size + 1) 138 [vs x.is, vs x.txt, .int .i64 x.pos] := by
      have := Row.new (w.alloc (.cells #[vs [], vs [], .int .i64 0] 138)) 138 [vs x.is, vs x.txt, .int .i64 x.pos]
      simp only [World.size_alloc] at this
      exact this
    have kk : Kg g w ((w.alloc (.cells #[vs [], vs [], .int .i64 0] 138)).alloc (.cells #[vs x.is, vs x.txt, .int .i64 x.pos] 138)).drew := (((Kept.refl _ w).alloc (.inr (Nat.le_refl _)) _).alloc (.inr (by simp)) _).drew
    have htk := HT.out _ hrr
    rw [HB.out] at htk
    have HTK := Lib.hid htk
    have X0 := Lib.hid x0
    have X1 := Lib.hid x1
    have KK := Lib.hid kk
    clear hrr htk x0 x1 kk
    unfold vs at *
    refine HTK.out.mono ?_
    rintro e w1 ⟨rfl, hk1, r', hr', hs', hd'⟩
    have HD' := Lib.hid hd'
    clear hd'
    have K1 := Lib.hid hk1
    have HR' := Lib.hid hr'
    have HS' := Lib.hid hs'
    clear hk1 hr' hs'
    first
      | (go_wp2_with fail
         refine (rfail_any HR'.out HS'.out HTT.out (e := 2) (by decide)).mono ?_
         rintro e w2 ⟨rfl, hk2, r2, hr2, hs2, hd2⟩
         have HD2 := Lib.hid hd2
         clear hd2
         have K2 := Lib.hid hk2
         have HR2 := Lib.hid hr2
         have HS2 := Lib.hid hs2
         clear hk2 hr2 hs2)
      | skip
    first
      | have y0 := row_kg K2.out (row_kg K1.out X0.out (by omega)) (by omega)
      | have y0 := row_kg K1.out X0.out (by omega)
    first
      | have y1 := row_kg K2.out (row_kg K1.out X1.out (by omega)) (by omega)
      | have y1 := row_kg K1.out X1.out (by omega)
    have d0 := y0.cell 0
    have d1 := y0.cell 1
    have d2 := y0.cell 2
    have e0 := y1.cell 0
    have e1' := y1.cell 1
    have e2' := y1.cell 2
    have fz := fun j => y0.frozen j
    have Y0 := Lib.hid y0
    clear y0 y1
    simp at d0 d1 d2 e0 e1' e2'
    go_wp2
    have q1 := Y0.out
    have htl : (Value.slice (some ⟨gt, 0, none⟩) L ct).ownBlock ≠ some w.heap.size := fun e => by injection e with e; simp only at e; omega
    first
      | have g0 := HR2.out
      | have g0 := HR'.out
    first
      | have kk : Kg g w _ := (KK.out.trans K1.out).trans K2.out
      | have kk : Kg g w _ := KK.out.trans K1.out
    have g1 := g0.far q1 (by decide) htl 0 (.string ⟨x.is.toArray⟩)
    have q2 := q1.set_ 0 (.string ⟨x.is.toArray⟩)
    have g2 := g1.far q2 (by decide) htl 1 (.string ⟨x.txt.toArray⟩)
    have q3 := q2.set_ 1 (.string ⟨x.txt.toArray⟩)
    have g3 := g2.far q3 (by decide) htl 2 (.int .i64 x.pos)
    have q4 := q3.set_ 2 (.int .i64 x.pos)
    have k4 := ((kk.setCell (p := ⟨w.heap.size, 0, none⟩) (.inr (Nat.le_refl _)) (.string ⟨x.is.toArray⟩)).setCell (p := ⟨w.heap.size, 1, none⟩) (.inr (Nat.le_refl _)) (.string ⟨x.txt.toArray⟩)).setCell (p := ⟨w.heap.size, 2, none⟩) (.inr (Nat.le_refl _)) (.int .i64 x.pos)
    refine bodyPost_ret (results_cell (cs := [.string ⟨x.is.toArray⟩, .string ⟨x.txt.toArray⟩, .int .i64 x.pos]) Tryz.results58 aggRTok sizeRTok rfl q4) rfl ?_
    refine ⟨x, rfl, k4, ?_⟩
    first
      | (obtain ⟨a, st, rfl, e1, e2⟩ := wantO_yes (s := s) HB.out
         refine ⟨fun t st' e => ?_, _, g3, ?_, HD'.out⟩
         rw [e2] at e
         injection e with e3 e4
         obtain ⟨x', hx', hof⟩ := SaysOk.tok HS.out HTT.out
         rw [HK0.out, HX.out] at hx'
         injection hx' with hx'
         rw [← e3, hx']
         exact hof
         rw [e2]
         have h9 := HS'.out
         rw [e1] at h9
         exact h9)
      | (obtain ⟨e1, e2⟩ := wantO_no HB.out HS2.out
         exact ⟨fun t st' e => absurd e (e2 t st'), _, g3, e1, HD2.out.trans HD'.out⟩)
end
end Go.Proofs.YtemppijblfflgabGreatDoor.Ev
namespace Go.Proofs.YtemppijblfflgabGreatDoor.Ev
open Go Go.RowKit

/-- note, of the reader so far. -/
def noteO {α : Type} (e pos : Nat) (o : Out α) : Out Unit := o.bind fun _ st => .ok () (note e pos st)

section
variable {w : World} {g gp : Nat} {tl : Value} {ts : List RTok} {pc : List Value} {r : Raw} {s : Bytes} {α : Type} {o : Out α}

set_option maxRecDepth 100000 in
set_option maxHeartbeats 1000000 in
theorem rnote_any (h : RRd w g gp tl ts pc r) (hs : Says s r o) {e : Nat} (he : e ≠ 0) (pos : Nat) : Calls Tryz.prog 86 #[.pointer (some ⟨g, 0, none⟩), .int .i64 e, .int .i64 pos] w (OutQ w g gp tl ts pc s r.decls (.tuple #[]) (noteO e pos o)) := by
  obtain ⟨_, _, _, _, c4, _, c6, _⟩ := h.cells
  have ff := fun j => h.row.frozen j
  have HR := Lib.hid h
  cases o with
  | bad k p =>
    have hb : r.bad ≠ 0 := by rw [SaysBad.bad hs]; exact SaysBad.ne hs
    have e1 : ((r.bad : Int) == 0) = false := by simpa using hb
    have e2 : decide ((r.bad : Int) = 0) = false := by simpa using hb
    have HS := Lib.hid hs
    clear hs h hb
    go_enter Tryz.func86, Tryz.ntmps86
    go_wp2
    go_end0
    exact ⟨rfl, Kept.refl _ _, r, HR.out, HS.out, rfl⟩
  | ok a st =>
    have hb : (r.bad : Int) = 0 := by rw [SaysOk.bad hs]; rfl
    rw [hb] at c4
    have hnt := SaysOk.note (pos := pos) hs he
    have HN := Lib.hid hnt
    by_cases hw : r.wrong = 0
    · have hw2 : (r.wrong : Int) = 0 := by omega
      rw [hw2] at c6
      have HW := Lib.hid hw
      clear hs h hb hnt hw hw2
      go_enter Tryz.func86, Tryz.ntmps86
      go_wp2
      go_end0
      have hk2 : Kg g w ((w.setCell ⟨g, 6, none⟩ (.int .i64 e)).setCell ⟨g, 7, none⟩ (.int .i64 pos)) := ((Kept.refl _ w).setCell (p := ⟨g, 6, none⟩) (.inl rfl) _).setCell (p := ⟨g, 7, none⟩) (.inl rfl) _
      refine ⟨rfl, hk2, { r with wrong := e, wrongAt := pos }, HR.out.turn hk2 ?_ rfl, ?_, rfl⟩
      · have := (HR.out.row.set_ 6 (.int .i64 e)).set_ 7 (.int .i64 pos)
        exact this
      · have := HN.out
        rw [if_pos HW.out] at this
        exact this
    · have e1 : ((r.wrong : Int) == 0) = false := by simpa using hw
      have e2 : decide ((r.wrong : Int) = 0) = false := by simpa using hw
      have HW := Lib.hid hw
      clear hs h hb hnt hw
      go_enter Tryz.func86, Tryz.ntmps86
      go_wp2
      go_end0
      refine ⟨rfl, Kept.refl _ _, r, HR.out, ?_, rfl⟩
      have := HN.out
      rw [if_neg HW.out] at this
      exact this
end

set_option maxRecDepth 100000 in
set_option maxHeartbeats 1000000 in
theorem rfind_any {S : Nat → Prop} (name : Bytes) (gp : Nat) (l : List Decl) (vd : Value) (w : World) (hs : Sl S w 87 3 vd l.length (l.flatMap encRDecl)) (hl : l.length ≤ 1000) (hg : gp < w.heap.size) (hc : w.cell? ⟨gp, 0, none⟩ = some vd) :
    Calls Tryz.prog 49 #[.pointer (some ⟨gp, 0, none⟩), vs name] w fun e w' => e = .returned (.int .i64 (find l name)) ∧ Below w.heap.size w w' := by
  obtain ⟨ao, cap, rfl⟩ := hs.any_
  have HS := Lib.hid hs
  have HC := Lib.hid hc
  clear hs
  go_enter Tryz.func49, Tryz.ntmps49
  go_wp2
  go_loopg [12] l.length (fun gg s12 wr => ∃ kk : Nat, kk ≤ l.length ∧ l.length - kk ≤ gg ∧ s12 = .int .i64 kk ∧ Below w.heap.size w wr ∧ (∀ (j : Nat) (d : Decl), j < kk → l[j]? = some d → d.name ≠ name))
  case atStart => exact ⟨0, Nat.zero_le _, by omega, rfl, Below.refl _ w, fun j d hj => absurd hj (Nat.not_lt_zero _)⟩
  case round =>
    obtain ⟨kk, hkk, hg', rfl, bw, a⟩ := hrel
    have BW := Lib.hid bw
    have A := Lib.hid a
    clear bw a hc
    by_cases hlt : kk < l.length
    · obtain ⟨x, hx⟩ : ∃ x, l[kk]? = some x := ⟨_, List.getElem?_eq_getElem hlt⟩
      obtain ⟨gd, rfl, hgd, hcell⟩ := HS.out.get_ (fun _ => rfl) hx
      have c0 : wr.cell? ⟨gd, kk * 3, none⟩ = some (vs (rdeclWord x.kind)) := (BW.out.cell (p := ⟨gd, kk * 3, none⟩) hgd).trans (hcell 0 (by omega))
      have c1 : wr.cell? ⟨gd, kk * 3 + 1, none⟩ = some (vs x.name) := (BW.out.cell (p := ⟨gd, kk * 3 + 1, none⟩) hgd).trans (hcell 1 (by omega))
      have c2 : wr.cell? ⟨gd, kk * 3 + 2, none⟩ = some (.int .i64 x.max) := (BW.out.cell (p := ⟨gd, kk * 3 + 2, none⟩) hgd).trans (hcell 2 (by omega))
      have hsz := BW.out.size
      have hnd : ¬ gd = wr.heap.size := by omega
      have HX := Lib.hid hx
      clear hx hcell hgd
      unfold vs at *
      by_cases hn : x.name = name
      · have e1 : (x.name == name) = true := by simpa using hn
        have e2 : decide (x.name = name) = true := by simpa using hn
        have HN := Lib.hid hn
        clear hn
        go_wp2
        go_ret
        refine ⟨?_, BW.out.alloc hsz _⟩
        unfold find
        rw [findFrom_hit name l 0 kk x HX.out HN.out A.out, Nat.zero_add]
        rfl
      · have e1 : (x.name == name) = false := by simpa using hn
        have e2 : decide (x.name = name) = false := by simpa using hn
        have HN := Lib.hid hn
        clear hn
        go_wp2
        go_roundg (l.length - (kk + 1))
        case measure => omega
        case rel =>
          refine ⟨kk + 1, by omega, by omega, by go_num, BW.out.alloc hsz _, fun j d hj hd => ?_⟩
          by_cases e : j = kk
          · subst e
            rw [HX.out] at hd
            injection hd with hd
            exact hd ▸ HN.out
          · exact A.out j d (by omega) hd
    · have : kk = l.length := by omega
      subst this
      go_wp2
      go_ret
      refine ⟨?_, BW.out⟩
      unfold find
      rw [findFrom_miss name l 0 (fun j d hd => A.out j d (List.getElem?_eq_some_iff.1 hd).1 hd)]
      rfl
end Go.Proofs.YtemppijblfflgabGreatDoor.Ev
namespace Go.Proofs.YtemppijblfflgabGreatDoor.Ev
open Go Go.RowKit

theorem atoi_take {l : Bytes} {k : Nat} (hk : k < l.length) : atoi (l.take (k + 1)) = 10 * atoi (l.take k) + ((l[k].toNat : Int) - 48) := by
  unfold atoi
  rw [List.take_succ_eq_append_getElem hk, List.foldl_append]
  rfl

/-- A number is handed out. -/
def OutI (w : World) (g gp : Nat) (tl : Value) (ts : List RTok) (pc : List Value) (s : Bytes) (ds : List Decl) (o : Out Int) (e : Ending) (w' : World) : Prop :=
  ∃ v : Int, e = .returned (.int .i64 v) ∧ Kg g w w' ∧ (∀ n st, o = .ok n st → v = n) ∧ ∃ r', RRd w' g gp tl ts pc r' ∧ Says s r' o ∧ r'.decls = ds

def numO {α : Type} (s : Bytes) (least most : Int) (o : Out α) : Out Int := o.bind fun _ st => number s least most st
theorem numO_eq {α : Type} (s : Bytes) (least most : Int) (o : Out α) : numO s least most o = (wantO s kNumber o).bind fun t st => .ok (atoi t.text) (if atoi t.text < least ∨ atoi t.text > most then note eNumber t.pos st else st) := by
  cases o with
  | bad e p => rfl
  | ok a st => rfl
theorem wantO_num {α : Type} {s : Bytes} {o : Out α} {t : Tok} {st : PS} {r : Raw} (hs : Says s r o) (h : wantO s kNumber o = .ok t st) : NumText t.text ∧ t.kind = kNumber := by
  cases o with
  | bad e p => cases h
  | ok a st0 =>
    obtain ⟨h1, rfl, _⟩ := want_ok (show want s kNumber st0 = .ok t st from h)
    exact ⟨(SaysOk.ok hs).num h1, h1⟩

section
variable {w : World} {g gp : Nat} {tl : Value} {ts : List RTok} {pc : List Value} {r : Raw} {s : Bytes} {α : Type} {o : Out α}

set_option maxRecDepth 100000 in
set_option maxHeartbeats 2000000 in
theorem rnumber_any (h : RRd w g gp tl ts pc r) (hs : Says s r o) (ht : RToks ts (toks s)) (least most : Int) : Calls Tryz.prog 87 #[.pointer (some ⟨g, 0, none⟩), .int .i64 least, .int .i64 most] w (OutI w g gp tl ts pc s r.decls (numO s least most o)) := by
  have hneed := rneed_any h hs ht (kd := kNumber) (kr := kNum) (by decide) (by decide) (by decide) (by decide)
  rw [numO_eq]
  have hnt := fun t st => wantO_num (t := t) (st := st) hs
  generalize wantO s kNumber o = o1 at *
  have HN := Lib.hid hneed
  have HNT := Lib.hid hnt
  clear hneed hnt h hs
  go_enter Tryz.func87, Tryz.ntmps87
  unfold vs at *
  go_wp2_with fail
  refine HN.out.mono ?_
  rintro e w1 ⟨x, rfl, hk1, hx, r1, h1, hs1, hd1⟩
  have hlt := h1.row.lt
  have hng : ¬ g = w1.heap.size := by omega
  obtain ⟨_, _, _, _, c4, _⟩ := h1.cells
  unfold encRTokV vs
  have HR := Lib.hid (h1.alloc (.cells #[vs x.is, vs x.txt, .int .i64 x.pos] 138))
  have K1 := Lib.hid (hk1.alloc (.inr hk1.size) (.cells #[vs x.is, vs x.txt, .int .i64 x.pos] 138))
  have HD := Lib.hid hd1
  clear h1 hk1 hd1 HN
  unfold vs at *
  cases o1 with
  | bad k p =>
    have hb : r1.bad ≠ 0 := by rw [SaysBad.bad hs1]; exact SaysBad.ne hs1
    have e1 : ((r1.bad : Int) == 0) = false := by simpa using hb
    have e2 : decide ((r1.bad : Int) = 0) = false := by simpa using hb
    have HS := Lib.hid hs1
    clear hb hs1 hx
    have hL := Lib.hid (show (x.txt.length : Int) = (x.txt.length : Int) from rfl)
    go_wp2
    go_loopg [8, 9] 0 (fun gg s8 s9 wr => s8 = .int .i64 0 ∧ s9 = .int .i64 0 ∧ wr = w1.alloc (.cells #[.string ⟨x.is.toArray⟩, .string ⟨x.txt.toArray⟩, .int .i64 x.pos] 138))
    case atStart => exact ⟨rfl, rfl, rfl⟩
    case round =>
      obtain ⟨rfl, rfl, rfl⟩ := hrel
      have hend : ∀ (c : Bool), (0 : Int) < least ∨ most < 0 → Calls Tryz.prog 86 #[.pointer (some ⟨g, 0, none⟩), .int .i64 7, .int .i64 x.pos] (w1.alloc (.cells #[.string ⟨x.is.toArray⟩, .string ⟨x.txt.toArray⟩, .int .i64 x.pos] 138)) (OutQ (w1.alloc (.cells #[.string ⟨x.is.toArray⟩, .string ⟨x.txt.toArray⟩, .int .i64 x.pos] 138)) g gp tl ts pc s r1.decls (.tuple #[]) (noteO eNumber x.pos (Out.bad k p : Out Tok))) := fun _ _ => rnote_any (e := eNumber) HR.out HS.out (by decide) x.pos
      have HEND := Lib.hid hend
      clear hend
      by_cases hz : (0 : Int) < (x.txt.length : Int)
      all_goals
        by_cases c1 : (0 : Int) < least
        · go_wp2_with fail
          refine (HEND.out true (.inl c1)).mono ?_
          rintro e w3 ⟨rfl, hk3, r3, h3, hs3, hd3⟩
          have F := Lib.hid (And.intro hk3 (And.intro h3 (And.intro hs3 hd3)))
          clear hk3 h3 hs3 hd3
          go_wp2
          go_ret
          obtain ⟨f1, f2, f3, f4⟩ := F.out
          exact ⟨0, rfl, Kg.trans K1.out f1, fun n st e => (by cases e), r3, f2, f3, f4.trans HD.out⟩
        · by_cases c2 : most < 0
          · go_wp2_with fail
            refine (HEND.out true (.inr c2)).mono ?_
            rintro e w3 ⟨rfl, hk3, r3, h3, hs3, hd3⟩
            have F := Lib.hid (And.intro hk3 (And.intro h3 (And.intro hs3 hd3)))
            clear hk3 h3 hs3 hd3
            go_wp2
            go_ret
            obtain ⟨f1, f2, f3, f4⟩ := F.out
            exact ⟨0, rfl, Kg.trans K1.out f1, fun n st e => (by cases e), r3, f2, f3, f4.trans HD.out⟩
          · go_wp2
            go_ret
            exact ⟨0, rfl, K1.out, fun n st e => (by cases e), r1, HR.out, HS.out, HD.out⟩
  | ok t st =>
    have hb : (r1.bad : Int) = 0 := by rw [SaysOk.bad hs1]; rfl
    rw [hb] at c4
    have HS := Lib.hid hs1
    have hof := hx t st rfl
    obtain ⟨⟨n1, n2, n3⟩, hkn⟩ := HNT.out t st rfl
    have hpos : x.pos = t.pos := hof.2.1
    have htx : x.txt = t.text := hof.2.2 (by rw [hkn]; decide)
    have HP := Lib.hid hpos
    have HTX := Lib.hid htx
    rw [← htx] at n1 n2 n3
    have hdig : ∀ (k : Nat) (hk : k < x.txt.length), 48 ≤ (x.txt[k]).toNat ∧ (x.txt[k]).toNat ≤ 57 := fun k hk => by
      have := n3 _ (List.getElem_mem hk)
      simp only [fig, Bool.and_eq_true, decide_eq_true_eq, UInt8.le_iff_toNat_le] at this
      exact this
    have HDIG := Lib.hid hdig
    have hnote : Calls Tryz.prog 86 #[.pointer (some ⟨g, 0, none⟩), .int .i64 7, .int .i64 x.pos] (w1.alloc (.cells #[.string ⟨x.is.toArray⟩, .string ⟨x.txt.toArray⟩, .int .i64 x.pos] 138)) (OutQ (w1.alloc (.cells #[.string ⟨x.is.toArray⟩, .string ⟨x.txt.toArray⟩, .int .i64 x.pos] 138)) g gp tl ts pc s r1.decls (.tuple #[]) (noteO eNumber x.pos (Out.ok t st))) := rnote_any (e := eNumber) HR.out HS.out (by decide) x.pos
    have HNOTE := Lib.hid hnote
    clear hnote hs1 hx hof n3 hpos htx hb hkn HNT hdig
    go_wp2
    go_loopg [8, 9] x.txt.length (fun gg s8 s9 wr => ∃ (k : Nat) (v : Int), k ≤ x.txt.length ∧ x.txt.length - k ≤ gg ∧ s9 = .int .i64 k ∧ s8 = .int .i64 v ∧ v = atoi (x.txt.take k) ∧ 0 ≤ v ∧ (k = 0 → v = 0) ∧ (k = 1 → v ≤ 9) ∧ (k = 2 → v ≤ 99) ∧ v ≤ 999 ∧ wr = w1.alloc (.cells #[.string ⟨x.is.toArray⟩, .string ⟨x.txt.toArray⟩, .int .i64 x.pos] 138))
    case atStart => exact ⟨0, 0, by omega, by omega, rfl, rfl, rfl, by omega, by omega, by omega, by omega, by omega, rfl⟩
    case round =>
      obtain ⟨k, v, hk, hg, rfl, rfl, hv, v0, v1, v2, v3, v4, rfl⟩ := hrel
      have HV := Lib.hid hv
      clear hv
      by_cases hlt : k < x.txt.length
      · obtain ⟨d1, d2⟩ := HDIG.out k hlt
        have ha := atoi_take hlt
        have HA := Lib.hid ha
        clear ha
        go_wp2
        go_roundg (x.txt.length - (k + 1))
        case measure => omega
        case rel =>
          refine ⟨k + 1, 10 * v + ((x.txt[k].toNat : Int) - 48), by omega, by omega, by go_num, ?_, ?_, by omega, by omega, by omega, by omega, by omega, rfl⟩
          · have e0 : (⟨x.txt.toArray⟩ : ByteArray)[k] = x.txt[k] := rfl
            rw [e0]
            congr 1
            omega
          · rw [HA.out, HV.out]
      · have hke : k = x.txt.length := by omega
        subst hke
        have hv2 : v = atoi t.text := by rw [HV.out, List.take_length, HTX.out]
        have HV2 := Lib.hid hv2
        clear hv2
        by_cases c1 : v < least
        · go_wp2_with fail
          refine HNOTE.out.mono ?_
          rintro e w3 ⟨rfl, hk3, r3, h3, hs3, hd3⟩
          have F := Lib.hid (And.intro hk3 (And.intro h3 (And.intro hs3 hd3)))
          clear hk3 h3 hs3 hd3
          go_wp2
          go_ret
          obtain ⟨f1, f2, f3, f4⟩ := F.out
          refine ⟨v, rfl, Kg.trans K1.out f1, fun n st' e => ?_, r3, f2, ?_, f4.trans HD.out⟩
          · injection e with e _
            rw [HV2.out, e]
          · show SaysOk s r3 (if _ then _ else _)
            rw [← HV2.out, if_pos (.inl c1), ← HP.out]
            exact f3
        · by_cases c2 : v > most
          · go_wp2_with fail
            refine HNOTE.out.mono ?_
            rintro e w3 ⟨rfl, hk3, r3, h3, hs3, hd3⟩
            have F := Lib.hid (And.intro hk3 (And.intro h3 (And.intro hs3 hd3)))
            clear hk3 h3 hs3 hd3
            go_wp2
            go_ret
            obtain ⟨f1, f2, f3, f4⟩ := F.out
            refine ⟨v, rfl, Kg.trans K1.out f1, fun n st' e => ?_, r3, f2, ?_, f4.trans HD.out⟩
            · injection e with e _
              rw [HV2.out, e]
            · show SaysOk s r3 (if _ then _ else _)
              rw [← HV2.out, if_pos (.inr c2), ← HP.out]
              exact f3
          · go_wp2
            go_ret
            refine ⟨v, rfl, K1.out, fun n st' e => ?_, r1, HR.out, ?_, HD.out⟩
            · injection e with e _
              rw [HV2.out, e]
            · show SaysOk s r1 (if _ then _ else _)
              rw [← HV2.out, if_neg (by omega)]
              exact HS.out
end
end Go.Proofs.YtemppijblfflgabGreatDoor.Ev
namespace Go.Proofs.YtemppijblfflgabGreatDoor.Ev
open Go Go.RowKit

theorem Sl.below_ {N : Nat → Prop} {w w' : World} {t : TypeId} {size n : Nat} {v : Value} {xs : List Value} (h : Sl N w t size v n xs) (hb : Below w.heap.size w w') : Sl N w' t size v n xs :=
  h.kept (Kept.of_below hb (S := fun b => w.heap.size ≤ b) (fun k hk => hk)) (fun b hb hs => by have := h.lt hb; omega)
theorem rdeclWord_var {k : Nat} (h : k = 2) : rdeclWord k = kVar := by unfold rdeclWord; rw [if_pos h]
theorem rdeclWord_no {k : Nat} (h : ¬ k = 2) : (rdeclWord k == kVar) = false := by
  unfold rdeclWord; rw [if_neg h]; split <;> decide

/-- The place of a declaration is handed out: where nothing is wrong, the one. -/
def OutNm (w : World) (g gp : Nat) (tl : Value) (ts : List RTok) (pc : List Value) (s : Bytes) (ds : List Decl) (o : Out Int) (e : Ending) (w' : World) : Prop :=
  ∃ v : Nat, e = .returned (.int .i64 v) ∧ Kg g w w' ∧ (∀ n st, o = .ok n st → st.wrong = none → n = v) ∧ ∃ r', RRd w' g gp tl ts pc r' ∧ Says s r' o ∧ r'.decls = ds

def nmO {α : Type} (s : Bytes) (b : Bool) (o : Out α) : Out Int := o.bind fun _ st => name s b st
theorem nmO_eq {α : Type} (s : Bytes) (b : Bool) (o : Out α) : nmO s b o = (wantO s kName o).bind fun t st => .ok (find st.decls t.text) (nameNote b t st) := by
  cases o with
  | bad e p => rfl
  | ok a st => rfl

def NmT (ds : List Decl) (x : RTok) (o : Out Tok) : Prop := ∀ t st, o = .ok t st → x.pos = t.pos ∧ x.txt = t.text ∧ st.decls = ds

section
variable {s : Bytes} {r r2 : Raw} {x : RTok} {o : Out Tok} {b : Bool} {i : Nat} {d : Decl}
theorem nm_miss (h : NmT r.decls x o) (hf : find r.decls x.txt = -1) (hs : Says s r2 (noteO eNone x.pos o)) :
    Says s r2 (o.bind fun t st => .ok (find st.decls t.text) (nameNote b t st)) ∧ ∀ n st, (o.bind fun t st => Out.ok (find st.decls t.text) (nameNote b t st)) = .ok n st → st.wrong = none → n = ((0 : Nat) : Int) := by
  cases o with
  | bad e p => exact ⟨hs, fun n st e => by cases e⟩
  | ok t st =>
    obtain ⟨h1, h2, h3⟩ := h t st rfl
    have e : nameNote b t st = note eNone t.pos st := by unfold nameNote; rw [h3, ← h2, hf]; rfl
    refine ⟨?_, fun n st' e' hw => ?_⟩
    · show SaysOk s r2 (nameNote b t st)
      rw [e, ← h1]
      exact hs
    · injection e' with _ e'
      rw [← e', e] at hw
      exact absurd hw (note_wrong _ _ _)
theorem nm_kind (h : NmT r.decls x o) (hi : r.decls[i]? = some d) (hf : find r.decls x.txt = (i : Int)) (hd : declAt r.decls (i : Int) = d) (hk : ((d.kind == 2) != b) = true) (hs : Says s r2 (noteO eKind x.pos o)) :
    Says s r2 (o.bind fun t st => .ok (find st.decls t.text) (nameNote b t st)) ∧ ∀ n st, (o.bind fun t st => Out.ok (find st.decls t.text) (nameNote b t st)) = .ok n st → st.wrong = none → n = (i : Int) := by
  cases o with
  | bad e p => exact ⟨hs, fun n st e => by cases e⟩
  | ok t st =>
    obtain ⟨h1, h2, h3⟩ := h t st rfl
    have e : nameNote b t st = note eKind t.pos st := by unfold nameNote; rw [h3, ← h2, hf, if_neg (by omega), hd, if_pos hk]
    refine ⟨?_, fun n st' e' hw => ?_⟩
    · show SaysOk s r2 (nameNote b t st)
      rw [e, ← h1]
      exact hs
    · injection e' with _ e'
      rw [← e', e] at hw
      exact absurd hw (note_wrong _ _ _)
theorem nm_ok (h : NmT r.decls x o) (hi : r.decls[i]? = some d) (hf : find r.decls x.txt = (i : Int)) (hd : declAt r.decls (i : Int) = d) (hk : ((d.kind == 2) != b) = false) (hs : Says s r2 o) :
    Says s r2 (o.bind fun t st => .ok (find st.decls t.text) (nameNote b t st)) ∧ ∀ n st, (o.bind fun t st => Out.ok (find st.decls t.text) (nameNote b t st)) = .ok n st → st.wrong = none → n = (i : Int) := by
  cases o with
  | bad e p => exact ⟨hs, fun n st e => by cases e⟩
  | ok t st =>
    obtain ⟨h1, h2, h3⟩ := h t st rfl
    have e : nameNote b t st = st := by unfold nameNote; rw [h3, ← h2, hf, if_neg (by omega), hd, hk]; rfl
    refine ⟨?_, fun n st' e' hw => ?_⟩
    · show SaysOk s r2 (nameNote b t st)
      rw [e]
      exact hs
    · injection e' with e1 e'
      rw [← e1, h3, ← h2, hf]
end

section
variable {w : World} {g gp : Nat} {tl : Value} {ts : List RTok} {pc : List Value} {r : Raw} {s : Bytes} {α : Type} {o : Out α}

theorem wantO_nm {t : Tok} {st : PS} {x : RTok} (h : wantO s kName o = .ok t st) (hx : x.Of t) {r1 : Raw} (hs : Says s r1 (wantO s kName o)) : x.pos = t.pos ∧ x.txt = t.text ∧ st.decls = r1.decls := by
  cases o with
  | bad e p => cases h
  | ok a st0 =>
    have hs2 := hs
    rw [h] at hs2
    obtain ⟨h1, rfl, h2⟩ := want_ok (show want s kName st0 = .ok t st from h)
    exact ⟨hx.2.1, hx.2.2 (by rw [h1]; decide), (SaysOk.decls hs2).symm⟩

set_option maxRecDepth 100000 in
set_option maxHeartbeats 2000000 in
theorem rnamed_any (h : RRd w g gp tl ts pc r) (hs : Says s r o) (ht : RToks ts (toks s)) (b : Bool) : Calls Tryz.prog 89 #[.pointer (some ⟨g, 0, none⟩), .bool b] w (OutNm w g gp tl ts pc s r.decls (nmO s b o)) := by
  have hneed := rneed_any h hs ht (kd := kName) (kr := kName) (by decide) (by decide) (by decide) (by decide)
  rw [nmO_eq]
  have hnt := fun t st x r1 h1 h2 h3 => wantO_nm (s := s) (o := o) (t := t) (st := st) (x := x) (r1 := r1) h1 h2 h3
  generalize wantO s kName o = o1 at *
  have HN := Lib.hid hneed
  have HNT := Lib.hid hnt
  clear hneed hnt h hs
  go_enter Tryz.func89, Tryz.ntmps89
  unfold vs at *
  go_wp2_with fail
  refine HN.out.mono ?_
  rintro e w1 ⟨x, rfl, hk1, hx, r1, h1, hs1, hd1⟩
  have hlt := h1.row.lt
  have hng : ¬ g = w1.heap.size := by omega
  have hA0 := h1.alloc (.cells #[vs x.is, vs x.txt, .int .i64 x.pos] 138)
  have hA := hA0.drewN 1
  have hkA := (hk1.alloc (.inr hk1.size) (.cells #[vs x.is, vs x.txt, .int .i64 x.pos] 138)).drewN 1
  have x0 := (Row.new w1 138 [vs x.is, vs x.txt, .int .i64 x.pos])
  obtain ⟨N, vd, p0, hsl⟩ := hA.decls
  have hfind := rfind_any x.txt gp r1.decls vd _ hsl hA.dl hA.pol.lt ((hA.pol.cell 0).trans p0)
  obtain ⟨_, _, _, _, _, _, _, _, c8, _⟩ := hA0.cells
  have d1 := x0.cell 1
  simp at d1
  have hnm : NmT r1.decls x o1 := fun t st ho => HNT.out t st x r1 ho (hx t st ho) hs1
  have HF := Lib.hid hfind
  have HA := Lib.hid hA
  have HKA := Lib.hid hkA
  have X0 := Lib.hid x0
  have HSL := Lib.hid hsl
  have HS := Lib.hid hs1
  have HD := Lib.hid hd1
  have HNM := Lib.hid hnm
  have P0 := Lib.hid p0
  clear hfind hA hA0 hkA x0 h1 hk1 hs1 hd1 hsl hnm HN HNT p0 hx
  unfold encRTokV
  unfold vs at *
  go_wp2_with fail
  (refine wp_tail 6 (by kernel_rfl) (by kernel_rfl) ?_; simp only [List.take_succ_cons, List.take_zero, List.drop_succ_cons, List.drop_zero]; repeat still_step)
  refine wpStill_nil ?_
  go_wp2_with fail
  refine HF.out.mono ?_
  rintro e w2 ⟨rfl, hb2⟩
  have h2 := HA.out.kg (kg_below hb2) (hb2.block g HA.out.row.lt)
  have hk2 := Kg.trans HKA.out (kg_below hb2)
  have x2 : Row w2 w1.heap.size 138 [vs x.is, vs x.txt, .int .i64 x.pos] := (hb2.block _ (by simp)).trans X0.out
  have d2 := x2.cell 2
  simp at d2
  obtain ⟨_, _, _, _, _, _, _, _, c8', _⟩ := h2.cells
  have q0 := (h2.pol.cell 0).trans P0.out
  have sl2 := HSL.out.below_ hb2
  have n5 := rnote_any (e := eNone) h2 HS.out (by decide) x.pos
  have n6 := rnote_any (e := eKind) h2 HS.out (by decide) x.pos
  have N5 := Lib.hid n5
  have N6 := Lib.hid n6
  have SL2 := Lib.hid sl2
  have H2 := Lib.hid h2
  have HK2 := Lib.hid hk2
  clear n5 n6 h2 hk2 x2 hb2 c8 d1 sl2
  rcases find_cases r1.decls x.txt with hf | ⟨i, d, hi, hf, hd⟩
  · rw [hf]
    have HFN := Lib.hid hf
    clear hf
    go_wp2_with fail
    refine N5.out.mono ?_
    rintro e w3 ⟨rfl, hk3, r3, h3, hs3, hd3⟩
    have F := Lib.hid (And.intro hk3 (And.intro h3 (And.intro hs3 hd3)))
    clear hk3 h3 hs3 hd3
    go_wp2
    go_ret
    obtain ⟨f1, f2, f3, f4⟩ := F.out
    obtain ⟨a1, a2⟩ := nm_miss (b := b) HNM.out HFN.out f3
    exact ⟨0, rfl, Kg.trans HK2.out f1, a2, r3, f2, a1, f4.trans HD.out⟩
  · obtain ⟨ao, cap, rfl⟩ := SL2.out.any_
    obtain ⟨gd, rfl, hgd, hcell⟩ := SL2.out.get_ (fun _ => rfl) hi
    have y0 : w2.cell? ⟨gd, i * 3, none⟩ = some (vs (rdeclWord d.kind)) := hcell 0 (by omega)
    have hil : i < r1.decls.length := (List.getElem?_eq_some_iff.1 hi).1
    rw [hf]
    have HFN := Lib.hid hf
    have HI := Lib.hid hi
    have HDD := Lib.hid hd
    have hdl := H2.out.dl
    clear hcell hd hi hf hgd
    generalize hL : r1.decls.length = L at *
    have HL := Lib.hid hL
    clear hL
    by_cases h2 : d.kind = 2
    · rw [rdeclWord_var h2] at y0
      have hk := Lib.hid (show (d.kind == 2) = true by simpa using h2)
      clear h2
      unfold vs at *
      cases b with
      | true =>
        go_wp2
        go_ret
        obtain ⟨a1, a2⟩ := nm_ok (b := true) HNM.out HI.out HFN.out HDD.out (by rw [hk.out]; rfl) HS.out
        exact ⟨i, rfl, HK2.out, a2, r1, H2.out, a1, HD.out⟩
      | false =>
        go_wp2_with fail
        refine N6.out.mono ?_
        rintro e w3 ⟨rfl, hk3, r3, h3, hs3, hd3⟩
        have F := Lib.hid (And.intro hk3 (And.intro h3 (And.intro hs3 hd3)))
        clear hk3 h3 hs3 hd3
        go_wp2
        go_ret
        obtain ⟨f1, f2, f3, f4⟩ := F.out
        obtain ⟨a1, a2⟩ := nm_kind (b := false) HNM.out HI.out HFN.out HDD.out (by rw [hk.out]; rfl) f3
        exact ⟨i, rfl, Kg.trans HK2.out f1, a2, r3, f2, a1, f4.trans HD.out⟩
    · have e1 := rdeclWord_no h2
      have e2 : decide (rdeclWord d.kind = kVar) = false := by simpa using e1
      have hk := Lib.hid (show (d.kind == 2) = false by simpa using h2)
      clear h2
      unfold vs at *
      generalize rdeclWord d.kind = W at *
      cases b with
      | false =>
        go_wp2
        go_ret
        obtain ⟨a1, a2⟩ := nm_ok (b := false) HNM.out HI.out HFN.out HDD.out (by rw [hk.out]; rfl) HS.out
        exact ⟨i, rfl, HK2.out, a2, r1, H2.out, a1, HD.out⟩
      | true =>
        go_wp2_with fail
        refine N6.out.mono ?_
        rintro e w3 ⟨rfl, hk3, r3, h3, hs3, hd3⟩
        have F := Lib.hid (And.intro hk3 (And.intro h3 (And.intro hs3 hd3)))
        clear hk3 h3 hs3 hd3
        go_wp2
        go_ret
        obtain ⟨f1, f2, f3, f4⟩ := F.out
        obtain ⟨a1, a2⟩ := nm_kind (b := true) HNM.out HI.out HFN.out HDD.out (by rw [hk.out]; rfl) f3
        exact ⟨i, rfl, Kg.trans HK2.out f1, a2, r3, f2, a1, f4.trans HD.out⟩
end
end Go.Proofs.YtemppijblfflgabGreatDoor.Ev
namespace Go.Proofs.YtemppijblfflgabGreatDoor.Ev
open Go Go.RowKit

/-- A type of boxes beside the reader's own. -/
def TyOk (t : TypeId) : Prop := t ≠ 136 ∧ t ≠ 85 ∧ t ≠ 87 ∧ t ≠ 138
instance (t : TypeId) : Decidable (TyOk t) := by unfold TyOk; exact inferInstance

section
variable {w w' : World} {g gp : Nat} {tl : Value} {ts : List RTok} {pc : List Value} {r r' : Raw}
theorem RRd.far_ (h : RRd w g gp tl ts pc r) {n : Nat} {t : TypeId} {cs : List Value} (hn : Row w n t cs) (ht : TyOk t) (i : Nat) (u : Value) : RRd (w.setCell ⟨n, i, none⟩ u) g gp tl ts pc r := by
  obtain ⟨N, hs⟩ := h.toks
  exact h.far hn ⟨ht.1, ht.2.1, ht.2.2.1⟩ (hs.ne_row hn (fun e => ht.2.2.2 e.symm)) i u
/-- A store into the reader. -/
theorem RRd.put (h : RRd w g gp tl ts pc r) (i : Nat) (u : Value) {r' : Raw} (he : (rrCells tl gp r).set i u = rrCells tl gp r') (hd : r'.decls = r.decls) : RRd (w.setCell ⟨g, i, none⟩ u) g gp tl ts pc r' :=
  h.turn ((Kept.refl _ w).setCell (p := ⟨g, i, none⟩) (.inl rfl) u) (by have := h.row.set_ i u; rw [he] at this; exact this) hd
end

/-- In the midst of a call that has a box of its own. -/
structure RH (w0 w : World) (g gp : Nat) (tl : Value) (ts : List RTok) (pc : List Value) (r : Raw) (ty : TypeId) (C : Nat) (cs : List Value) : Prop where
  kg : Kg g w0 w
  rd : RRd w g gp tl ts pc r
  row : Row w C ty cs
  new : w0.heap.size ≤ C
  tyok : TyOk ty

/-- In the midst of a call that has two. -/
structure RH2 (w0 w : World) (g gp : Nat) (tl : Value) (ts : List RTok) (pc : List Value) (r : Raw) (ty : TypeId) (C : Nat) (cs : List Value) (D : Nat) (ds : List Value) : Prop extends RH w0 w g gp tl ts pc r ty C cs where
  row2 : Row w D ty ds
  new2 : w0.heap.size ≤ D
  ne : C ≠ D

section
variable {w0 w w' : World} {g gp : Nat} {tl : Value} {ts : List RTok} {pc : List Value} {r r' : Raw} {ty : TypeId} {C D : Nat} {cs ds : List Value}
theorem RH.start (h : RRd w g gp tl ts pc r) (ht : TyOk ty) (cs : List Value) : RH w (w.alloc (.cells cs.toArray ty)) g gp tl ts pc r ty w.heap.size cs :=
  ⟨(Kept.refl _ w).alloc (.inr (Nat.le_refl _)) _, h.alloc _, Row.new w ty cs, Nat.le_refl _, ht⟩
theorem RH.call (h : RH w0 w g gp tl ts pc r ty C cs) (hk : Kg g w w') (hr : RRd w' g gp tl ts pc r') : RH w0 w' g gp tl ts pc r' ty C cs :=
  ⟨Kg.trans h.kg hk, hr, row_kg hk h.row (h.row.ne_ h.rd.row h.tyok.1), h.new, h.tyok⟩
theorem RH.set_ (h : RH w0 w g gp tl ts pc r ty C cs) (i : Nat) (u : Value) : RH w0 (w.setCell ⟨C, i, none⟩ u) g gp tl ts pc r ty C (cs.set i u) :=
  ⟨h.kg.setCell (p := ⟨C, i, none⟩) (.inr h.new) u, h.rd.far_ h.row h.tyok i u, h.row.set_ i u, h.new, h.tyok⟩
theorem RH.alloc (h : RH w0 w g gp tl ts pc r ty C cs) (o : Obj) : RH w0 (w.alloc o) g gp tl ts pc r ty C cs :=
  ⟨h.kg.alloc (.inr h.kg.size) o, h.rd.alloc o, h.row.alloc o, h.new, h.tyok⟩
theorem RH.drewN (h : RH w0 w g gp tl ts pc r ty C cs) (n : Nat) : RH w0 (w.drewN n) g gp tl ts pc r ty C cs := ⟨h.kg.drewN n, h.rd.drewN n, h.row.drewN n, h.new, h.tyok⟩
theorem RH2.start (h : RH w0 w g gp tl ts pc r ty C cs) (ds : List Value) : RH2 w0 (w.alloc (.cells ds.toArray ty)) g gp tl ts pc r ty C cs w.heap.size ds :=
  ⟨h.alloc _, Row.new w ty ds, h.kg.size, by have := h.row.lt; omega⟩
theorem RH2.call (h : RH2 w0 w g gp tl ts pc r ty C cs D ds) (hk : Kg g w w') (hr : RRd w' g gp tl ts pc r') : RH2 w0 w' g gp tl ts pc r' ty C cs D ds :=
  ⟨h.toRH.call hk hr, row_kg hk h.row2 (h.row2.ne_ h.rd.row h.tyok.1), h.new2, h.ne⟩
theorem RH2.set_ (h : RH2 w0 w g gp tl ts pc r ty C cs D ds) (i : Nat) (u : Value) : RH2 w0 (w.setCell ⟨C, i, none⟩ u) g gp tl ts pc r ty C (cs.set i u) D ds :=
  ⟨h.toRH.set_ i u, h.row2.far (fun e => h.ne e.symm) u, h.new2, h.ne⟩
theorem RH2.set2 (h : RH2 w0 w g gp tl ts pc r ty C cs D ds) (i : Nat) (u : Value) : RH2 w0 (w.setCell ⟨D, i, none⟩ u) g gp tl ts pc r ty C cs D (ds.set i u) :=
  ⟨⟨h.kg.setCell (p := ⟨D, i, none⟩) (.inr h.new2) u, h.rd.far_ h.row2 h.tyok i u, h.row.far h.ne u, h.new, h.tyok⟩, h.row2.set_ i u, h.new2, h.ne⟩
theorem RH2.alloc (h : RH2 w0 w g gp tl ts pc r ty C cs D ds) (o : Obj) : RH2 w0 (w.alloc o) g gp tl ts pc r ty C cs D ds := ⟨h.toRH.alloc o, h.row2.alloc o, h.new2, h.ne⟩
theorem RH2.drewN (h : RH2 w0 w g gp tl ts pc r ty C cs D ds) (n : Nat) : RH2 w0 (w.drewN n) g gp tl ts pc r ty C cs D ds := ⟨h.toRH.drewN n, h.row2.drewN n, h.new2, h.ne⟩
theorem RH2.put (h : RH2 w0 w g gp tl ts pc r ty C cs D ds) (i : Nat) (u : Value) {r' : Raw} (he : (rrCells tl gp r).set i u = rrCells tl gp r') (hd : r'.decls = r.decls) : RH2 w0 (w.setCell ⟨g, i, none⟩ u) g gp tl ts pc r' ty C cs D ds :=
  h.call ((Kept.refl _ w).setCell (p := ⟨g, i, none⟩) (.inl rfl) u) (h.rd.put i u he hd)
end

/-- A value is handed out: where nothing is wrong, the one. -/
def OutV (w : World) (g gp : Nat) (tl : Value) (ts : List RTok) (pc : List Value) (s : Bytes) (ds : List Decl) (o : Out Val) (e : Ending) (w' : World) : Prop :=
  ∃ (k : Bytes) (n : Int), e = .returned (.agg #[vs k, .int .i64 n]) ∧ Kg g w w' ∧ (∀ v st, o = .ok v st → st.wrong = none → [vs k, .int .i64 n] = encRVal v) ∧ ∃ r', RRd w' g gp tl ts pc r' ∧ Says s r' o ∧ r'.decls = ds

def valO {α : Type} (s : Bytes) (o : Out α) : Out Val := o.bind fun _ st => value s st
theorem map_ok_ {α β : Type} {f : α → β} {o : Out α} {b : β} {st : PS} (h : o.map f = .ok b st) : ∃ a, o = .ok a st ∧ f a = b := map_ok h
theorem Says.map {α β : Type} {s : Bytes} {r : Raw} {o : Out α} (h : Says s r o) (f : α → β) : Says s r (o.map f) := by
  cases o with
  | bad e p => exact h
  | ok a st => exact h

section
variable {α : Type} {s : Bytes} {o : Out α}
theorem valO_num (h : o.isB kNumber = true) : valO s o = (numO s 0 999 o).map .num := by
  obtain ⟨a, st, rfl, hk⟩ := Out.isB_ok h
  show value s st = _
  unfold value
  rw [if_pos hk]
  rfl
theorem valO_len (h0 : o.isB kNumber = false) (h : o.isB kLen = true) : valO s o = (nmO s false (takeO s kLen o)).map .len := by
  obtain ⟨a, st, rfl, hk, ht⟩ := takeO_yes (s := s) h
  rw [ht]
  show value s st = _
  unfold value
  rw [if_neg (by rw [hk]; decide), if_pos hk]
  rfl
theorem valO_freq (h0 : o.isB kNumber = false) (h1 : o.isB kLen = false) (h : o.isB kFreq = true) : valO s o = (takeO s kFreq o).map fun _ => .freq := by
  obtain ⟨a, st, rfl, hk, ht⟩ := takeO_yes (s := s) h
  rw [ht]
  show value s st = _
  unfold value
  rw [if_neg (by rw [hk]; decide), if_neg (by rw [hk]; decide), if_pos hk]
  rfl
theorem valO_var (h0 : o.isB kNumber = false) (h1 : o.isB kLen = false) (h2 : o.isB kFreq = false) : valO s o = (nmO s true o).map .var := by
  cases o with
  | bad e p => rfl
  | ok a st =>
    have k0 : ¬ st.t.kind = kNumber := by simpa [Out.isB] using h0
    have k1 : ¬ st.t.kind = kLen := by simpa [Out.isB] using h1
    have k2 : ¬ st.t.kind = kFreq := by simpa [Out.isB] using h2
    show value s st = _
    unfold value
    rw [if_neg k0, if_neg k1, if_neg k2]
    rfl
theorem isB_unit {k : Bytes} : (o.bind fun _ st => Out.ok () st).isB k = o.isB k := by cases o <;> rfl
theorem takeO_unit {k : Bytes} : takeO s k (o.bind fun _ st => Out.ok () st) = takeO s k o := by cases o <;> rfl
theorem nmO_unit {b : Bool} : nmO s b (o.bind fun _ st => Out.ok () st) = nmO s b o := by cases o <;> rfl
end

theorem sizeRVal (w : World) : (Go.sizeOf 151).run Tryz.prog w = .ok 2 w := by kernel_rfl
theorem aggRVal (w : World) : (isAgg 151).run Tryz.prog w = .ok true w := by kernel_rfl

section
variable {w : World} {g gp : Nat} {tl : Value} {ts : List RTok} {pc : List Value} {r : Raw} {s : Bytes} {α : Type} {o : Out α}

set_option maxRecDepth 100000 in
set_option maxHeartbeats 4000000 in
theorem rvalue_any (h : RRd w g gp tl ts pc r) (hs : Says s r o) (ht : RToks ts (toks s)) : Calls Tryz.prog 150 #[.pointer (some ⟨g, 0, none⟩)] w (OutV w g gp tl ts pc s r.decls (valO s o)) := by
  have q0 := RH.start (ty := 151) h (by decide) [vs [], .int .i64 0]
  have his := ris_any q0.rd hs ht (kd := kNumber) (kr := kNum) (by decide) (by decide)
  have Q0 := Lib.hid q0
  have HT := Lib.hid ht
  have HS := Lib.hid hs
  cases b0 : o.isB kNumber with
  | true =>
    rw [b0] at his
    have HI := Lib.hid his
    have B0 := Lib.hid b0
    clear q0 h his ht hs b0
    unfold vs at *
    go_enter Tryz.func150, Tryz.ntmps150
    go_wp2_with fail
    refine HI.out.mono ?_
    rintro e w1 ⟨rfl, n, rfl⟩
    have q1 := Q0.out.drewN n
    have hn := rnumber_any q1.rd HS.out HT.out 0 999
    have Q1 := Lib.hid q1
    have HN := Lib.hid hn
    clear q1 hn
    go_wp2_with fail
    refine HN.out.mono ?_
    rintro e w2 ⟨v, rfl, hk2, hv, r2, h2, hs2, hd2⟩
    have q2 := Q1.out.call hk2 h2
    have q3 := (q2.set_ 0 (vs rNum)).set_ 1 (.int .i64 v)
    have z := fun j => q2.row.frozen j
    have d0 := q2.row.cell 0
    have d1 := q2.row.cell 1
    have Q3 := Lib.hid q3
    have F := Lib.hid (And.intro hv (And.intro hs2 hd2))
    clear q2 q3 hk2 h2 hv hs2 hd2
    simp at d0 d1
    unfold vs at *
    go_wp2
    refine bodyPost_ret (results_cell (cs := [vs rNum, .int .i64 v]) Tryz.results150 aggRVal sizeRVal rfl Q3.out.row) rfl ?_
    obtain ⟨f1, f2, f3⟩ := F.out
    rw [valO_num B0.out]
    refine ⟨rNum, v, rfl, Q3.out.kg, fun x st e _ => ?_, r2, Q3.out.rd, f2.map _, f3⟩
    obtain ⟨a, e1, rfl⟩ := map_ok_ e
    rw [f1 a st e1]
    rfl
  | false =>
    rw [b0] at his
    have HI := Lib.hid his
    have B0 := Lib.hid b0
    clear q0 h his ht hs b0
    unfold vs at *
    go_enter Tryz.func150, Tryz.ntmps150
    go_wp2_with fail
    refine HI.out.mono ?_
    rintro e w1 ⟨rfl, n, rfl⟩
    have q1 := Q0.out.drewN n
    have htk := rtake_any q1.rd HS.out HT.out (kd := kLen) (kr := kLen) (by decide) (by decide) (by decide) (by decide)
    have Q1 := Lib.hid q1
    cases b1 : o.isB kLen with
    | true =>
      rw [b1] at htk
      have HTK := Lib.hid htk
      have B1 := Lib.hid b1
      clear q1 htk b1
      unfold vs at *
      go_wp2_with fail
      refine HTK.out.mono ?_
      rintro e w2 ⟨rfl, hk2, r2, h2, hs2, hd2⟩
      have q2 := Q1.out.call hk2 h2
      have hn := rnamed_any q2.rd hs2 HT.out false
      rw [hd2] at hn
      have Q2 := Lib.hid q2
      have HN := Lib.hid hn
      clear q2 hn hk2 h2 hs2 hd2
      go_wp2_with fail
      refine HN.out.mono ?_
      rintro e w3 ⟨v, rfl, hk3, hv, r3, h3, hs3, hd3⟩
      have q3 := Q2.out.call hk3 h3
      have q4 := (q3.set_ 0 (vs kLen)).set_ 1 (.int .i64 v)
      have z := fun j => q3.row.frozen j
      have d0 := q3.row.cell 0
      have d1 := q3.row.cell 1
      have Q4 := Lib.hid q4
      have F := Lib.hid (And.intro hv (And.intro hs3 hd3))
      clear q3 q4 hk3 h3 hv hs3 hd3
      simp at d0 d1
      unfold vs at *
      go_wp2
      refine bodyPost_ret (results_cell (cs := [vs kLen, .int .i64 v]) Tryz.results150 aggRVal sizeRVal rfl Q4.out.row) rfl ?_
      obtain ⟨f1, f2, f3⟩ := F.out
      rw [valO_len B0.out B1.out]
      refine ⟨kLen, v, rfl, Q4.out.kg, fun x st e hw => ?_, r3, Q4.out.rd, f2.map _, f3⟩
      obtain ⟨a, e1, rfl⟩ := map_ok_ e
      rw [f1 a st e1 hw]
      rfl
    | false =>
      rw [b1, takeO_no b1] at htk
      have HTK := Lib.hid htk
      have B1 := Lib.hid b1
      clear q1 htk b1
      unfold vs at *
      go_wp2_with fail
      refine HTK.out.mono ?_
      rintro e w2 ⟨rfl, hk2, r2, h2, hs2, hd2⟩
      have q2 := Q1.out.call hk2 h2
      have htk := rtake_any q2.rd hs2 HT.out (kd := kFreq) (kr := kFreq) (by decide) (by decide) (by decide) (by decide)
      rw [isB_unit, takeO_unit, hd2] at htk
      have Q2 := Lib.hid q2
      have HS2 := Lib.hid hs2
      have HD2 := Lib.hid hd2
      clear hk2 h2 hs2 hd2
      cases b2 : o.isB kFreq with
      | true =>
        rw [b2] at htk
        have HTK2 := Lib.hid htk
        have B2 := Lib.hid b2
        clear q2 htk b2
        unfold vs at *
        go_wp2_with fail
        refine HTK2.out.mono ?_
        rintro e w3 ⟨rfl, hk3, r3, h3, hs3, hd3⟩
        have q3 := Q2.out.call hk3 h3
        have q4 := (q3.set_ 0 (vs kFreq)).set_ 1 (.int .i64 0)
        have z := fun j => q3.row.frozen j
        have d0 := q3.row.cell 0
        have d1 := q3.row.cell 1
        have Q4 := Lib.hid q4
        have F := Lib.hid (And.intro hs3 hd3)
        clear q3 q4 hk3 h3 hs3 hd3
        simp at d0 d1
        unfold vs at *
        go_wp2
        refine bodyPost_ret (results_cell (cs := [vs kFreq, .int .i64 0]) Tryz.results150 aggRVal sizeRVal rfl Q4.out.row) rfl ?_
        obtain ⟨f2, f3⟩ := F.out
        rw [valO_freq B0.out B1.out B2.out]
        refine ⟨kFreq, 0, rfl, Q4.out.kg, fun x st e hw => ?_, r3, Q4.out.rd, f2.map _, f3⟩
        obtain ⟨a, e1, rfl⟩ := map_ok_ e
        rfl
      | false =>
        rw [b2, takeO_no b2] at htk
        have HTK2 := Lib.hid htk
        have B2 := Lib.hid b2
        clear q2 htk b2
        unfold vs at *
        go_wp2_with fail
        refine HTK2.out.mono ?_
        rintro e w3 ⟨rfl, hk3, r3, h3, hs3, hd3⟩
        have q3 := Q2.out.call hk3 h3
        have hn := rnamed_any q3.rd hs3 HT.out true
        rw [hd3, nmO_unit] at hn
        have Q3 := Lib.hid q3
        have HN := Lib.hid hn
        clear q3 hn hk3 h3 hs3 hd3
        go_wp2_with fail
        refine HN.out.mono ?_
        rintro e w4 ⟨v, rfl, hk4, hv, r4, h4, hs4, hd4⟩
        have q4 := Q3.out.call hk4 h4
        have q5 := (q4.set_ 0 (vs kVar)).set_ 1 (.int .i64 v)
        have z := fun j => q4.row.frozen j
        have d0 := q4.row.cell 0
        have d1 := q4.row.cell 1
        have Q5 := Lib.hid q5
        have F := Lib.hid (And.intro hv (And.intro hs4 hd4))
        clear q4 q5 hk4 h4 hv hs4 hd4
        simp at d0 d1
        unfold vs at *
        go_wp2
        refine bodyPost_ret (results_cell (cs := [vs kVar, .int .i64 v]) Tryz.results150 aggRVal sizeRVal rfl Q5.out.row) rfl ?_
        obtain ⟨f1, f2, f3⟩ := F.out
        rw [valO_var B0.out B1.out B2.out]
        refine ⟨kVar, v, rfl, Q5.out.kg, fun x st e hw => ?_, r4, Q5.out.rd, f2.map _, f3⟩
        obtain ⟨a, e1, rfl⟩ := map_ok_ e
        rw [f1 a st e1 hw]
        rfl
end
end Go.Proofs.YtemppijblfflgabGreatDoor.Ev
namespace Go.Proofs.YtemppijblfflgabGreatDoor.Ev
open Go Go.RowKit

/-- A condition is handed out: where nothing is wrong, the one. -/
def OutCd (w : World) (g gp : Nat) (tl : Value) (ts : List RTok) (pc : List Value) (s : Bytes) (ds : List Decl) (o : Out Cond) (e : Ending) (w' : World) : Prop :=
  ∃ (k : Bytes) (n : Int) (k1 : Bytes) (n1 : Int) (k2 : Bytes) (n2 j : Int), e = .returned (.agg #[vs k, .int .i64 n, vs k1, .int .i64 n1, vs k2, .int .i64 n2, .int .i64 j]) ∧ Kg g w w' ∧
    (∀ c st, o = .ok c st → st.wrong = none → [vs k, .int .i64 n, vs k1, .int .i64 n1, vs k2, .int .i64 n2, .int .i64 j] = encRCond c) ∧ ∃ r', RRd w' g gp tl ts pc r' ∧ Says s r' o ∧ r'.decls = ds

def leftO {α : Type} (s : Bytes) (o : Out α) : Nat := match o with
  | .ok _ st => left s st
  | .bad _ _ => 0
def condO {α : Type} (s : Bytes) (n : Nat) (o : Out α) : Out Cond := o.bind fun _ st => cond s n st
def nots (j : Nat) (c : Cond) : Cond := ⟨c.k, c.nots + j⟩
def lessO (s : Bytes) {α : Type} (o : Out α) : Out Cond := (valO s o).bind fun a st => (want s kLess st).bind fun _ st => (value s st).map fun b => ⟨.less a b, 0⟩
def baseO (s : Bytes) {α : Type} (o : Out α) : Out Cond := o.bind fun _ st => condBase s st

section
variable {α : Type} {s : Bytes} {o : Out α}
theorem left_le_ (s : Bytes) (st : PS) : left s st ≤ s.length + 1 := by unfold left; omega
theorem leftO_le (o : Out α) : leftO s o ≤ s.length + 1 := by
  cases o with
  | ok a st => exact left_le_ s st
  | bad e p => exact Nat.zero_le _
theorem condO_not {n : Nat} (h : o.isB kNot = true) : condO s (n + 1) o = (condO s n (takeO s kNot o)).map (nots 1) := by
  obtain ⟨a, st, rfl, hk, ht⟩ := takeO_yes (s := s) h
  rw [ht]
  show cond s (n + 1) st = _
  rw [cond, if_pos hk]
  rfl
theorem left_not {r : Raw} (hs : Says s r o) (h : o.isB kNot = true) : leftO s (takeO s kNot o) < leftO s o := by
  obtain ⟨a, st, rfl, hk, ht⟩ := takeO_yes (s := s) h
  rw [ht]
  exact next_lt (SaysOk.ok hs) hk (by decide) (by decide)
theorem map_nots (o : Out Cond) (j : Nat) : (o.map (nots 1)).map (nots j) = o.map (nots (j + 1)) := by
  cases o with
  | bad e p => rfl
  | ok c st =>
    show Out.ok (nots j (nots 1 c)) st = Out.ok (nots (j + 1) c) st
    unfold nots
    simp only [Nat.add_assoc, Nat.add_comm 1 j]
theorem map_nots0 (o : Out Cond) : o.map (nots 0) = o := by
  cases o <;> rfl
theorem condO_base {n : Nat} (h : o.isB kNot = false) : condO s (n + 1) o = baseO s (o.bind fun _ st => Out.ok () st) := by
  cases o with
  | bad e p => rfl
  | ok a st =>
    have hk : ¬ st.t.kind = kNot := by simpa [Out.isB] using h
    show cond s (n + 1) st = _
    rw [cond, if_neg hk]
    rfl
theorem baseO_full (h : o.isB kFull = true) : baseO s o = (nmO s false (takeO s kFull o)).map fun n => ⟨.full n, 0⟩ := by
  obtain ⟨a, st, rfl, hk, ht⟩ := takeO_yes (s := s) h
  rw [ht]
  show condBase s st = _
  unfold condBase
  rw [if_pos hk]
  rfl
theorem baseO_empty (h : o.isB kEmpty = true) : baseO s o = (nmO s false (takeO s kEmpty o)).map fun n => ⟨.empty n, 0⟩ := by
  obtain ⟨a, st, rfl, hk, ht⟩ := takeO_yes (s := s) h
  rw [ht]
  show condBase s st = _
  unfold condBase
  rw [if_neg (by rw [hk]; decide), if_pos hk]
  rfl
theorem baseO_warm (h : o.isB kWarm = true) : baseO s o = (nmO s false (takeO s kWarm o)).map fun n => ⟨.warm n, 0⟩ := by
  obtain ⟨a, st, rfl, hk, ht⟩ := takeO_yes (s := s) h
  rw [ht]
  show condBase s st = _
  unfold condBase
  rw [if_neg (by rw [hk]; decide), if_neg (by rw [hk]; decide), if_pos hk]
  rfl
theorem baseO_less (h1 : o.isB kFull = false) (h2 : o.isB kEmpty = false) (h3 : o.isB kWarm = false) : baseO s o = lessO s o := by
  cases o with
  | bad e p => rfl
  | ok a st =>
    have k0 : ¬ st.t.kind = kFull := by simpa [Out.isB] using h1
    have k1 : ¬ st.t.kind = kEmpty := by simpa [Out.isB] using h2
    have k2 : ¬ st.t.kind = kWarm := by simpa [Out.isB] using h3
    show condBase s st = _
    unfold condBase
    rw [if_neg k0, if_neg k1, if_neg k2]
    rfl
theorem less_says {r : Raw} (h : Says s r (valO s (wantO s kLess (valO s o)))) : Says s r (lessO s o) := by
  unfold lessO
  cases h1 : valO s o with
  | bad e p => rw [h1] at h; exact h
  | ok a st1 =>
    rw [h1] at h
    show Says s r ((want s kLess st1).bind _)
    have e : wantO s kLess (Out.ok a st1) = want s kLess st1 := rfl
    rw [e] at h
    cases h2 : want s kLess st1 with
    | bad e p => rw [h2] at h; exact h
    | ok t st2 =>
      rw [h2] at h
      exact Says.map (show Says s r (value s st2) from h) _
theorem less_ok {c : Cond} {st : PS} (h : lessO s o = .ok c st) : ∃ a st1 t st2 b, valO s o = .ok a st1 ∧ wantO s kLess (valO s o) = .ok t st2 ∧ valO s (wantO s kLess (valO s o)) = .ok b st ∧ c = ⟨.less a b, 0⟩ := by
  unfold lessO at h
  obtain ⟨a, st1, h1, h2⟩ := bind_ok h
  obtain ⟨t, st2, h3, h4⟩ := bind_ok h2
  obtain ⟨b, h5, h6⟩ := map_ok h4
  have e : wantO s kLess (valO s o) = .ok t st2 := by rw [h1]; exact h3
  exact ⟨a, st1, t, st2, b, h1, e, by rw [e]; exact h5, h6.symm⟩
theorem val_wrong {o2 : Out α} {b : Val} {st : PS} {a : α} {st2 : PS} {r : Raw} (hs : Says s r o2) (h2 : o2 = .ok a st2) (h : valO s o2 = .ok b st) (hw : st.wrong = none) : st2.wrong = none := by
  subst h2
  exact (value_ok (SaysOk.ok hs) h).1.wrong hw
theorem want_wrong {k : Bytes} {o1 : Out α} {a : α} {st1 st2 : PS} {t : Tok} (h1 : o1 = .ok a st1) (h : wantO s k o1 = .ok t st2) (hw : st2.wrong = none) : st1.wrong = none := by
  subst h1
  obtain ⟨_, _, rfl⟩ := want_ok (show want s k st1 = .ok t st2 from h)
  exact hw
end

theorem sizeRCond (w : World) : (Go.sizeOf 153).run Tryz.prog w = .ok 7 w := by kernel_rfl
theorem aggRCond (w : World) : (isAgg 153).run Tryz.prog w = .ok true w := by kernel_rfl
theorem cells7 {w : World} {C : Nat} {t : TypeId} {d0 d1 d2 d3 d4 d5 d6 : Value} (h : Row w C t [d0, d1, d2, d3, d4, d5, d6]) :
    w.cell? ⟨C, 0, none⟩ = some d0 ∧ w.cell? ⟨C, 1, none⟩ = some d1 ∧ w.cell? ⟨C, 2, none⟩ = some d2 ∧ w.cell? ⟨C, 3, none⟩ = some d3 ∧ w.cell? ⟨C, 4, none⟩ = some d4 ∧ w.cell? ⟨C, 5, none⟩ = some d5 ∧ w.cell? ⟨C, 6, none⟩ = some d6 :=
  ⟨h.cell 0, h.cell 1, h.cell 2, h.cell 3, h.cell 4, h.cell 5, h.cell 6⟩
abbrev zeros7 : List Value := [vs [], .int .i64 0, vs [], .int .i64 0, vs [], .int .i64 0, .int .i64 0]

section
variable {w w0 : World} {g gp : Nat} {tl : Value} {ts : List RTok} {pc : List Value} {r : Raw} {s : Bytes} {α : Type} {o : Out α} {C D : Nat} {ty : TypeId} {ds : List Value}

theorem RH2.copy7 (h : RH2 w0 w g gp tl ts pc r ty C zeros7 D ds) (d0 d1 d2 d3 d4 d5 d6 : Value) :
    RH2 w0 (((((((w.setCell ⟨C, 0, none⟩ d0).setCell ⟨C, 1, none⟩ d1).setCell ⟨C, 2, none⟩ d2).setCell ⟨C, 3, none⟩ d3).setCell ⟨C, 4, none⟩ d4).setCell ⟨C, 5, none⟩ d5).setCell ⟨C, 6, none⟩ d6) g gp tl ts pc r ty C [d0, d1, d2, d3, d4, d5, d6] D ds :=
  ((((((h.set_ 0 d0).set_ 1 d1).set_ 2 d2).set_ 3 d3).set_ 4 d4).set_ 5 d5).set_ 6 d6

/-- The words that a condition may begin with, in a row of their own. -/
def WordsAt (w : World) (E : Nat) : Prop := Row w E 9 [vs kFull, vs kEmpty, vs kWarm]
theorem WordsAt.kg {w' : World} {E : Nat} (h : WordsAt w E) (hk : Kg g w w') (hr : Row w g 136 ds) : WordsAt w' E := row_kg hk h (h.ne_ hr (by decide))

set_option maxRecDepth 100000 in
set_option maxHeartbeats 8000000 in
theorem rcond_any (h : RRd w g gp tl ts pc r) (hs : Says s r o) (ht : RToks ts (toks s)) (hl : s.length ≤ 1000) {n : Nat} (hn : leftO s o < n) : Calls Tryz.prog 139 #[.pointer (some ⟨g, 0, none⟩)] w (OutCd w g gp tl ts pc s r.decls (condO s n o)) := by
  have q0 := RH2.start (RH.start (ty := 153) h (by decide) zeros7) zeros7
  have HT := Lib.hid ht
  have hll := leftO_le (s := s) o
  have hstart : ∃ (j m : Nat) (o1 : Out Unit) (r1 : Raw), RH2 w ((w.alloc (.cells zeros7.toArray 153)).alloc (.cells zeros7.toArray 153)) g gp tl ts pc r1 153 w.heap.size zeros7 (w.heap.size + 1) [vs [], .int .i64 0, vs [], .int .i64 0, vs [], .int .i64 0, .int .i64 (j : Int)] ∧ Says s r1 o1 ∧ r1.decls = r.decls ∧ condO s n o = (condO s m o1).map (nots j) ∧ leftO s o1 < m ∧ leftO s o1 ≤ leftO s o ∧ j + leftO s o1 ≤ leftO s o := by
    refine ⟨0, n, o.bind fun _ st => .ok () st, r, ?_, hs.unit, rfl, ?_, ?_, ?_, ?_⟩
    · simpa using q0
    · rw [map_nots0]; cases o <;> rfl
    · cases o <;> exact hn
    · cases o <;> exact Nat.le_refl _
    · cases o <;> simp [leftO, Out.bind]
  have HST := Lib.hid hstart
  clear q0 h hs ht hstart hn
  unfold vs at *
  go_enter Tryz.func139, Tryz.ntmps139
  go_wp2_with fail
  go_loopg [] (leftO s o) (fun kk wr => ∃ (j m : Nat) (o1 : Out Unit) (r1 : Raw), RH2 w wr g gp tl ts pc r1 153 w.heap.size zeros7 (w.heap.size + 1) [vs [], .int .i64 0, vs [], .int .i64 0, vs [], .int .i64 0, .int .i64 (j : Int)] ∧ Says s r1 o1 ∧ r1.decls = r.decls ∧ condO s n o = (condO s m o1).map (nots j) ∧ leftO s o1 < m ∧ leftO s o1 ≤ kk ∧ j + leftO s o1 ≤ leftO s o)
  case atStart => exact HST.out
  case round =>
    obtain ⟨j, m, o1, r1, hR, hs1, hd1, heq, hm, hkk, hj⟩ := hrel
    have htk := rtake_any hR.rd hs1 HT.out (kd := kNot) (kr := kNot) (by decide) (by decide) (by decide) (by decide)
    have HR := Lib.hid hR
    have HS1 := Lib.hid hs1
    have HD1 := Lib.hid hd1
    have HEQ := Lib.hid heq
    obtain ⟨m, rfl⟩ : ∃ x, m = x + 1 := ⟨m - 1, by omega⟩
    cases b0 : o1.isB kNot with
    | true =>
      rw [b0] at htk
      have hlt := left_not hs1 b0
      have HTK := Lib.hid htk
      have B0 := Lib.hid b0
      clear htk b0 hR hs1 hd1 heq
      unfold vs at *
      go_wp2_with fail
      refine HTK.out.mono ?_
      rintro e w2 ⟨rfl, hk2, r2, h2, hs2, hd2⟩
      have q2 := HR.out.call hk2 h2
      have q3 := q2.set2 6 (.int .i64 ((j : Int) + 1))
      have z := fun j => q2.row2.frozen j
      have d6 := q2.row2.cell 6
      have Q3 := Lib.hid q3
      have F := Lib.hid (And.intro hs2 hd2)
      clear q2 q3 hk2 h2 hs2 hd2
      simp at d6
      go_wp2
      go_roundg (leftO s (takeO s kNot o1))
      case measure => omega
      case rel =>
        obtain ⟨f1, f2⟩ := F.out
        refine ⟨j + 1, m, _, r2, ?_, f1, f2.trans HD1.out, ?_, by omega, Nat.le_refl _, by omega⟩
        · exact Q3.out
        · rw [HEQ.out, condO_not B0.out, map_nots]
    | false =>
      rw [b0, takeO_no b0] at htk
      have HTK := Lib.hid htk
      have B0 := Lib.hid b0
      clear htk b0 hR hs1 hd1 heq hm hkk
      unfold vs at *
      go_wp2_with fail
      refine HTK.out.mono ?_
      rintro e w2 ⟨rfl, hk2, r2, h2, hs2, hd2⟩
      have q2 := HR.out.call hk2 h2
      have Q2 := Lib.hid (q2.alloc (.cells #[vs kFull, vs kEmpty, vs kWarm] 9))
      have hwd : WordsAt (w2.alloc (.cells #[vs kFull, vs kEmpty, vs kWarm] 9)) w2.heap.size := Row.new w2 9 [vs kFull, vs kEmpty, vs kWarm]
      have hEQ2 : condO s n o = (baseO s (o1.bind fun _ st => Out.ok () st)).map (nots j) := by rw [HEQ.out, condO_base B0.out]
      have HEQ2 := Lib.hid hEQ2
      have HWD := Lib.hid hwd
      have HS2 := Lib.hid hs2
      have HD2 := Lib.hid (hd2.trans HD1.out)
      clear q2 hk2 h2 hs2 hd2 hEQ2 hwd HEQ HS1 HD1 HTK HR HST B0
      generalize (o1.bind fun _ st => Out.ok () st) = o2 at *
      go_wp2
      generalize w2.heap.size = E at *
      go_loopg [15] 3 (fun kk s15 wr => ∃ (k : Nat) (o3 : Out Unit) (r3 : Raw), k ≤ 3 ∧ 3 - k ≤ kk ∧ s15 = .int .i64 k ∧ RH2 w wr g gp tl ts pc r3 153 w.heap.size zeros7 (w.heap.size + 1) [vs [], .int .i64 0, vs [], .int .i64 0, vs [], .int .i64 0, .int .i64 (j : Int)] ∧ WordsAt wr E ∧ Says s r3 o3 ∧ r3.decls = r.decls ∧ baseO s o2 = baseO s o3 ∧
        (0 < k → o3.isB kFull = false) ∧ (1 < k → o3.isB kEmpty = false) ∧ (2 < k → o3.isB kWarm = false))
      case atStart => exact ⟨0, o2, r2, by omega, by omega, rfl, Q2.out, HWD.out, HS2.out, HD2.out, rfl, by omega, by omega, by omega⟩
      case round =>
        clear Q2 HWD HS2 HD2 hj
        obtain ⟨k, o3, r3, hk3, hkk, rfl, hR, hW, hs3, hd3, heq, i0, i1, i2⟩ := hrel
        have y0 := hW.cell 0
        have y1 := hW.cell 1
        have y2 := hW.cell 2
        have hWl := hW.lt
        have HR := Lib.hid hR
        have HW := Lib.hid hW
        have HS3 := Lib.hid hs3
        have HD3 := Lib.hid hd3
        have HEQ := Lib.hid heq
        clear hs3 hd3 heq hW
        simp at y0 y1 y2
        have hcs : k = 0 ∨ k = 1 ∨ k = 2 ∨ k = 3 := by omega
        clear hk3
        rcases hcs with rfl | rfl | rfl | rfl
        · have htk := rtake_any hR.rd HS3.out HT.out (kd := kFull) (kr := kFull) (by decide) (by decide) (by decide) (by decide)
          clear i0 i1 i2
          clear hR
          cases b1 : o3.isB kFull with
          | true =>
            rw [b1] at htk
            have HTK := Lib.hid htk
            have B1 := Lib.hid b1
            clear htk b1
            unfold vs at *
            go_wp2_with fail
            refine HTK.out.mono ?_
            rintro e w4 ⟨rfl, hk4, r4, h4, hs4, hd4⟩
            have q4 := HR.out.call hk4 h4
            have q5 := q4.set2 0 (vs kFull)
            have z := fun j => q4.row2.frozen j
            have d0 := q4.row2.cell 0
            have hnm := rnamed_any q5.rd hs4 HT.out false
            rw [hd4] at hnm
            have Q5 := Lib.hid q5
            have HNM := Lib.hid hnm
            clear q4 q5 hk4 h4 hs4 hd4 hnm y0 y1 y2
            simp at d0
            unfold vs at *
            go_wp2_with fail
            clear z d0
            refine HNM.out.mono ?_
            rintro e w5 ⟨v, rfl, hk5, hv, r5, h5, hs5, hd5⟩
            have q6 := Q5.out.call hk5 h5
            obtain ⟨e0, e1, e2, e3, e4, e5, e6⟩ := cells7 q6.row2
            obtain ⟨c0, c1, c2, c3, c4, c5, c6⟩ := cells7 q6.row
            have z := fun j => q6.row2.frozen j
            have y := fun j => q6.row.frozen j
            have hne : ¬ w.heap.size = w.heap.size + 1 := by omega
            have q7 := (q6.set2 1 (.int .i64 v)).copy7 (vs kFull) (.int .i64 v) (vs []) (.int .i64 0) (vs []) (.int .i64 0) (.int .i64 j)
            have Q7 := Lib.hid q7
            have F := Lib.hid (And.intro hv (And.intro hs5 hd5))
            clear q6 q7 hk5 h5 hv hs5 hd5
            unfold vs at *
            go_wp2
            refine bodyPost_ret (results_cell (cs := [vs kFull, .int .i64 v, vs [], .int .i64 0, vs [], .int .i64 0, .int .i64 j]) Tryz.results139 aggRCond sizeRCond rfl Q7.out.row) rfl ?_
            obtain ⟨f1, f2, f3⟩ := F.out
            rw [HEQ2.out, HEQ.out, baseO_full B1.out]
            refine ⟨kFull, v, [], 0, [], 0, j, rfl, Q7.out.kg, fun c st e hw => ?_, r5, Q7.out.rd, (f2.map _).map _, f3.trans HD3.out⟩
            obtain ⟨c1, e1, rfl⟩ := map_ok_ e
            obtain ⟨a, e2, rfl⟩ := map_ok_ e1
            rw [f1 a st e2 hw]
            simp [nots, encRCond, rckWord, ckNum, rckVals]
          | false =>
            rw [b1, takeO_no b1] at htk
            have HTK := Lib.hid htk
            have B1 := Lib.hid b1
            clear htk b1
            unfold vs at *
            go_wp2_with fail
            refine HTK.out.mono ?_
            rintro e w4 ⟨rfl, hk4, r4, h4, hs4, hd4⟩
            have q4 := HR.out.call hk4 h4
            have w4w := HW.out.kg hk4 HR.out.rd.row
            have Q4 := Lib.hid q4
            have W4 := Lib.hid w4w
            have F := Lib.hid (And.intro hs4 hd4)
            clear q4 hk4 h4 hs4 hd4 w4w y0 y1 y2
            go_wp2
            go_roundg 2
            case measure => omega
            case rel =>
              obtain ⟨f1, f2⟩ := F.out
              refine ⟨1, _, r4, by omega, by omega, rfl, Q4.out, W4.out, f1, f2.trans HD3.out, ?_, fun _ => (isB_unit (o := o3)).trans B1.out, by omega, by omega⟩
              rw [HEQ.out]
              cases o3 <;> rfl
        · have htk := rtake_any hR.rd HS3.out HT.out (kd := kEmpty) (kr := kEmpty) (by decide) (by decide) (by decide) (by decide)
          have I0 := Lib.hid (i0 (by omega))
          clear i0 i1 i2
          clear hR
          cases b1 : o3.isB kEmpty with
          | true =>
            rw [b1] at htk
            have HTK := Lib.hid htk
            have B1 := Lib.hid b1
            clear htk b1
            unfold vs at *
            go_wp2_with fail
            refine HTK.out.mono ?_
            rintro e w4 ⟨rfl, hk4, r4, h4, hs4, hd4⟩
            have q4 := HR.out.call hk4 h4
            have q5 := q4.set2 0 (vs kEmpty)
            have z := fun j => q4.row2.frozen j
            have d0 := q4.row2.cell 0
            have hnm := rnamed_any q5.rd hs4 HT.out false
            rw [hd4] at hnm
            have Q5 := Lib.hid q5
            have HNM := Lib.hid hnm
            clear q4 q5 hk4 h4 hs4 hd4 hnm y0 y1 y2
            simp at d0
            unfold vs at *
            go_wp2_with fail
            clear z d0
            refine HNM.out.mono ?_
            rintro e w5 ⟨v, rfl, hk5, hv, r5, h5, hs5, hd5⟩
            have q6 := Q5.out.call hk5 h5
            obtain ⟨e0, e1, e2, e3, e4, e5, e6⟩ := cells7 q6.row2
            obtain ⟨c0, c1, c2, c3, c4, c5, c6⟩ := cells7 q6.row
            have z := fun j => q6.row2.frozen j
            have y := fun j => q6.row.frozen j
            have hne : ¬ w.heap.size = w.heap.size + 1 := by omega
            have q7 := (q6.set2 1 (.int .i64 v)).copy7 (vs kEmpty) (.int .i64 v) (vs []) (.int .i64 0) (vs []) (.int .i64 0) (.int .i64 j)
            have Q7 := Lib.hid q7
            have F := Lib.hid (And.intro hv (And.intro hs5 hd5))
            clear q6 q7 hk5 h5 hv hs5 hd5
            unfold vs at *
            go_wp2
            refine bodyPost_ret (results_cell (cs := [vs kEmpty, .int .i64 v, vs [], .int .i64 0, vs [], .int .i64 0, .int .i64 j]) Tryz.results139 aggRCond sizeRCond rfl Q7.out.row) rfl ?_
            obtain ⟨f1, f2, f3⟩ := F.out
            rw [HEQ2.out, HEQ.out, baseO_empty B1.out]
            refine ⟨kEmpty, v, [], 0, [], 0, j, rfl, Q7.out.kg, fun c st e hw => ?_, r5, Q7.out.rd, (f2.map _).map _, f3.trans HD3.out⟩
            obtain ⟨c1, e1, rfl⟩ := map_ok_ e
            obtain ⟨a, e2, rfl⟩ := map_ok_ e1
            rw [f1 a st e2 hw]
            simp [nots, encRCond, rckWord, ckNum, rckVals]
          | false =>
            rw [b1, takeO_no b1] at htk
            have HTK := Lib.hid htk
            have B1 := Lib.hid b1
            clear htk b1
            unfold vs at *
            go_wp2_with fail
            refine HTK.out.mono ?_
            rintro e w4 ⟨rfl, hk4, r4, h4, hs4, hd4⟩
            have q4 := HR.out.call hk4 h4
            have w4w := HW.out.kg hk4 HR.out.rd.row
            have Q4 := Lib.hid q4
            have W4 := Lib.hid w4w
            have F := Lib.hid (And.intro hs4 hd4)
            clear q4 hk4 h4 hs4 hd4 w4w y0 y1 y2
            go_wp2
            go_roundg 1
            case measure => omega
            case rel =>
              obtain ⟨f1, f2⟩ := F.out
              refine ⟨2, _, r4, by omega, by omega, rfl, Q4.out, W4.out, f1, f2.trans HD3.out, ?_, fun _ => (isB_unit (o := o3)).trans I0.out, fun _ => (isB_unit (o := o3)).trans B1.out, by omega⟩
              rw [HEQ.out]
              cases o3 <;> rfl
        · have htk := rtake_any hR.rd HS3.out HT.out (kd := kWarm) (kr := kWarm) (by decide) (by decide) (by decide) (by decide)
          have I0 := Lib.hid (i0 (by omega))
          have I1 := Lib.hid (i1 (by omega))
          clear i0 i1 i2
          clear hR
          cases b1 : o3.isB kWarm with
          | true =>
            rw [b1] at htk
            have HTK := Lib.hid htk
            have B1 := Lib.hid b1
            clear htk b1
            unfold vs at *
            go_wp2_with fail
            refine HTK.out.mono ?_
            rintro e w4 ⟨rfl, hk4, r4, h4, hs4, hd4⟩
            have q4 := HR.out.call hk4 h4
            have q5 := q4.set2 0 (vs kWarm)
            have z := fun j => q4.row2.frozen j
            have d0 := q4.row2.cell 0
            have hnm := rnamed_any q5.rd hs4 HT.out false
            rw [hd4] at hnm
            have Q5 := Lib.hid q5
            have HNM := Lib.hid hnm
            clear q4 q5 hk4 h4 hs4 hd4 hnm y0 y1 y2
            simp at d0
            unfold vs at *
            go_wp2_with fail
            clear z d0
            refine HNM.out.mono ?_
            rintro e w5 ⟨v, rfl, hk5, hv, r5, h5, hs5, hd5⟩
            have q6 := Q5.out.call hk5 h5
            obtain ⟨e0, e1, e2, e3, e4, e5, e6⟩ := cells7 q6.row2
            obtain ⟨c0, c1, c2, c3, c4, c5, c6⟩ := cells7 q6.row
            have z := fun j => q6.row2.frozen j
            have y := fun j => q6.row.frozen j
            have hne : ¬ w.heap.size = w.heap.size + 1 := by omega
            have q7 := (q6.set2 1 (.int .i64 v)).copy7 (vs kWarm) (.int .i64 v) (vs []) (.int .i64 0) (vs []) (.int .i64 0) (.int .i64 j)
            have Q7 := Lib.hid q7
            have F := Lib.hid (And.intro hv (And.intro hs5 hd5))
            clear q6 q7 hk5 h5 hv hs5 hd5
            unfold vs at *
            go_wp2
            refine bodyPost_ret (results_cell (cs := [vs kWarm, .int .i64 v, vs [], .int .i64 0, vs [], .int .i64 0, .int .i64 j]) Tryz.results139 aggRCond sizeRCond rfl Q7.out.row) rfl ?_
            obtain ⟨f1, f2, f3⟩ := F.out
            rw [HEQ2.out, HEQ.out, baseO_warm B1.out]
            refine ⟨kWarm, v, [], 0, [], 0, j, rfl, Q7.out.kg, fun c st e hw => ?_, r5, Q7.out.rd, (f2.map _).map _, f3.trans HD3.out⟩
            obtain ⟨c1, e1, rfl⟩ := map_ok_ e
            obtain ⟨a, e2, rfl⟩ := map_ok_ e1
            rw [f1 a st e2 hw]
            simp [nots, encRCond, rckWord, ckNum, rckVals]
          | false =>
            rw [b1, takeO_no b1] at htk
            have HTK := Lib.hid htk
            have B1 := Lib.hid b1
            clear htk b1
            unfold vs at *
            go_wp2_with fail
            refine HTK.out.mono ?_
            rintro e w4 ⟨rfl, hk4, r4, h4, hs4, hd4⟩
            have q4 := HR.out.call hk4 h4
            have w4w := HW.out.kg hk4 HR.out.rd.row
            have Q4 := Lib.hid q4
            have W4 := Lib.hid w4w
            have F := Lib.hid (And.intro hs4 hd4)
            clear q4 hk4 h4 hs4 hd4 w4w y0 y1 y2
            go_wp2
            go_roundg 0
            case measure => omega
            case rel =>
              obtain ⟨f1, f2⟩ := F.out
              refine ⟨3, _, r4, by omega, by omega, rfl, Q4.out, W4.out, f1, f2.trans HD3.out, ?_, fun _ => (isB_unit (o := o3)).trans I0.out, fun _ => (isB_unit (o := o3)).trans I1.out, fun _ => (isB_unit (o := o3)).trans B1.out⟩
              rw [HEQ.out]
              cases o3 <;> rfl
        · have I0 := Lib.hid (i0 (by omega))
          have I1 := Lib.hid (i1 (by omega))
          have I2 := Lib.hid (i2 (by omega))
          clear i0 i1 i2 y0 y1 y2
          have q4 := hR.set2 0 (vs kLess)
          have z := fun j => hR.row2.frozen j
          have d0 := hR.row2.cell 0
          have hv := rvalue_any q4.rd HS3.out HT.out
          have Q4 := Lib.hid q4
          have HV := Lib.hid hv
          clear q4 hv hR
          simp at d0
          unfold vs at *
          go_wp2_with fail
          clear z d0
          refine HV.out.mono ?_
          rintro e w5 ⟨k1, n1, rfl, hk5, hv, r5, h5, hs5, hd5⟩
          have q5 := Q4.out.call hk5 h5
          have q6 := (q5.set2 2 (vs k1)).set2 3 (.int .i64 n1)
          have z := fun j => q5.row2.frozen j
          have d2 := q5.row2.cell 2
          have d3 := q5.row2.cell 3
          have hnd := rneed_any q6.rd hs5 HT.out (kd := kLess) (kr := kLess) (by decide) (by decide) (by decide) (by decide)
          have Q6 := Lib.hid q6
          have HND := Lib.hid hnd
          have F1 := Lib.hid (And.intro hv (And.intro hs5 hd5))
          clear q5 q6 hk5 h5 hv hs5 hd5 hnd
          simp at d2 d3
          unfold vs at *
          go_wp2_with fail
          clear z d2 d3
          refine HND.out.mono ?_
          rintro e w6 ⟨x, rfl, hk6, _, r6, h6, hs6, hd6⟩
          have q7 := Q6.out.call hk6 h6
          have hv := rvalue_any q7.rd hs6 HT.out
          have Q7 := Lib.hid q7
          have HV2 := Lib.hid hv
          have F2 := Lib.hid (And.intro hs6 hd6)
          clear q7 hk6 h6 hs6 hd6 hv
          unfold encRTokV vs
          go_wp2_with fail
          refine HV2.out.mono ?_
          rintro e w7 ⟨k2, n2, rfl, hk7, hv2, r7, h7, hs7, hd7⟩
          have q8 := Q7.out.call hk7 h7
          obtain ⟨e0, e1, e2, e3, e4, e5, e6⟩ := cells7 q8.row2
          obtain ⟨c0, c1, c2, c3, c4, c5, c6⟩ := cells7 q8.row
          have z := fun j => q8.row2.frozen j
          have y := fun j => q8.row.frozen j
          have hne : ¬ w.heap.size = w.heap.size + 1 := by omega
          have q9 := ((q8.set2 4 (vs k2)).set2 5 (.int .i64 n2)).copy7 (vs kLess) (.int .i64 0) (vs k1) (.int .i64 n1) (vs k2) (.int .i64 n2) (.int .i64 j)
          have Q9 := Lib.hid q9
          have F3 := Lib.hid (And.intro hv2 (And.intro hs7 hd7))
          clear q8 q9 hk7 h7 hv2 hs7 hd7
          unfold vs at *
          go_wp2
          refine bodyPost_ret (results_cell (cs := [vs kLess, .int .i64 0, vs k1, .int .i64 n1, vs k2, .int .i64 n2, .int .i64 j]) Tryz.results139 aggRCond sizeRCond rfl Q9.out.row) rfl ?_
          obtain ⟨g1, g2, g3⟩ := F1.out
          obtain ⟨g4, g5⟩ := F2.out
          obtain ⟨g6, g7, g8⟩ := F3.out
          rw [HEQ2.out, HEQ.out, baseO_less I0.out I1.out I2.out]
          refine ⟨kLess, 0, k1, n1, k2, n2, j, rfl, Q9.out.kg, fun c st e hw => ?_, r7, Q9.out.rd, (less_says g7).map _, g8.trans (g5.trans (g3.trans HD3.out))⟩
          obtain ⟨c1, e1, rfl⟩ := map_ok_ e
          obtain ⟨a, st1, t, st2, b, u1, u2, u3, rfl⟩ := less_ok e1
          have w2 := val_wrong g4 u2 u3 hw
          have w1 := want_wrong u1 u2 w2
          have x1 := g1 a st1 u1 w1
          have x2 := g6 b st u3 hw
          show [vs kLess, Value.int .i64 0] ++ [vs k1, .int .i64 n1] ++ [vs k2, .int .i64 n2] ++ [.int .i64 (j : Int)] = _
          rw [x1, x2]
          simp [nots, encRCond, rckWord, ckNum, rckVals]
end
end Go.Proofs.YtemppijblfflgabGreatDoor.Ev
namespace Go.Proofs.YtemppijblfflgabGreatDoor.Ev
open Go Go.RowKit

/-- The shape of a statement's value. -/
def RStF (cs : List Value) : Prop := ∃ (k : Bytes) (n m : Int) (t : Bool) (k0 : Bytes) (n0 : Int) (k1 : Bytes) (n1 : Int) (k2 : Bytes) (n2 j : Int) (a1 : Option Addr) (l1 c1 : Nat) (a2 : Option Addr) (l2 c2 : Nat) (o : Bool),
  cs = [vs k, .int .i64 n, .int .i64 m, .bool t, vs k0, .int .i64 n0, vs k1, .int .i64 n1, vs k2, .int .i64 n2, .int .i64 j, .slice a1 l1 c1, .slice a2 l2 c2, .bool o]

/-- A statement is handed out: where nothing is wrong, the one. -/
def OutSt (w : World) (g gp : Nat) (tl : Value) (ts : List RTok) (pc : List Value) (s : Bytes) (ds : List Decl) (o : Out Blk) (e : Ending) (w' : World) : Prop :=
  ∃ cs, e = .returned (.agg cs.toArray) ∧ RStF cs ∧ Kg g w w' ∧ (∀ x st, o = .ok x st → st.wrong = none → RStmtsR (fun k => w.heap.size ≤ k) w' x cs) ∧ ∃ r', RRd w' g gp tl ts pc r' ∧ Says s r' o ∧ r'.decls = ds
/-- A block is handed out: where nothing is wrong, the one. -/
def OutBk (w : World) (g gp : Nat) (tl : Value) (ts : List RTok) (pc : List Value) (s : Bytes) (ds : List Decl) (o : Out Blk) (e : Ending) (w' : World) : Prop :=
  ∃ a n c, e = .returned (.slice a n c) ∧ Kg g w w' ∧ (∀ b st, o = .ok b st → st.wrong = none → RBlkV (fun k => w.heap.size ≤ k) w' (.slice a n c) b) ∧ ∃ r', RRd w' g gp tl ts pc r' ∧ Says s r' o ∧ r'.decls = ds

def blockO {α : Type} (s : Bytes) (n : Nat) (o : Out α) : Out Blk := o.bind fun _ st => block s n st
def stmtsO {α : Type} (s : Bytes) (n : Nat) (o : Out α) : Out Blk := o.bind fun _ st => stmts s n st

def StmtCr (g gp : Nat) (tl : Value) (ts : List RTok) (pc : List Value) (s : Bytes) (n : Nat) : Prop :=
  ∀ (st : PS) (w : World) (r : Raw), RRd w g gp tl ts pc r → SaysOk s r st → st.depth ≤ 8 → st.loops ≤ 2 → 2 * left s st + 1 ≤ n →
    Calls Tryz.prog 124 #[.pointer (some ⟨g, 0, none⟩)] w (OutSt w g gp tl ts pc s r.decls (stmt s n st))
def BlockCr (g gp : Nat) (tl : Value) (ts : List RTok) (pc : List Value) (s : Bytes) (n : Nat) : Prop :=
  ∀ (o : Out Unit) (w : World) (r : Raw), RRd w g gp tl ts pc r → Says s r o → (∀ st, o = .ok () st → st.depth ≤ 8 ∧ st.loops ≤ 2 ∧ 2 * left s st + 1 ≤ n) →
    Calls Tryz.prog 90 #[.pointer (some ⟨g, 0, none⟩)] w (OutBk w g gp tl ts pc s r.decls (blockO s n o))

def deepO (o : Out Unit) : Out Unit := o.bind fun _ st => if st.t.kind = kOpen ∧ st.depth = 8 then fail eDeep st else .ok () st
def inO {α : Type} (o : Out α) : Out Unit := o.bind fun _ st => .ok () { st with depth := st.depth + 1 }
def outO {α : Type} (o : Out α) : Out Unit := o.bind fun _ st => .ok () { st with depth := st.depth - 1 }
theorem app_nil_ : ∀ (b : Blk), b.app .nil = b
  | .nil => rfl
  | .prim p r => by simp [Blk.app, app_nil_ r]
  | .ite c t o e r => by simp [Blk.app, app_nil_ r]
  | .rep n c b r => by simp [Blk.app, app_nil_ r]
theorem app_assoc_ : ∀ (a b c : Blk), (a.app b).app c = a.app (b.app c)
  | .nil, _, _ => rfl
  | .prim p r, b, c => by simp [Blk.app, app_assoc_ r]
  | .ite _ _ _ _ r, b, c => by simp [Blk.app, app_assoc_ r]
  | .rep _ _ _ r, b, c => by simp [Blk.app, app_assoc_ r]

section
variable {s : Bytes}
theorem blockO_eq (n : Nat) (o : Out Unit) : blockO s (n + 1) o = (stmtsO s n (inO (wantO s kOpen (deepO o)))).bind fun b st => .ok b (next s { st with depth := st.depth - 1 }) := by
  cases o with
  | bad e p => rfl
  | ok a st =>
    show block s (n + 1) st = (stmtsO s n (inO (wantO s kOpen (if st.t.kind = kOpen ∧ st.depth = 8 then fail eDeep st else .ok () st)))).bind _
    rw [block]
    by_cases h : st.t.kind = kOpen ∧ st.depth = 8
    · rw [if_pos h, if_pos h]; rfl
    · rw [if_neg h, if_neg h]
      show _ = (stmtsO s n (inO (want s kOpen st))).bind _
      cases want s kOpen st <;> rfl
theorem stmtsO_close {o : Out Unit} (n : Nat) (h : o.isB kClose = true ∨ ∃ e p, o = .bad e p) (done : Blk) :
    ((stmtsO s (n + 1) o).map fun r => done.app r).bind (fun b st => Out.ok b (next s { st with depth := st.depth - 1 })) = (outO (wantO s kClose o)).bind fun _ st => .ok done st := by
  rcases h with h | ⟨e, p, rfl⟩
  · obtain ⟨a, st, rfl, hk⟩ := Out.isB_ok h
    have e1 : stmtsO s (n + 1) (Out.ok a st) = .ok .nil st := by show stmts s (n + 1) st = _; rw [stmts, if_pos hk]
    have e2 : wantO s kClose (Out.ok a st) = .ok st.t (next s st) := by show want s kClose st = _; unfold want; rw [if_pos hk]
    rw [e1, e2]
    show Out.ok (done.app .nil) _ = _
    rw [app_nil_]
    rfl
  · rfl
theorem stmtsO_step {o : Out Unit} {st : PS} (n : Nat) (h : o.isB kClose = false) (ho : o = .ok () st) (done : Blk) :
    (stmtsO s (n + 1) o).map (fun r => done.app r) = match stmt s n st with
      | .ok x st2 => (stmtsO s n (Out.ok () st2)).map fun r => (done.app x).app r
      | .bad e p => .bad e p := by
  subst ho
  have hk : ¬ st.t.kind = kClose := by simpa [Out.isB] using h
  have e1 : stmtsO s (n + 1) (Out.ok () st) = (stmt s n st).bind fun x st => (stmts s n st).map fun r => x.app r := by show stmts s (n + 1) st = _; rw [stmts, if_neg hk]
  rw [e1]
  cases hx : stmt s n st with
  | bad e p => rfl
  | ok x st2 =>
    show ((stmts s n st2).map fun r => x.app r).map _ = (stmts s n st2).map _
    cases stmts s n st2 with
    | bad e p => rfl
    | ok r st3 => show Out.ok (done.app (x.app r)) st3 = Out.ok ((done.app x).app r) st3; rw [app_assoc_]
end

theorem stmt_nil_ {s : Bytes} (n : Nat) (st : PS) {st2 : PS} : stmt s n st ≠ .ok .nil st2 := by
  intro h
  cases n with
  | zero => cases h
  | succ n =>
    have semi : ∀ {p : Prim} {st1 : PS}, ((want s kSemi st1).bind fun _ st => Out.ok (Blk.prim p .nil) st) ≠ .ok .nil st2 := by
      intro p st1 e
      obtain ⟨_, _, _, e2⟩ := bind_ok e
      cases e2
    rw [stmt] at h
    by_cases h1 : st.t.kind = kPut
    · rw [if_pos h1] at h
      obtain ⟨_, _, _, e⟩ := bind_ok h; exact semi e
    rw [if_neg h1] at h
    by_cases h1 : st.t.kind = kEvict
    · rw [if_pos h1] at h
      obtain ⟨_, _, _, e⟩ := bind_ok h; exact semi e
    rw [if_neg h1] at h
    by_cases h1 : st.t.kind = kCool
    · rw [if_pos h1] at h
      obtain ⟨_, _, _, e⟩ := bind_ok h; exact semi e
    rw [if_neg h1] at h
    by_cases h1 : st.t.kind = kShift
    · rw [if_pos h1] at h
      obtain ⟨_, _, _, e⟩ := bind_ok h
      obtain ⟨_, _, _, e⟩ := bind_ok e
      exact semi e
    rw [if_neg h1] at h
    by_cases h1 : st.t.kind = kInc
    · rw [if_pos h1] at h
      obtain ⟨_, _, _, e⟩ := bind_ok h; exact semi e
    rw [if_neg h1] at h
    by_cases h1 : st.t.kind = kDec
    · rw [if_pos h1] at h
      obtain ⟨_, _, _, e⟩ := bind_ok h; exact semi e
    rw [if_neg h1] at h
    by_cases h1 : st.t.kind = kDrop
    · rw [if_pos h1] at h
      exact semi h
    rw [if_neg h1] at h
    by_cases h1 : st.t.kind = kBump
    · rw [if_pos h1] at h
      exact semi h
    rw [if_neg h1] at h
    by_cases h1 : st.t.kind = kIf
    · rw [if_pos h1] at h
      obtain ⟨_, _, _, e⟩ := bind_ok h
      obtain ⟨_, st1, _, e⟩ := bind_ok e
      by_cases h2 : st1.t.kind = kElse
      · rw [if_pos h2] at e
        obtain ⟨_, _, _, e⟩ := bind_ok e; cases e
      · rw [if_neg h2] at e; cases e
    rw [if_neg h1] at h
    by_cases h1 : st.t.kind = kRepeat
    · rw [if_pos h1] at h
      by_cases h2 : st.loops = 2
      · rw [if_pos h2] at h; cases h
      · rw [if_neg h2] at h
        obtain ⟨_, _, _, e⟩ := bind_ok h
        obtain ⟨_, _, _, e⟩ := bind_ok e
        obtain ⟨_, _, _, e⟩ := bind_ok e
        obtain ⟨_, _, _, e⟩ := bind_ok e
        cases e
    rw [if_neg h1] at h
    cases h

theorem Sl.nil__ (S : Nat → Prop) (w : World) (e : TypeId) (size : Nat) : Sl S w e size (.slice none 0 0) 0 [] := ⟨World.ownsRow_nil _ _ _ _, fun g hg => by cases hg⟩
theorem infoRStmt : (Tryz.prog.info? 155).map (fun i => (i.zero, i.size, i.bytes)) =
    some (some (.agg #[vs [], .int .i64 0, .int .i64 0, .bool false, vs [], .int .i64 0, vs [], .int .i64 0, vs [], .int .i64 0, .int .i64 0, .slice none 0 0, .slice none 0 0, .bool false]), 14, 176) := by kernel_rfl

/-- Between two statements of a block. -/
structure RBL (g gp : Nat) (tl : Value) (ts : List RTok) (pc : List Value) (s : Bytes) (ds : List Decl) (w wr : World) (n : Nat) (o0 : Out Unit) (kk : Nat) (m : Nat) (o1 : Out Unit) (r1 : Raw) (done : Blk) (j : Nat) (cs : List Value) (a : Option Addr) (c : Nat) : Prop where
  kg : Kg g w wr
  rd : RRd wr g gp tl ts pc r1
  says : Says s r1 o1
  decls : r1.decls = ds
  eq : stmtsO s n o0 = (stmtsO s (m + 1) o1).map (fun r => done.app r)
  fuel : ∀ st, o1 = .ok () st → 2 * left s st + 1 ≤ m ∧ st.depth ≤ 8 ∧ st.loops ≤ 2 ∧ 1 ≤ st.depth
  mn : ∀ st, o1 = .ok () st → m < n
  ghost : leftO s o1 ≤ kk
  len : j + leftO s o1 ≤ 1002
  sl : Sl (fun b => w.heap.size ≤ b) wr 155 14 (.slice a j c) j cs
  stm : ∀ st, o1 = .ok () st → st.wrong = none → done.length = j ∧ RStmtsR (fun b => w.heap.size ≤ b ∧ (Value.slice a j c).ownBlock ≠ some b) wr done cs

theorem length_app_ : ∀ (b r : Blk), (b.app r).length = b.length + r.length
  | .nil, r => by simp [Blk.app, Blk.length]
  | .prim p x, r => by simp only [Blk.app, Blk.length, length_app_ x r]; omega
  | .ite c t o e x, r => by simp only [Blk.app, Blk.length, length_app_ x r]; omega
  | .rep n c b x, r => by simp only [Blk.app, Blk.length, length_app_ x r]; omega

theorem RBL.drewN {g gp : Nat} {tl : Value} {ts : List RTok} {pc : List Value} {s : Bytes} {ds : List Decl} {w wr : World} {n : Nat} {o0 : Out Unit} {kk m : Nat} {o1 : Out Unit} {r1 : Raw} {done : Blk} {j : Nat} {cs : List Value} {a : Option Addr} {c : Nat}
    (h : RBL g gp tl ts pc s ds w wr n o0 kk m o1 r1 done j cs a c) (q : Nat) : RBL g gp tl ts pc s ds w (wr.drewN q) n o0 kk m o1 r1 done j cs a c :=
  ⟨h.kg.drewN q, h.rd.drewN q, h.says, h.decls, h.eq, h.fuel, h.mn, h.ghost, h.len, h.sl.of_heap rfl, fun st e hw => ⟨(h.stm st e hw).1, RStmtsR.kept (w := wr) (w' := wr.drewN q) (fun _ _ _ _ => rfl) _ _ (h.stm st e hw).2⟩⟩

section
variable {w : World} {g gp : Nat} {tl : Value} {ts : List RTok} {pc : List Value} {r : Raw} {s : Bytes}

/-- A statement has been read and appended. -/
theorem RBL.step {ds : List Decl} {wr w2 W w3 : World} {n : Nat} {o0 : Out Unit} {kk m : Nat} {r1 r2 : Raw} {done : Blk} {j : Nat} {cs L : List Value} {a : Option Addr} {c : Nat} {st : PS}
    (h : RBL g gp tl ts pc s ds w wr n o0 kk (m + 1) (.ok () st) r1 done j cs a c) (hc : (Out.ok () st : Out Unit).isB kClose = false)
    (k2 : Kg g wr w2) (hr2 : RRd w2 g gp tl ts pc r2) (hs2 : Says s r2 (stmt s (m + 1) st)) (hd2 : r2.decls = ds) (hst : ∀ x st2, stmt s (m + 1) st = .ok x st2 → st2.wrong = none → RStmtsR (fun k => wr.heap.size ≤ k) w2 x L)
    (hL : L.length = 14) (hkW : Kept (fun b => w2.heap.size ≤ b) w2 W) (hsW : w2.heap.size ≤ W.heap.size) {g2 c2 : Nat} (hs3 : Sl (fun b => w.heap.size ≤ b) w3 155 14 (.slice (some ⟨g2, 0, none⟩) (j + 1) c2) (j + 1) (cs ++ L))
    (hk3 : Kept (fun b => (Value.slice a j c).ownBlock = some b ∨ W.heap.size ≤ b) W w3) (hloc : (Value.slice a j c).ownBlock = some g2 ∨ g2 = W.heap.size) :
    leftO s ((stmt s (m + 1) st).bind fun _ st => Out.ok () st) < leftO s (Out.ok () st : Out Unit) ∧ ∃ done2, RBL g gp tl ts pc s ds w w3 n o0 (leftO s ((stmt s (m + 1) st).bind fun _ st => Out.ok () st)) m ((stmt s (m + 1) st).bind fun _ st => Out.ok () st) r2 done2 (j + 1) (cs ++ L) (some ⟨g2, 0, none⟩) c2 := by
  obtain ⟨hf, hdp, hlp, hd1⟩ := h.fuel st rfl
  have hpos : 0 < left s st := left_pos (SaysOk.ok h.says)
  have hvo : ∀ b, (Value.slice a j c).ownBlock = some b → w.heap.size ≤ b ∧ b < wr.heap.size ∧ b ≠ g := fun b hb => ⟨h.sl.2 b hb, h.sl.lt hb, fun e => h.sl.ne_row h.rd.row (by decide) (e ▸ hb)⟩
  have k0 : Kg g w W := Kg.trans (Kg.trans h.kg k2) (hkW.mono (fun b hb => .inr hb))
  have k3 : Kg g w w3 := Kept.trans k0 (hk3.mono (fun b hb => .inr (hb.elim (fun e => (hvo b e).1) (fun e => Nat.le_trans k0.size e))))
  have hrW : RRd W g gp tl ts pc r2 := hr2.kg (hkW.mono (fun b hb => .inr hb)) (hkW.block g (by have := hr2.row.lt; omega))
  have hr3 : RRd w3 g gp tl ts pc r2 := by
    obtain ⟨N, ht⟩ := hrW.toks
    obtain ⟨N', vd, e1, e2⟩ := hrW.decls
    have hslW : ∀ {t : TypeId} {cs : List Value} {n : Nat}, Row W n t cs → t ≠ 155 → ¬ ((Value.slice a j c).ownBlock = some n ∨ W.heap.size ≤ n) := by
      intro t cs' n hr ht hh
      rcases hh with hh | hh
      · have h1 := (h.sl.kept k2 (fun b hb hh => hh.elim (fun e => (hvo b hb).2.2 e) (fun e => by have := (hvo b hb).2.1; omega))).kept hkW (fun b hb hh => by have := (hvo b hb).2.1; have := k2.size; omega)
        exact h1.ne_row hr (fun e => ht e.symm) hh
      · have := hr.lt; omega
    have hsl : ∀ {t : TypeId} {size n : Nat} {v : Value} {xs : List Value} {N : Nat → Prop}, Sl N W t size v n xs → t ≠ 155 → Sl N w3 t size v n xs := by
      intro t size n v xs N hs ht
      exact hs.kept hk3 (fun b hb => by obtain ⟨cs', hr⟩ := hs.row hb; exact hslW hr ht)
    exact ⟨hrW.row.kept hk3 (hslW hrW.row (by decide)), ⟨N, hsl ht (by decide)⟩, hrW.tl, hrW.pol.kept hk3 (hslW hrW.pol (by decide)), ⟨N', vd, e1, hsl e2 (by decide)⟩, hrW.dl⟩
  cases hx : stmt s (m + 1) st with
  | bad e p =>
    rw [hx] at hs2
    refine ⟨hpos, done, k3, hr3, hs2, hd2, ?_, (by intro st2 e2; cases e2), (by intro st2 e2; cases e2), Nat.le_refl _, ?_, hs3, (by intro st2 e2; cases e2)⟩
    · rw [h.eq, stmtsO_step (m + 1) hc rfl, hx]; rfl
    · have h7 := h.len
      show j + 1 + 0 ≤ 1002
      have : leftO s (Out.ok () st : Out Unit) = left s st := rfl
      omega
  | ok x st2 =>
    rw [hx] at hs2
    have hgot := stmt_ok (SaysOk.ok h.says) hdp hlp hx
    have hlt : left s st2 < left s st := by
      have := hgot.size
      have hp : 0 < x.size := by
        cases x with
        | nil => exact absurd hx (stmt_nil_ _ _)
        | prim p r => simp only [Blk.size]; omega
        | ite c t o e r => simp only [Blk.size]; omega
        | rep n c b r => simp only [Blk.size]; omega
      omega
    refine ⟨hlt, done.app x, k3, hr3, hs2, hd2, ?_, ?_, fun st3 _ => by have := h.mn st rfl; omega, Nat.le_refl _, ?_, hs3, ?_⟩
    · rw [h.eq, stmtsO_step (m + 1) hc rfl, hx]; rfl
    · intro st3 e3
      injection e3 with _ e3
      subst e3
      refine ⟨by omega, by rw [hgot.fwd.depth]; exact hdp, by rw [hgot.fwd.loops]; exact hlp, by rw [hgot.fwd.depth]; exact hd1⟩
    · have h7 := h.len
      have e1 : leftO s (Out.ok () st : Out Unit) = left s st := rfl
      show j + 1 + left s st2 ≤ 1002
      omega
    · intro st3 e3 hw
      injection e3 with _ e3
      subst e3
      obtain ⟨b1, b2⟩ := h.stm st rfl (hgot.fwd.wrong hw)
      have hsr := hst x st2 hx hw
      have hxl : x.length = 1 := by
        have := RStmtsR.len x L hsr
        omega
      refine ⟨by rw [length_app_, b1, hxl], ?_⟩
      have far : ∀ k cs', (w.heap.size ≤ k ∧ (Value.slice a j c).ownBlock ≠ some k ∧ k < W.heap.size) → Row W k 155 cs' → w3.heap[k]? = W.heap[k]? := fun k cs' hk hr => hk3.block k (fun hh => hh.elim hk.2.1 (fun h2 => by omega))
      have toN : ∀ k, k < w3.heap.size → (w.heap.size ≤ k ∧ (Value.slice a j c).ownBlock ≠ some k ∧ k < W.heap.size) → (w.heap.size ≤ k ∧ (Value.slice (some ⟨g2, 0, none⟩) (j + 1) c2).ownBlock ≠ some k) := fun k _ hk => ⟨hk.1, fun e => by
        injection e with e
        simp only at e
        subst e
        rcases hloc with h1 | h1
        · exact hk.2.1 h1
        · omega⟩
      have hs1 := k2.size
      have hs0 := h.kg.size
      have p1 := RStmtsR.mono (N' := fun k => w.heap.size ≤ k ∧ (Value.slice a j c).ownBlock ≠ some k ∧ k < W.heap.size) (fun k hk hN => ⟨hN.1, hN.2, by omega⟩) _ _ b2
      have p2 := RStmtsR.kept (w' := W) (fun k cs' hk hr => (hkW.block k (by have := hr.lt; omega)).trans (kg_at k2 hr.lt (hr.ne_ h.rd.row (by decide)))) _ _ p1
      have p3 := RStmtsR.mono toN _ _ (RStmtsR.kept far _ _ p2)
      have r1 := RStmtsR.mono (N' := fun k => w.heap.size ≤ k ∧ (Value.slice a j c).ownBlock ≠ some k ∧ k < W.heap.size) (fun k hk hN => ⟨by omega, fun e => by have := (hvo k e).2.1; omega, by omega⟩) _ _ hsr
      have r2 := RStmtsR.kept (w' := W) (fun k cs' hk hr => hkW.block k (by have := hr.lt; omega)) _ _ r1
      have r3 := RStmtsR.mono toN _ _ (RStmtsR.kept far _ _ r2)
      exact RStmtsR.app _ _ _ _ p3 r3
end
end Go.Proofs.YtemppijblfflgabGreatDoor.Ev
