/- The plain words of this claim: texts, tokens, policies as trees, the reader of a policy, the one text of a policy, and what a rule does to queues of keys. No program in sight. A text as a value. How a policy's tree lies in the program's memory. The plain words of this claim: the one text of a policy; what a rule does to queues of keys. No program in sight. A policy as a program of small steps, and the machine for it: what comes of it is what the tree says. No program in sight. The maker of steps: its call 'put'. How the reader of a policy lies in memory; the package's errors and words. How the package's errors and words, a policy, a program of steps lie in memory. The arena's chains: nodes that are linked to and fro; what unlink and link make of them. No program in sight. The arena stands for sequences of entries: what each of its calls makes of them. No program in sight. Plain facts on tokens: where they lie. No program in sight. What the reader's calls leave as it was, and what stands in what they give: plain facts. No program in sight. What holds of every policy that was read. No program in sight. The steps that change something, over the arena: they do what the tree's words say. No program in sight. How much a rule may evict at most. No program in sight. A run of a rule in memory; its small calls: push, pop. A run's small calls: push, pop, full, resident. A run's small calls: full, resident. By any policy: no key stands twice; who left the cache was told; nobody comes in unasked. No program in sight. What stands in a text, token by token: words, numbers and signs one behind the other. No program in sight. The one text of a policy, read: it is that policy, its rules in their order, its conditions turned round once or not at all. No program in sight. A policy's tokens, read. No program in sight. The names that a policy's text declares, found by its words. No program in sight. What holds of an engine at all times; what its calls make of who stands where. No program in sight. Conditions: none. -/
import Derived.WalkLawsBesides
import Derived.Outline
import Derived.Test.YtemppijblfflgabGreatDoorZt01
set_option linter.all false
namespace Go.Proofs.YtemppijblfflgabGreatDoor.Ev

abbrev Bytes := List UInt8

/-! ## Words -/
abbrev kQueue : Bytes := [113, 117, 101, 117, 101]
abbrev kGhost : Bytes := [103, 104, 111, 115, 116]
abbrev kVar : Bytes := [118, 97, 114]
abbrev kFreq : Bytes := [102, 114, 101, 113]
abbrev kOn : Bytes := [111, 110]
abbrev kMiss : Bytes := [109, 105, 115, 115]
abbrev kPut : Bytes := [112, 117, 116]
abbrev kTail : Bytes := [116, 97, 105, 108]
abbrev kEvict : Bytes := [101, 118, 105, 99, 116]
abbrev kShift : Bytes := [115, 104, 105, 102, 116]
abbrev kDrop : Bytes := [100, 114, 111, 112]
abbrev kInc : Bytes := [105, 110, 99]
abbrev kDec : Bytes := [100, 101, 99]
abbrev kBump : Bytes := [98, 117, 109, 112]
abbrev kCool : Bytes := [99, 111, 111, 108]
abbrev kIf : Bytes := [105, 102]
abbrev kElse : Bytes := [101, 108, 115, 101]
abbrev kRepeat : Bytes := [114, 101, 112, 101, 97, 116]
abbrev kWhile : Bytes := [119, 104, 105, 108, 101]
abbrev kNot : Bytes := [110, 111, 116]
abbrev kFull : Bytes := [102, 117, 108, 108]
abbrev kEmpty : Bytes := [101, 109, 112, 116, 121]
abbrev kWarm : Bytes := [119, 97, 114, 109]
abbrev kLen : Bytes := [108, 101, 110]
abbrev kName : Bytes := [110, 97, 109, 101]
abbrev kNumber : Bytes := [110, 117, 109, 98, 101, 114]
abbrev kEnd : Bytes := [101, 110, 100]
abbrev kNone : Bytes := [110, 111, 110, 101]
abbrev kSemi : Bytes := [59]
abbrev kOpen : Bytes := [123]
abbrev kClose : Bytes := [125]
abbrev kLess : Bytes := [60]
def keywords : List Bytes := [kQueue, kGhost, kVar, kFreq, kOn, kMiss, kPut, kTail, kEvict, kShift, kDrop, kInc, kDec, kBump, kCool, kIf, kElse, kRepeat, kWhile, kNot, kFull, kEmpty, kWarm, kLen]

/-! ## Tokens -/
def blank (c : UInt8) : Bool := c == 32 || c == 10
def low (c : UInt8) : Bool := decide (97 ≤ c) && decide (c ≤ 122)
def fig (c : UInt8) : Bool := decide (48 ≤ c) && decide (c ≤ 57)
def punct (c : UInt8) : Bool := c == 59 || c == 123 || c == 125 || c == 60

structure Tok where
  kind : Bytes
  text : Bytes
  pos : Nat

/-- The first place from i on at which p fails. -/
def skip (p : UInt8 → Bool) (s : Bytes) (i : Nat) : Nat := i + ((s.drop i).takeWhile p).length

def piece (s : Bytes) (i k : Nat) : Bytes := (s.take k).drop i

/-- The token at or behind place i0, and the place at which the reading goes on. -/
def lex (s : Bytes) (i0 : Nat) : Tok × Nat :=
  let i := skip blank s i0
  match s[i]? with
  | none => (⟨kEnd, [], i⟩, i)
  | some c =>
    if low c then
      let k := skip low s i
      if 8 < k - i then (⟨kNone, [], i⟩, i)
      else (⟨if keywords.contains (piece s i k) then piece s i k else kName, piece s i k, i⟩, k)
    else if fig c then
      let k := skip fig s i
      if 3 < k - i then (⟨kNone, [], i⟩, i) else (⟨kNumber, piece s i k, i⟩, k)
    else if punct c then (⟨[c], [c], i⟩, i + 1)
    else (⟨kNone, [], i⟩, i)

/-! ## Errors -/
def eLong : Nat := 1
def eSyntax : Nat := 2
def eDeep : Nat := 3
def eTwice : Nat := 4
def eNone : Nat := 5
def eKind : Nat := 6
def eNumber : Nat := 7
def eRule : Nat := 8
def eMany : Nat := 9
def eMiss : Nat := 10
def eFull : Nat := 11
def eEmpty : Nat := 12
/-! ## Policies as trees -/
/-- What is declared: kind 0 a queue, 1 a ghost, 2 a variable. -/
structure Decl where
  kind : Nat
  name : Bytes
  max : Int

inductive Val where
  | num (n : Int)
  | var (n : Int)
  | len (n : Int)
  | freq

inductive CK where
  | full (n : Int)
  | empty (n : Int)
  | warm (n : Int)
  | less (a b : Val)

structure Cond where
  k : CK
  nots : Nat

inductive Prim where
  | put (q : Int) (tail : Bool)
  | evict (q : Int)
  | cool (q : Int)
  | shift (q p : Int) (tail : Bool)
  | inc (v : Int)
  | dec (v : Int)
  | drop
  | bump

/-- A block: its statements, one behind the other. -/
inductive Blk where
  | nil
  | prim (p : Prim) (rest : Blk)
  | ite (c : Cond) (thn : Blk) (other : Bool) (els : Blk) (rest : Blk)
  | rep (n : Int) (c : Cond) (body : Blk) (rest : Blk)

/-- One statement (its rest is nil) ahead of a block. -/
def Blk.app : Blk → Blk → Blk
  | .nil, r => r
  | .prim p x, r => .prim p (x.app r)
  | .ite c t o e x, r => .ite c t o e (x.app r)
  | .rep n c b x, r => .rep n c b (x.app r)

def Blk.length : Blk → Nat
  | .nil => 0
  | .prim _ x => x.length + 1
  | .ite _ _ _ _ x => x.length + 1
  | .rep _ _ _ x => x.length + 1

/-! ## The reader of a policy -/
structure PS where
  t : Tok
  i : Nat
  decls : List Decl
  freq : Int
  fseen : Bool
  rules : List (Int × Blk)
  depth : Nat
  loops : Nat
  wrong : Option (Nat × Nat)

inductive Out (α : Type) where
  | ok (a : α) (st : PS)
  | bad (e : Nat) (pos : Nat)

def Out.bind {α β : Type} (x : Out α) (f : α → PS → Out β) : Out β :=
  match x with
  | .ok a st => f a st
  | .bad e p => .bad e p

def Out.map {α β : Type} (f : α → β) : Out α → Out β
  | .ok a st => .ok (f a) st
  | .bad e p => .bad e p

def next (s : Bytes) (st : PS) : PS := { st with t := (lex s st.i).1, i := (lex s st.i).2 }

def fail {α : Type} (e : Nat) (st : PS) : Out α := .bad e st.t.pos

def note (e : Nat) (pos : Nat) (st : PS) : PS :=
  match st.wrong with
  | none => { st with wrong := some (e, pos) }
  | some _ => st

def want (s : Bytes) (k : Bytes) (st : PS) : Out Tok :=
  if st.t.kind = k then .ok st.t (next s st) else fail eSyntax st

def take (s : Bytes) (k : Bytes) (st : PS) : Bool × PS :=
  if st.t.kind = k then (true, next s st) else (false, st)

def atoi (l : Bytes) : Int := l.foldl (fun n c => 10 * n + ((c.toNat : Int) - 48)) 0

def number (s : Bytes) (least most : Int) (st : PS) : Out Int :=
  (want s kNumber st).bind fun t st =>
    .ok (atoi t.text) (if atoi t.text < least ∨ atoi t.text > most then note eNumber t.pos st else st)

def findFrom (name : Bytes) : List Decl → Nat → Int
  | [], _ => -1
  | d :: l, k => if d.name = name then (k : Int) else findFrom name l (k + 1)

def find (l : List Decl) (name : Bytes) : Int := findFrom name l 0

def declAt (l : List Decl) (k : Int) : Decl := (l[k.toNat]?).getD ⟨0, [], 0⟩

/-- What a name stands for: noted, if it is not declared, or is of another kind. -/
def nameNote (variable_ : Bool) (t : Tok) (st : PS) : PS :=
  if find st.decls t.text < 0 then note eNone t.pos st
  else if ((declAt st.decls (find st.decls t.text)).kind == 2) != variable_ then note eKind t.pos st
  else st

def name (s : Bytes) (variable_ : Bool) (st : PS) : Out Int :=
  (want s kName st).bind fun t st => .ok (find st.decls t.text) (nameNote variable_ t st)

def declMost (kind : Bytes) : Int := if kind = kVar then 99 else 50
def declKind (kind : Bytes) : Nat := if kind = kVar then 2 else if kind = kGhost then 1 else 0

def declNote (n : Tok) (st : PS) : PS :=
  let st := if 0 ≤ find st.decls n.text then note eTwice n.pos st else st
  if st.decls.length = 8 then note eMany n.pos st else st

def decl (s : Bytes) (st : PS) : Out Unit :=
  let t := st.t
  let st := next s st
  if t.kind = kFreq then
    let st := if st.fseen then note eTwice t.pos st else st
    let st := { st with fseen := true }
    (number s 1 99 st).bind fun n st => (want s kSemi { st with freq := n }).bind fun _ st => .ok () st
  else
    (want s kName st).bind fun n st =>
      (number s 1 (declMost t.kind) (declNote n st)).bind fun m st =>
        (want s kSemi st).bind fun _ st => .ok () { st with decls := st.decls ++ [⟨declKind t.kind, n.text, m⟩] }

def value (s : Bytes) (st : PS) : Out Val :=
  if st.t.kind = kNumber then (number s 0 999 st).map .num
  else if st.t.kind = kLen then (name s false (next s st)).map .len
  else if st.t.kind = kFreq then .ok .freq (next s st)
  else (name s true st).map .var

def condBase (s : Bytes) (st : PS) : Out Cond :=
  if st.t.kind = kFull then (name s false (next s st)).map fun n => ⟨.full n, 0⟩
  else if st.t.kind = kEmpty then (name s false (next s st)).map fun n => ⟨.empty n, 0⟩
  else if st.t.kind = kWarm then (name s false (next s st)).map fun n => ⟨.warm n, 0⟩
  else (value s st).bind fun a st => (want s kLess st).bind fun _ st => (value s st).map fun b => ⟨.less a b, 0⟩

def cond (s : Bytes) : Nat → PS → Out Cond
  | 0, st => fail eSyntax st
  | n + 1, st =>
    if st.t.kind = kNot then (cond s n (next s st)).map fun c => ⟨c.k, c.nots + 1⟩
    else condBase s st

mutual
/-- A block. The first number bounds the calls within each other; it is never met. -/
def block (s : Bytes) : Nat → PS → Out Blk
  | 0, st => fail eSyntax st
  | n + 1, st =>
    if st.t.kind = kOpen ∧ st.depth = 8 then fail eDeep st
    else (want s kOpen st).bind fun _ st =>
      (stmts s n { st with depth := st.depth + 1 }).bind fun b st => .ok b (next s { st with depth := st.depth - 1 })
def stmts (s : Bytes) : Nat → PS → Out Blk
  | 0, st => fail eSyntax st
  | n + 1, st =>
    if st.t.kind = kClose then .ok .nil st
    else (stmt s n st).bind fun x st => (stmts s n st).map fun r => x.app r
def stmt (s : Bytes) : Nat → PS → Out Blk
  | 0, st => fail eSyntax st
  | n + 1, st =>
    let semi (x : Prim) (st : PS) : Out Blk := (want s kSemi st).bind fun _ st => .ok (.prim x .nil) st
    if st.t.kind = kPut then (name s false (next s st)).bind fun q st => semi (.put q (take s kTail st).1) (take s kTail st).2
    else if st.t.kind = kEvict then (name s false (next s st)).bind fun q st => semi (.evict q) st
    else if st.t.kind = kCool then (name s false (next s st)).bind fun q st => semi (.cool q) st
    else if st.t.kind = kShift then (name s false (next s st)).bind fun q st => (name s false st).bind fun p st =>
      semi (.shift q p (take s kTail st).1) (take s kTail st).2
    else if st.t.kind = kInc then (name s true (next s st)).bind fun v st => semi (.inc v) st
    else if st.t.kind = kDec then (name s true (next s st)).bind fun v st => semi (.dec v) st
    else if st.t.kind = kDrop then semi .drop (next s st)
    else if st.t.kind = kBump then semi .bump (next s st)
    else if st.t.kind = kIf then
      (cond s (n + 1) (next s st)).bind fun c st => (block s n st).bind fun t st =>
        if st.t.kind = kElse then (block s n (next s st)).bind fun e st => .ok (.ite c t true e .nil) st
        else .ok (.ite c t false .nil .nil) st
    else if st.t.kind = kRepeat then
      if st.loops = 2 then fail eDeep st
      else (number s 1 50 (next s st)).bind fun k st => (want s kWhile st).bind fun _ st => (cond s (n + 1) st).bind fun c st =>
        (block s n { st with loops := st.loops + 1 }).bind fun b st => .ok (.rep k c b .nil) { st with loops := st.loops - 1 }
    else fail eSyntax st
end

def ruleOf (rules : List (Int × Blk)) (k : Int) : Option Blk := (rules.find? (fun x => x.1 == k)).map (·.2)

/-- Behind the word on: for which event; noted, if there is a rule for it. -/
def ruleHead (s : Bytes) (st : PS) : Out Int :=
  let at_ := st.t.pos
  let st := next s st
  let x : Out Int := if st.t.kind = kMiss then .ok (-1) (next s st) else name s false st
  x.bind fun k st => .ok k (if (ruleOf st.rules k).isSome && st.wrong.isNone then note eRule at_ st else st)

def rule (s : Bytes) (n : Nat) (st : PS) : Out Unit :=
  (ruleHead s st).bind fun k st => (block s n st).bind fun b st =>
    .ok () (if st.wrong.isNone then { st with rules := st.rules ++ [(k, b)] } else st)

def isDecl (k : Bytes) : Bool := k == kQueue || k == kGhost || k == kVar || k == kFreq

def declsR (s : Bytes) : Nat → PS → Out Unit
  | 0, st => fail eSyntax st
  | n + 1, st => if isDecl st.t.kind then (decl s st).bind fun _ st => declsR s n st else .ok () st

def rulesR (s : Bytes) (m : Nat) : Nat → PS → Out Unit
  | 0, st => fail eSyntax st
  | n + 1, st => if st.t.kind = kOn then (rule s m st).bind fun _ st => rulesR s m n st else .ok () st

def start (s : Bytes) : PS := ⟨(lex s 0).1, (lex s 0).2, [], 0, false, [], 0, 0, none⟩

def readAll (s : Bytes) : Out Tok :=
  (declsR s 702 (start s)).bind fun _ st => (rulesR s 1500 702 st).bind fun _ st => want s kEnd st

structure Policy where
  decls : List Decl
  freq : Int
  rules : List (Int × Blk)

def missOf (rules : List (Int × Blk)) : Option Blk := ruleOf rules (-1)

/-- THE POLICY of a text, or its error and where. -/
def read (s : Bytes) : Except (Nat × Nat) Policy :=
  if 700 < s.length then .error (eLong, 0)
  else match readAll s with
    | .bad e p => .error (e, p)
    | .ok _ st => match st.wrong with
      | some x => .error x
      | none => if (missOf st.rules).isNone then .error (eMiss, 0) else .ok ⟨st.decls, st.freq, st.rules⟩

end Go.Proofs.YtemppijblfflgabGreatDoor.Ev
namespace Go.Proofs.YtemppijblfflgabGreatDoor.Ev
open Go Go.RowKit
abbrev vs (l : Bytes) : Value := .string ⟨l.toArray⟩
end Go.Proofs.YtemppijblfflgabGreatDoor.Ev
namespace Go.Proofs.YtemppijblfflgabGreatDoor.Ev
open Go Go.RowKit


def valWord : Val → Bytes
  | .num _ => kNumber
  | .var _ => kVar
  | .len _ => kLen
  | .freq => kFreq
def valNum : Val → Int
  | .num n => n
  | .var n => n
  | .len n => n
  | .freq => 0
/-- policy.Value -/
def encVal (v : Val) : List Value := [vs (valWord v), .int .i64 (valNum v)]

abbrev kLessWord : Bytes := [108, 101, 115, 115]
def ckWord : CK → Bytes
  | .full _ => kFull
  | .empty _ => kEmpty
  | .warm _ => kWarm
  | .less _ _ => kLessWord
def ckNum : CK → Int
  | .full n => n
  | .empty n => n
  | .warm n => n
  | .less _ _ => 0
def ckVals : CK → List Value
  | .less a b => encVal a ++ encVal b
  | _ => [vs [], .int .i64 0, vs [], .int .i64 0]
def oddB (n : Nat) : Bool := n % 2 == 1
/-- policy.Cond -/
def encCond (c : Cond) : List Value := [vs (ckWord c.k), .int .i64 (ckNum c.k)] ++ ckVals c.k ++ [.bool (oddB c.nots)]
def noCond : List Value := [vs [], .int .i64 0, vs [], .int .i64 0, vs [], .int .i64 0, .bool false]

def primWord : Prim → Bytes
  | .put _ _ => kPut
  | .evict _ => kEvict
  | .cool _ => kCool
  | .shift _ _ _ => kShift
  | .inc _ => kInc
  | .dec _ => kDec
  | .drop => kDrop
  | .bump => kBump
def primN : Prim → Int
  | .put q _ => q
  | .evict q => q
  | .cool q => q
  | .shift q _ _ => q
  | .inc v => v
  | .dec v => v
  | _ => 0
def primM : Prim → Int
  | .shift _ p _ => p
  | _ => 0
def primTail : Prim → Bool
  | .put _ t => t
  | .shift _ _ t => t
  | _ => false
def vnil : Value := .slice none 0 0
/-- policy.Stmt -/
def encPrim (p : Prim) : List Value := [vs (primWord p), .int .i64 (primN p), .int .i64 (primM p), .bool (primTail p)] ++ noCond ++ [vnil, vnil]
def encIf (c : Cond) (vt ve : Value) : List Value := [vs kIf, .int .i64 0, .int .i64 0, .bool false] ++ encCond c ++ [vt, ve]
def encRep (n : Int) (c : Cond) (vt : Value) : List Value := [vs kRepeat, .int .i64 n, .int .i64 0, .bool false] ++ encCond c ++ [vt, vnil]

theorem ckVals_len (c : CK) : (ckVals c).length = 4 := by cases c <;> rfl
theorem encCond_len (c : Cond) : (encCond c).length = 7 := by simp [encCond, ckVals_len]
/-- A slice of statements, not nil, that owns its row in N. -/
def Sn (N : Nat → Prop) (w : World) (v : Value) (n : Nat) (cs : List Value) : Prop :=
  Sl N w 220 13 v n cs ∧ ∃ g c, v = .slice (some ⟨g, 0, none⟩) n c

/-- The cells of a block's statements; what they lead to lies in N. -/
def StmtsR (N : Nat → Prop) (w : World) : Blk → List Value → Prop
  | .nil, cs => cs = []
  | .prim p r, cs => ∃ rest, cs = encPrim p ++ rest ∧ StmtsR N w r rest
  | .ite c t o e r, cs => ∃ vt ve rest, cs = encIf c vt ve ++ rest ∧ (∃ ct, Sn N w vt t.length ct ∧ StmtsR N w t ct) ∧
      (if o then ∃ ce, Sn N w ve e.length ce ∧ StmtsR N w e ce else ve = vnil ∧ e = .nil) ∧ StmtsR N w r rest
  | .rep n c b r, cs => ∃ vt rest, cs = encRep n c vt ++ rest ∧ (∃ ct, Sn N w vt b.length ct ∧ StmtsR N w b ct) ∧ StmtsR N w r rest

/-- A block. -/
def BlkV (N : Nat → Prop) (w : World) (v : Value) (b : Blk) : Prop := ∃ cs, Sn N w v b.length cs ∧ StmtsR N w b cs

section
variable {N N' : Nat → Prop} {w w' : World}
theorem Sn.kept {v : Value} {n : Nat} {cs : List Value} (h : Sn N w v n cs) (hk : ∀ k cs, N k → Row w k 220 cs → w'.heap[k]? = w.heap[k]?) : Sn N w' v n cs := by
  obtain ⟨⟨⟨h0, h1⟩, h2⟩, h3⟩ := h
  refine ⟨⟨⟨h0, ?_⟩, h2⟩, h3⟩
  rcases h1 with h1 | ⟨g, cap, cur, rfl, hb, hg, h4⟩
  · exact .inl h1
  · exact .inr ⟨g, cap, cur, rfl, hb, (hk g cur.toList (h2 g rfl) (by unfold Row; simpa using hg)).trans hg, h4⟩
theorem Sn.mono {v : Value} {n : Nat} {cs : List Value} (h : Sn N w v n cs) (hN : ∀ k, k < w.heap.size → N k → N' k) : Sn N' w v n cs :=
  ⟨⟨h.1.1, fun g hg => hN g (h.1.lt hg) (h.1.2 g hg)⟩, h.2⟩
theorem StmtsR.kept (hk : ∀ k cs, N k → Row w k 220 cs → w'.heap[k]? = w.heap[k]?) : ∀ (b : Blk) (cs : List Value), StmtsR N w b cs → StmtsR N w' b cs
  | .nil, _, h => h
  | .prim p r, cs, ⟨rest, h1, h2⟩ => ⟨rest, h1, StmtsR.kept hk r rest h2⟩
  | .ite c t o e r, cs, ⟨vt, ve, rest, h1, ⟨ct, h2, h3⟩, h4, h5⟩ => ⟨vt, ve, rest, h1, ⟨ct, h2.kept hk, StmtsR.kept hk t ct h3⟩, by
      cases o with
      | false => exact h4
      | true =>
        obtain ⟨ce, h6, h7⟩ := h4
        exact ⟨ce, h6.kept hk, StmtsR.kept hk e ce h7⟩, StmtsR.kept hk r rest h5⟩
  | .rep n c b r, cs, ⟨vt, rest, h1, ⟨ct, h2, h3⟩, h5⟩ => ⟨vt, rest, h1, ⟨ct, h2.kept hk, StmtsR.kept hk b ct h3⟩, StmtsR.kept hk r rest h5⟩
theorem StmtsR.mono (hN : ∀ k, k < w.heap.size → N k → N' k) : ∀ (b : Blk) (cs : List Value), StmtsR N w b cs → StmtsR N' w b cs
  | .nil, _, h => h
  | .prim p r, cs, ⟨rest, h1, h2⟩ => ⟨rest, h1, StmtsR.mono hN r rest h2⟩
  | .ite c t o e r, cs, ⟨vt, ve, rest, h1, ⟨ct, h2, h3⟩, h4, h5⟩ => ⟨vt, ve, rest, h1, ⟨ct, h2.mono hN, StmtsR.mono hN t ct h3⟩, by
      cases o with
      | false => exact h4
      | true =>
        obtain ⟨ce, h6, h7⟩ := h4
        exact ⟨ce, h6.mono hN, StmtsR.mono hN e ce h7⟩, StmtsR.mono hN r rest h5⟩
  | .rep n c b r, cs, ⟨vt, rest, h1, ⟨ct, h2, h3⟩, h5⟩ => ⟨vt, rest, h1, ⟨ct, h2.mono hN, StmtsR.mono hN b ct h3⟩, StmtsR.mono hN r rest h5⟩
theorem StmtsR.app : ∀ (b : Blk) (cs : List Value) (r : Blk) (rs : List Value), StmtsR N w b cs → StmtsR N w r rs → StmtsR N w (b.app r) (cs ++ rs)
  | .nil, _, r, rs, h, hr => by rw [show _ = [] from h]; exact hr
  | .prim p x, cs, r, rs, ⟨rest, h1, h2⟩, hr => ⟨rest ++ rs, by rw [h1, List.append_assoc], StmtsR.app x rest r rs h2 hr⟩
  | .ite c t o e x, cs, r, rs, ⟨vt, ve, rest, h1, h2, h4, h5⟩, hr => ⟨vt, ve, rest ++ rs, by rw [h1, List.append_assoc], h2, h4, StmtsR.app x rest r rs h5 hr⟩
  | .rep n c b x, cs, r, rs, ⟨vt, rest, h1, h2, h5⟩, hr => ⟨vt, rest ++ rs, by rw [h1, List.append_assoc], h2, StmtsR.app x rest r rs h5 hr⟩
theorem BlkV.kept {v : Value} {b : Blk} (h : BlkV N w v b) (hk : ∀ k cs, N k → Row w k 220 cs → w'.heap[k]? = w.heap[k]?) : BlkV N w' v b := by
  obtain ⟨cs, h1, h2⟩ := h
  exact ⟨cs, h1.kept hk, StmtsR.kept hk b cs h2⟩
theorem BlkV.mono {v : Value} {b : Blk} (h : BlkV N w v b) (hN : ∀ k, k < w.heap.size → N k → N' k) : BlkV N' w v b := by
  obtain ⟨cs, h1, h2⟩ := h
  exact ⟨cs, h1.mono hN, StmtsR.mono hN b cs h2⟩
end
theorem Blk.length_app : ∀ (b r : Blk), (b.app r).length = b.length + r.length
  | .nil, r => by simp [Blk.app, Blk.length]
  | .prim p x, r => by simp [Blk.app, Blk.length, Blk.length_app x r]; omega
  | .ite c t o e x, r => by simp [Blk.app, Blk.length, Blk.length_app x r]; omega
  | .rep n c b x, r => by simp [Blk.app, Blk.length, Blk.length_app x r]; omega
end Go.Proofs.YtemppijblfflgabGreatDoor.Ev
namespace Go.Proofs.YtemppijblfflgabGreatDoor.Ev

/-! ## The one text -/
def digitsNat (n : Nat) : Bytes :=
  if n < 10 then [UInt8.ofNat (48 + n)] else digitsNat (n / 10) ++ [UInt8.ofNat (48 + n % 10)]
termination_by n
decreasing_by omega

def digits (n : Int) : Bytes := digitsNat n.toNat

def bSp : Bytes := [32]
def nameOf (l : List Decl) (k : Int) : Bytes := (declAt l k).name

def showVal (l : List Decl) : Val → Bytes
  | .num n => digits n
  | .var k => nameOf l k
  | .len k => kLen ++ bSp ++ nameOf l k
  | .freq => kFreq

def showCK (l : List Decl) : CK → Bytes
  | .full k => kFull ++ bSp ++ nameOf l k
  | .empty k => kEmpty ++ bSp ++ nameOf l k
  | .warm k => kWarm ++ bSp ++ nameOf l k
  | .less a b => showVal l a ++ [32, 60, 32] ++ showVal l b

def showCond (l : List Decl) (c : Cond) : Bytes := (if c.nots % 2 = 1 then kNot ++ bSp else []) ++ showCK l c.k

def showTail (t : Bool) : Bytes := if t then bSp ++ kTail else []

def showPrim (l : List Decl) : Prim → Bytes
  | .put q t => kPut ++ bSp ++ nameOf l q ++ showTail t ++ kSemi
  | .evict q => kEvict ++ bSp ++ nameOf l q ++ kSemi
  | .cool q => kCool ++ bSp ++ nameOf l q ++ kSemi
  | .shift q p t => kShift ++ bSp ++ nameOf l q ++ bSp ++ nameOf l p ++ showTail t ++ kSemi
  | .inc v => kInc ++ bSp ++ nameOf l v ++ kSemi
  | .dec v => kDec ++ bSp ++ nameOf l v ++ kSemi
  | .drop => kDrop ++ kSemi
  | .bump => kBump ++ kSemi

/-- The statements of a block, a blank ahead of each. -/
def showStmts (l : List Decl) : Blk → Bytes
  | .nil => []
  | .prim p r => bSp ++ showPrim l p ++ showStmts l r
  | .ite c t o e r => bSp ++ (kIf ++ bSp ++ showCond l c ++ bSp ++ (kOpen ++ showStmts l t ++ bSp ++ kClose) ++
      (if o then bSp ++ kElse ++ bSp ++ (kOpen ++ showStmts l e ++ bSp ++ kClose) else [])) ++ showStmts l r
  | .rep n c b r => bSp ++ (kRepeat ++ bSp ++ digits n ++ bSp ++ kWhile ++ bSp ++ showCond l c ++ bSp ++ (kOpen ++ showStmts l b ++ bSp ++ kClose)) ++ showStmts l r

def showBlk (l : List Decl) (b : Blk) : Bytes := kOpen ++ showStmts l b ++ bSp ++ kClose

def kindWord (k : Nat) : Bytes := if k = 0 then kQueue else if k = 1 then kGhost else kVar

def showDecl (d : Decl) : Bytes := kindWord d.kind ++ bSp ++ d.name ++ bSp ++ digits d.max ++ [59, 10]

def showFreq (f : Int) : Bytes := if 0 < f then kFreq ++ bSp ++ digits f ++ [59, 10] else []

def showRule (p : Policy) (k : Nat) : Bytes :=
  match ruleOf p.rules (k : Int) with
  | some b => kOn ++ bSp ++ nameOf p.decls (k : Int) ++ bSp ++ showBlk p.decls b ++ [10]
  | none => []

def showRules (p : Policy) : Nat → Bytes
  | 0 => []
  | k + 1 => showRules p k ++ showRule p k

def showMiss (p : Policy) : Bytes := kOn ++ bSp ++ kMiss ++ bSp ++ showBlk p.decls ((missOf p.rules).getD .nil) ++ [10]

/-- THE ONE TEXT of a policy. -/
def text (p : Policy) : Bytes := (p.decls.map showDecl).flatten ++ showFreq p.freq ++ showRules p p.decls.length ++ showMiss p

/-! ## What a rule does -/
structure Ent where
  key : Int
  freq : Int

/-- By declaration: a sequence of entries, from the head on; a variable's value. -/
structure St where
  q : List (List Ent)
  vars : List Int

def St.queue (s : St) (k : Int) : List Ent := (s.q[k.toNat]?).getD []
def St.setQueue (s : St) (k : Int) (l : List Ent) : St := { s with q := s.q.set k.toNat l }
def St.var (s : St) (k : Int) : Int := (s.vars[k.toNat]?).getD 0

def placeFrom (key : Int) : List Ent → Nat → Option Nat
  | [], _ => none
  | e :: l, i => if e.key = key then some i else placeFrom key l (i + 1)

def whereFrom (key : Int) : List (List Ent) → Nat → Option (Nat × Nat)
  | [], _ => none
  | l :: r, k => match placeFrom key l 0 with
    | some i => some (k, i)
    | none => whereFrom key r (k + 1)

/-- The queue and the place of a key. -/
def St.find (s : St) (key : Int) : Option (Nat × Nat) := whereFrom key s.q 0

def resident (l : List Decl) (k : Int) : Bool := decide (0 ≤ k) && (declAt l k).kind == 0

def entAt (l : List Ent) (i : Nat) : Ent := (l[i]?).getD ⟨0, 0⟩

/-- A run: the state; what was evicted. -/
structure Run where
  s : St
  gone : List Int

def Run.leaves (l : List Decl) (from_ : Int) (key : Int) (r : Run) : Run :=
  if resident l from_ then { r with gone := r.gone ++ [key] } else r

/-- An entry that was in queue from (-1: nowhere) comes to another. -/
def comes (l : List Decl) (e : Ent) (from_ to_ : Int) (tail : Bool) (r : Run) : Except Nat Run :=
  if (declAt l to_).max ≤ ((r.s.queue to_).length : Int) then .error eFull
  else
    let s := r.s.setQueue to_ (if tail then r.s.queue to_ ++ [e] else e :: r.s.queue to_)
    .ok (if resident l to_ then { r with s := s } else Run.leaves l from_ e.key { r with s := s })

def St.out (s : St) (q : Nat) (i : Nat) : St := { s with q := s.q.set q (((s.q[q]?).getD []).eraseIdx i) }

def lastEnt (l : List Ent) : Ent := entAt l (l.length - 1)

def setFreq (l : List Ent) (i : Nat) (f : Int) : List Ent := l.set i { (entAt l i) with freq := f }

def prim (p : Policy) (key : Int) (x : Prim) (r : Run) : Except Nat Run :=
  match x with
  | .put q t => match r.s.find key with
    | some (k, i) => comes p.decls (entAt (r.s.queue k) i) k q t { r with s := r.s.out k i }
    | none => comes p.decls ⟨key, 0⟩ (-1) q t r
  | .drop => match r.s.find key with
    | some (k, i) => .ok (Run.leaves p.decls k key { r with s := r.s.out k i })
    | none => .ok r
  | .inc v => .ok (if r.s.var v < (declAt p.decls v).max then { r with s := { r.s with vars := r.s.vars.set v.toNat (r.s.var v + 1) } } else r)
  | .dec v => .ok (if 0 < r.s.var v then { r with s := { r.s with vars := r.s.vars.set v.toNat (r.s.var v - 1) } } else r)
  | .bump => match r.s.find key with
    | some (k, i) => .ok (if (entAt (r.s.queue k) i).freq < p.freq then
        { r with s := r.s.setQueue k (setFreq (r.s.queue k) i ((entAt (r.s.queue k) i).freq + 1)) } else r)
    | none => .ok r
  | .cool q =>
    if r.s.queue q = [] then .error eEmpty
    else .ok (if 0 < (lastEnt (r.s.queue q)).freq then
      { r with s := r.s.setQueue q (setFreq (r.s.queue q) ((r.s.queue q).length - 1) ((lastEnt (r.s.queue q)).freq - 1)) } else r)
  | .evict q =>
    if r.s.queue q = [] then .error eEmpty
    else .ok (Run.leaves p.decls q (lastEnt (r.s.queue q)).key { r with s := r.s.setQueue q (r.s.queue q).dropLast })
  | .shift q t tl =>
    if r.s.queue q = [] then .error eEmpty
    else comes p.decls (lastEnt (r.s.queue q)) q t tl { r with s := r.s.setQueue q (r.s.queue q).dropLast }

structure Cnt where
  hits : Int
  misses : Int
  evicted : Int

/-- An engine: its policy, its state, its counts. -/
structure Eng where
  p : Policy
  s : St
  n : Cnt

def Eng.new (p : Policy) : Eng := ⟨p, ⟨List.replicate p.decls.length [], List.replicate p.decls.length 0⟩, ⟨0, 0, 0⟩⟩

end Go.Proofs.YtemppijblfflgabGreatDoor.Ev
namespace Go.Proofs.YtemppijblfflgabGreatDoor.Ev

inductive Ins where
  | prim (x : Prim)
  | num (n : Int)
  | var (n : Int)
  | len (n : Int)
  | freq
  | less
  | full (n : Int)
  | warm (n : Int)
  | not
  | jump (a : Nat)
  | skip (a : Nat)
  | count (c : Nat) (n : Int)
  | again (c a : Nat)
  | fin

def Prim.op : Prim → Nat
  | .put _ false => 0
  | .put _ true => 1
  | .evict _ => 2
  | .shift _ _ false => 3
  | .shift _ _ true => 4
  | .drop => 5
  | .inc _ => 6
  | .dec _ => 6
  | .bump => 7
  | .cool _ => 8
def Prim.a : Prim → Int
  | .put q _ => q
  | .evict q => q
  | .shift q _ _ => q
  | .inc v => v
  | .dec v => v
  | .cool q => q
  | _ => 0
def Prim.b : Prim → Int
  | .shift _ p _ => p
  | .inc _ => 1
  | .dec _ => -1
  | _ => 0

def Ins.op : Ins → Nat
  | .prim x => x.op
  | .num _ => 9
  | .var _ => 10
  | .len _ => 11
  | .freq => 12
  | .less => 13
  | .full _ => 14
  | .warm _ => 15
  | .not => 16
  | .jump _ => 17
  | .skip _ => 18
  | .count _ _ => 19
  | .again _ _ => 20
  | .fin => 21
def Ins.a : Ins → Int
  | .prim x => x.a
  | .num n => n
  | .var n => n
  | .len n => n
  | .full n => n
  | .warm n => n
  | .jump a => a
  | .skip a => a
  | .count c _ => c
  | .again c _ => c
  | _ => 0
def Ins.b : Ins → Int
  | .prim x => x.b
  | .count _ n => n
  | .again _ a => a
  | _ => 0

def compVal : Val → Ins
  | .num n => .num n
  | .var n => .var n
  | .len n => .len n
  | .freq => .freq
def compCK : CK → List Ins
  | .full n => [.full n]
  | .empty n => [.len n, .num 1, .less]
  | .warm n => [.warm n]
  | .less a b => [compVal a, compVal b, .less]
def compCond (c : Cond) : List Ins := compCK c.k ++ if c.nots % 2 == 1 then [.not] else []

def Blk.loops : Blk → Nat
  | .nil => 0
  | .prim _ r => r.loops
  | .ite _ t _ e r => t.loops + e.loops + r.loops
  | .rep _ _ b r => 1 + b.loops + r.loops

/-- The steps of a block that stands at o, whose first loop is loop c. -/
def comp : Nat → Nat → Blk → List Ins
  | _, _, .nil => []
  | c, o, .prim p r => .prim p :: comp c (o + 1) r
  | c, o, .ite k t other e r =>
    let n1 := o + (compCond k).length + 1
    let T := comp c n1 t
    if other then
      let E := comp (c + t.loops) (n1 + T.length + 1) e
      compCond k ++ .skip (n1 + T.length + 1) :: (T ++ .jump (n1 + T.length + 1 + E.length) :: (E ++ comp (c + t.loops + e.loops) (n1 + T.length + 1 + E.length) r))
    else compCond k ++ .skip (n1 + T.length) :: (T ++ comp (c + t.loops) (n1 + T.length) r)
  | c, o, .rep n k b r =>
    let n1 := o + 2 + (compCond k).length + 1
    let B := comp (c + 1) n1 b
    .count c n :: .again c (n1 + B.length + 1) :: (compCond k ++ .skip (n1 + B.length + 1) :: (B ++ .jump (o + 1) :: comp (c + 1 + b.loops) (n1 + B.length + 1) r))

/-- An index of a declaration. -/
def Ix (m : Nat) (n : Int) : Prop := 0 ≤ n ∧ n < m
instance (m : Nat) (n : Int) : Decidable (Ix m n) := by unfold Ix; exact inferInstance

def PrimOk (l : List Decl) : Prim → Prop
  | .put q _ => Ix l.length q ∧ (declAt l q).kind ≠ 2
  | .evict q => Ix l.length q
  | .cool q => Ix l.length q
  | .shift q p _ => Ix l.length q ∧ Ix l.length p ∧ (declAt l p).kind ≠ 2
  | .inc v => Ix l.length v
  | .dec v => Ix l.length v
  | _ => True
instance (l : List Decl) (x : Prim) : Decidable (PrimOk l x) := by cases x <;> unfold PrimOk <;> exact inferInstance
structure VS where
  pc : Nat
  stack : List Int
  yes : Bool
  loops : List Int
  r : Run

section
variable (p : Policy) (key : Int)

variable {p key}
variable {code : List Ins}
end
end Go.Proofs.YtemppijblfflgabGreatDoor.Ev
namespace Go.Proofs.YtemppijblfflgabGreatDoor.Ev
open Go Go.RowKit

/-- code.Step -/
def encStep (i : Ins) : List Value := [.int .u8 i.op, .int .i64 i.a, .int .i64 i.b]

theorem infoStep : (Tryz.prog.info? 172).map (fun i => (i.zero, i.size, i.bytes)) = some (some (.agg #[.int .u8 0, .int .i64 0, .int .i64 0]), 3, 24) := by kernel_rfl

/-- The maker in memory: its block, its program's, its steps; what it may write lies in S. -/
structure MkR (S : Nat → Prop) (w : World) (gm gg gp bm : Nat) (vl : Value) (loops : Nat) (code : List Ins) : Prop where
  row : Row w gm 206 [.pointer (some ⟨gg, 0, none⟩), vl]
  prog : Row w gg 75 [.pointer (some ⟨gp, 0, none⟩), .map (some bm), .int .i64 loops]
  l : Sl S w 172 3 vl code.length (code.flatMap encStep)
  sm : S gm
  sg : S gg

section
variable {S : Nat → Prop} {w : World} {gm gg gp bm loops : Nat} {vl : Value} {code : List Ins}

set_option maxRecDepth 100000 in
set_option maxHeartbeats 1000000 in
theorem put_any (h : MkR S w gm gg gp bm vl loops code) (hS : Up S w) (hn : code.length ≤ 1000000) (i : Ins) :
    Calls Tryz.prog 83 #[.pointer (some ⟨gm, 0, none⟩), .agg (encStep i).toArray] w fun e w' =>
      e = .returned (.int .i64 code.length) ∧ Kept S w w' ∧ ∃ vl, MkR S w' gm gg gp bm vl loops (code ++ [i]) := by
  have c1 := h.row.cell 1
  have hgm := h.row.lt
  have f := fun j => h.row.frozen j
  simp at c1
  obtain ⟨i0, hi0, hz0, hz1, hz2⟩ := info_parts infoStep
  obtain ⟨av, cv, rfl⟩ := h.l.shape
  have W1 := h.l.alloc (.cells (encStep i).toArray 172)
  have H := Lib.hid h
  have HS := Lib.hid hS
  have HW1 := Lib.hid W1
  have hne : ¬ gm = w.heap.size := by omega
  have q3 : ∀ u ∈ encStep i, u.oneCell' = true := by intro u hu; simp [encStep] at hu; rcases hu with rfl | rfl | rfl <;> rfl
  have Q3 := Lib.hid q3
  have q4 : code.length + 1 ≤ maxLen := by unfold maxLen; omega
  have q5 : (code.length + 1) * 24 ≤ 140737488355328 := by omega
  clear h hS W1 q3
  unfold encStep at *
  go_enter Tryz.func83, Tryz.ntmps83
  go_wp2_with fail
  have b0 : (w.alloc (.cells #[.int .u8 i.op, .int .i64 i.a, .int .i64 i.b] 172)).cell? ⟨w.heap.size, 0, none⟩ = some (.int .u8 i.op) := by simp
  have b1 : (w.alloc (.cells #[.int .u8 i.op, .int .i64 i.a, .int .i64 i.b] 172)).cell? ⟨w.heap.size, 1, none⟩ = some (.int .i64 i.a) := by simp
  have b2 : (w.alloc (.cells #[.int .u8 i.op, .int .i64 i.a, .int .i64 i.b] 172)).cell? ⟨w.heap.size, 2, none⟩ = some (.int .i64 i.b) := by simp
  have b3 := (H.out.row.alloc (.cells #[.int .u8 i.op, .int .i64 i.a, .int .i64 i.b] 172)).cell 1
  simp only [List.getElem?_cons_succ, List.getElem?_cons_zero] at b3
  have r1 := H.out.row.alloc (.cells #[.int .u8 i.op, .int .i64 i.a, .int .i64 i.b] 172)
  have r2 := H.out.prog.alloc (.cells #[.int .u8 i.op, .int .i64 i.a, .int .i64 i.b] 172)
  have hsz : (w.alloc (.cells #[.int .u8 i.op, .int .i64 i.a, .int .i64 i.b] 172)).heap.size = w.heap.size + 1 := by simp
  have kw : Kept S w (w.alloc (.cells #[.int .u8 i.op, .int .i64 i.a, .int .i64 i.b] 172)) := (Kept.refl S w).alloc (HS.out _ (Nat.le_refl _)) _
  have f1 := fun j => r1.frozen j
  have hlt : ∀ b, (Value.slice av code.length cv).ownBlock = some b → b < w.heap.size := fun b hb => H.out.l.lt hb
  generalize hw1 : w.alloc (.cells #[.int .u8 i.op, .int .i64 i.a, .int .i64 i.b] 172) = w1 at *
  have p0 : ∀ b, b = gm ∨ b = gg ∨ b = w.heap.size → ¬ ((Value.slice av code.length cv).ownBlock = some b ∨ ((w1.alloc (.cells #[.int .u8 i.op, .int .i64 i.a, .int .i64 i.b] 172)).drew).heap.size ≤ b) := by
    intro b hb
    have hggl := H.out.prog.lt
    have e : ((w1.alloc (.cells #[.int .u8 i.op, .int .i64 i.a, .int .i64 i.b] 172)).drew).heap.size = w1.heap.size + 1 := by simp
    rw [e]
    rintro (h0 | h0)
    · rcases hb with rfl | rfl | rfl
      · exact H.out.l.ne_row H.out.row (by decide) h0
      · exact H.out.l.ne_row H.out.prog (by decide) h0
      · have := hlt _ h0; omega
    · rcases hb with rfl | rfl | rfl <;> omega
  have s1 := (HW1.out.alloc (.cells #[.int .u8 i.op, .int .i64 i.a, .int .i64 i.b] 172)).of_heap (w' := (w1.alloc (.cells #[.int .u8 i.op, .int .i64 i.a, .int .i64 i.b] 172)).drew) rfl
  have fz1 : (w1.alloc (.cells #[.int .u8 i.op, .int .i64 i.a, .int .i64 i.b] 172)).drew.frozen? ⟨gm, 1, none⟩ = false := (r1.alloc _).frozen 1
  have b4 : (w1.alloc (.cells #[.int .u8 i.op, .int .i64 i.a, .int .i64 i.b] 172)).drew.cell? ⟨gm, 1, none⟩ = some (.slice av code.length cv) := (r1.alloc _).cell 1
  have S1 := Lib.hid s1
  have P0 := Lib.hid p0
  have R1 := Lib.hid r1
  have R2 := Lib.hid r2
  have hwn : S ((w1.alloc (.cells #[.int .u8 i.op, .int .i64 i.a, .int .i64 i.b] 172)).drew).heap.size := HS.out _ (by simp; omega)
  have HWN := Lib.hid hwn
  have q2 := cells_new w1 [.int .u8 i.op, .int .i64 i.a, .int .i64 i.b] 172
  have Q2 := Lib.hid q2
  have HL := Lib.hid hlt
  have KW := Lib.hid kw
  have HSZ := Lib.hid hsz
  clear hsz s1 p0 r1 r2 hwn q2 hlt kw hw1
  have hfin : ∀ (g2 cap2 : Nat) (w2 : World), Sl S w2 172 3 (.slice (some ⟨g2, 0, none⟩) (code.length + 1) cap2) (code.length + 1) (code.flatMap encStep ++ encStep i) →
      Kept (fun b => (Value.slice av code.length cv).ownBlock = some b ∨ ((w1.alloc (.cells #[.int .u8 i.op, .int .i64 i.a, .int .i64 i.b] 172)).drew).heap.size ≤ b) ((w1.alloc (.cells #[.int .u8 i.op, .int .i64 i.a, .int .i64 i.b] 172)).drew) w2 →
      Kept S w (w2.setCell ⟨gm, 1, none⟩ (.slice (some ⟨g2, 0, none⟩) (code.length + 1) cap2)) ∧ MkR S (w2.setCell ⟨gm, 1, none⟩ (.slice (some ⟨g2, 0, none⟩) (code.length + 1) cap2)) gm gg gp bm (.slice (some ⟨g2, 0, none⟩) (code.length + 1) cap2) loops (code ++ [i]) := by
    intro g2 cap2 w2 hs2 hk2
    have hS' : Up S w1 := HS.out.kept KW.out
    have k1 : Kept S w ((w1.alloc (.cells #[.int .u8 i.op, .int .i64 i.a, .int .i64 i.b] 172)).drew) := (KW.out.alloc (hS' _ (Nat.le_refl _)) _).drew
    have k2 : Kept S w w2 := k1.trans (hk2.mono (fun b hb => by
      rcases hb with hb | hb
      · exact H.out.l.2 b hb
      · exact hS' b (Nat.le_trans (by simp) hb)))
    have rm := ((R1.out.alloc (.cells #[.int .u8 i.op, .int .i64 i.a, .int .i64 i.b] 172)).drew).kept hk2 (P0.out gm (.inl rfl))
    have rg := ((R2.out.alloc (.cells #[.int .u8 i.op, .int .i64 i.a, .int .i64 i.b] 172)).drew).kept hk2 (P0.out gg (.inr (.inl rfl)))
    have hk3 : Kept (fun b => b = gm) w2 (w2.setCell ⟨gm, 1, none⟩ (.slice (some ⟨g2, 0, none⟩) (code.length + 1) cap2)) := Kept.one w2 ⟨gm, 1, none⟩ _
    have el : (code ++ [i]).length = code.length + 1 := by simp
    have ex : (code ++ [i]).flatMap encStep = code.flatMap encStep ++ encStep i := by simp
    refine ⟨k2.setCell (p := ⟨gm, 1, none⟩) H.out.sm _, rm.set_ 1 _, rg.kept hk3 (fun e => rg.ne_ rm (by decide) e), ?_, H.out.sm, H.out.sg⟩
    rw [el, ex]
    exact hs2.kept hk3 (fun b hb e => hs2.ne_row rm (by decide) (e ▸ hb))
  have HF := Lib.hid hfin
  clear hfin
  go_region_law (first
    | (refine step_append1 Tryz.underlying165 hi0 hz0 hz1 hz2 rfl (by decide) S1.out HWN.out rfl _ _ (by rfl) (by rfl) ⟨w1.heap.size, 0, none⟩ 1 1 [.int .u8 i.op, .int .i64 i.a, .int .i64 i.b] (by rfl) (by rfl) Q2.out Q3.out q4 q5 (by omega) ?_; intro g2 cap2 w2 hs2 hk2 hloc; have e1 := (hk2.cell (p := ⟨gm, 1, none⟩) (P0.out _ (.inl rfl))).trans b4; have e2 := (hk2.frozen (p := ⟨gm, 1, none⟩) (P0.out _ (.inl rfl))).trans fz1; have Hs2 := Lib.hid hs2; have Hk2 := Lib.hid hk2; clear hs2 hk2 hloc))
  all_goals
    go_wp2
    go_ret
    have hf := HF.out g2 cap2 w2 Hs2.out Hk2.out
    exact ⟨rfl, hf.1, _, hf.2⟩
end
end Go.Proofs.YtemppijblfflgabGreatDoor.Ev
namespace Go.Proofs.YtemppijblfflgabGreatDoor.Ev
open Go Go.RowKit

/-- The cells of policy.reader. -/
def rdCells (s : Bytes) (st : PS) (gp : Nat) (wp : Value) : List Value :=
  [vs s, .int .i64 st.i, vs st.t.kind, vs st.t.text, .int .i64 st.t.pos, .pointer (some ⟨gp, 0, none⟩), .bool st.fseen, .int .i64 st.depth, .int .i64 st.loops, wp]

theorem skip_le (p : UInt8 → Bool) (s : Bytes) (i : Nat) (h : i ≤ s.length) : i ≤ skip p s i ∧ skip p s i ≤ s.length := by
  unfold skip
  have h1 := List.takeWhile_sublist (p := p) (l := s.drop i)
  have h2 := h1.length_le
  rw [List.length_drop] at h2
  omega

theorem skip_step (p : UInt8 → Bool) (s : Bytes) (i : Nat) (c : UInt8) (h : s[i]? = some c) : skip p s i = if p c then skip p s (i + 1) else i := by
  obtain ⟨hi, hc⟩ := List.getElem?_eq_some_iff.1 h
  unfold skip
  rw [List.drop_eq_getElem_cons hi, hc]
  by_cases hp : p c
  · simp [hp]; omega
  · simp only [Bool.not_eq_true] at hp
    simp [hp]

theorem skip_end (p : UInt8 → Bool) (s : Bytes) (i : Nat) (h : s[i]? = none) : skip p s i = i := by
  unfold skip
  have : s.length ≤ i := by simpa using h
  rw [List.drop_eq_nil_of_le this]
  simp

theorem size_vs (s : Bytes) : (ByteArray.mk s.toArray).size = s.length := List.size_toArray
end Go.Proofs.YtemppijblfflgabGreatDoor.Ev
namespace Go.Proofs.YtemppijblfflgabGreatDoor.Ev
open Go Go.RowKit

def encDecl (d : Decl) : List Value := [.int .i64 d.kind, vs d.name, .int .i64 d.max]

/-- The package-level variable that holds error number k. -/
def errGlobal (k : Nat) : Nat :=
  if k = 1 then 0 else if k = 2 then 6 else if k = 3 then 7 else if k = 4 then 8 else if k = 5 then 9 else if k = 6 then 10
  else if k = 7 then 11 else if k = 8 then 12 else if k = 9 then 13 else if k = 10 then 1 else if k = 11 then 4 else 5

def errV (ea : Nat → Addr) (k : Nat) : Value := .iface 304 (.pointer (some (ea k)))

/-- What the package-level variables hold: errors (at ea k), words; all below block B. -/
structure Env (B : Nat) (ea : Nat → Addr) (w : World) : Prop where
  size : B ≤ w.heap.size
  err : ∀ k, 1 ≤ k → k ≤ 12 → w.cell? ⟨errGlobal k, 0, none⟩ = some (errV ea k)
  lt : ∀ k, 1 ≤ k → k ≤ 12 → errGlobal k < B
  kw : ∀ j, j < 24 → w.cell? ⟨14, j, none⟩ = some (vs (keywords.getD j []))
  kwlt : 14 < B

/-- What was wrong first. -/
def WrongR (B : Nat) (ea : Nat → Addr) (w : World) (wp : Value) : Option (Nat × Nat) → Prop
  | none => wp = .pointer none
  | some (k, pos) => ∃ gf, wp = .pointer (some ⟨gf, 0, none⟩) ∧ B ≤ gf ∧ Row w gf 129 [errV ea k, .int .i64 pos]

/-- The rules. -/
def RulesR (N : Nat → Prop) (w : World) (bm : Nat) (rules : List (Int × Blk)) : Prop :=
  ∃ M : IMap, IsMap w bm .i64 M ∧ M.map (·.1) = rules.map (·.1) ∧ ∀ (i : Nat) (x : Int × Value) (y : Int × Blk), M[i]? = some x → rules[i]? = some y → BlkV N w x.2 y.2

/-- A policy in memory. -/
structure PolR (B : Nat) (w : World) (gp bm : Nat) (vd : Value) (p : Policy) : Prop where
  row : Row w gp 106 [vd, .int .i64 p.freq, .map (some bm)]
  decls : Sl (fun b => B ≤ b) w 102 3 vd p.decls.length (p.decls.flatMap encDecl)
  rules : RulesR (fun b => B ≤ b) w bm p.rules
  gp0 : B ≤ gp
  bm0 : B ≤ bm

/-- A rule's steps, as they stand: from loop c on. -/
def ruleCode (c : Nat) (b : Blk) : List Ins := comp c 0 b ++ [.fin]

/-- A rule's steps in memory. -/
def RuleC (S : Nat → Prop) (w : World) (rules : List (Int × Blk)) (loops : Nat) (k : Int) (v : Value) : Prop :=
  ∃ b c, ruleOf rules k = some b ∧ Sl S w 172 3 v (ruleCode c b).length ((ruleCode c b).flatMap encStep) ∧ c + b.loops ≤ loops

/-- A program in memory. -/
structure CodeR (S : Nat → Prop) (w : World) (gg gp bc loops : Nat) (rules : List (Int × Blk)) : Prop where
  row : Row w gg 75 [.pointer (some ⟨gp, 0, none⟩), .map (some bc), .int .i64 loops]
  map : ∃ M : IMap, IsMap w bc .i64 M ∧ ∀ k, match ruleOf rules k with
    | some _ => ∃ v, mget M k = some v ∧ RuleC S w rules loops k v
    | none => mget M k = none
  lo : loops ≤ 490000
  sg : S gg
  sm : S bc

end Go.Proofs.YtemppijblfflgabGreatDoor.Ev
namespace Go.Proofs.YtemppijblfflgabGreatDoor.Ev

/-- Nodes linked from p on to s. -/
def Dll (nd : Nat → Node) : Nat → List Nat → Nat → Prop
  | _, [], _ => True
  | p, x :: r, s => (nd x).prev = p ∧ (nd x).next = r.headD s ∧ Dll nd x r s

theorem Dll.congr {nd nd' : Nat → Node} : ∀ {l : List Nat} {p s : Nat}, (∀ m ∈ l, (nd' m).prev = (nd m).prev ∧ (nd' m).next = (nd m).next) → Dll nd p l s → Dll nd' p l s
  | [], _, _, _, _ => trivial
  | x :: r, p, s, h, ⟨a, b, c⟩ => ⟨(h x (by simp)).1.trans a, (h x (by simp)).2.trans b, Dll.congr (fun m hm => h m (by simp [hm])) c⟩

theorem headD_append (a b : List Nat) (s : Nat) : (a ++ b).headD s = a.headD (b.headD s) := by cases a <;> simp
theorem getLastD_cons2 (x : Nat) (r : List Nat) (p : Nat) : (x :: r).getLastD p = r.getLastD x := by
  cases r with
  | nil => rfl
  | cons y r => rfl

theorem Dll.append {nd : Nat → Node} : ∀ {a b : List Nat} {p s : Nat}, Dll nd p (a ++ b) s ↔ Dll nd p a (b.headD s) ∧ Dll nd (a.getLastD p) b s
  | [], b, p, s => by simp [Dll]
  | x :: r, b, p, s => by
    rw [getLastD_cons2]
    simp only [List.cons_append, Dll, headD_append, Dll.append (a := r) (b := b), and_assoc]

/-- The last one's next, set. -/
theorem Dll.setLast {nd nd' : Nat → Node} {a s s' : Nat} : ∀ {l : List Nat} {p : Nat}, (∀ m, m ≠ a → nd' m = nd m) → (nd' a).prev = (nd a).prev → (nd' a).next = s' → (l ++ [a]).Nodup →
    Dll nd p (l ++ [a]) s → Dll nd' p (l ++ [a]) s'
  | [], p, h1, h2, h3, _, ⟨x, _, _⟩ => ⟨h2.trans x, h3, trivial⟩
  | x :: r, p, h1, h2, h3, hn, h => by
    have hx : x ≠ a := by
      rintro rfl
      simp at hn
    obtain ⟨y1, y2, y3⟩ := h
    have hn' : (r ++ [a]).Nodup := (List.nodup_cons.1 hn).2
    have e : (r ++ [a]).headD s' = (r ++ [a]).headD s := by cases r <;> simp
    exact ⟨by rw [h1 x hx]; exact y1, by rw [h1 x hx]; exact y2.trans e.symm, Dll.setLast h1 h2 h3 hn' y3⟩

/-- The first one's prev, set. -/
theorem Dll.setHead {nd nd' : Nat → Node} {b p p' s : Nat} {r : List Nat} (h1 : ∀ m, m ≠ b → nd' m = nd m) (h2 : (nd' b).prev = p') (h3 : (nd' b).next = (nd b).next) (hn : b ∉ r) (h : Dll nd p (b :: r) s) : Dll nd' p' (b :: r) s := by
  obtain ⟨_, y2, y3⟩ := h
  exact ⟨h2, h3.trans y2, Dll.congr (fun m hm => by rw [h1 m (fun e => hn (e ▸ hm))]; exact ⟨rfl, rfl⟩) y3⟩

section
variable {A : Arena}
theorem node_set {a : Nat} (h : a < A.l.length) (x : Node) (m : Nat) : (A.setNode a x).node m = if m = a then x else A.node m := by
  unfold Arena.setNode Arena.node
  simp only [List.getElem?_set]
  by_cases e : m = a
  · subst e; simp [h]
  · rw [if_neg (fun h => e h.symm), if_neg e]
theorem ends_set {a : Nat} (h : a < A.qs.length) (x : Ends) (m : Nat) : (A.setEnds a x).ends m = if m = a then x else A.ends m := by
  unfold Arena.setEnds Arena.ends
  simp only [List.getElem?_set]
  by_cases e : m = a
  · subst e; simp [h]
  · rw [if_neg (fun h => e h.symm), if_neg e]
theorem setNode_l (a : Nat) (x : Node) : (A.setNode a x).l.length = A.l.length := by simp [Arena.setNode]
theorem setEnds_q (a : Nat) (x : Ends) : (A.setEnds a x).qs.length = A.qs.length := by simp [Arena.setEnds]

/-- Links within bounds. -/
structure Arena.Bd (A : Arena) : Prop where
  node : ∀ (n : Nat) (x : Node), A.l[n]? = some x → x.prev < A.l.length ∧ x.next < A.l.length ∧ x.q ≤ A.qs.length ∧ 0 ≤ x.freq ∧ x.freq ≤ 1000
  ends : ∀ (q : Nat) (x : Ends), A.qs[q]? = some x → x.head < A.l.length ∧ x.tail < A.l.length ∧ x.n ≤ 1000000

theorem Arena.Bd.at_ (h : A.Bd) {n : Nat} (hn : n < A.l.length) : (A.node n).prev < A.l.length ∧ (A.node n).next < A.l.length ∧ (A.node n).q ≤ A.qs.length ∧ 0 ≤ (A.node n).freq ∧ (A.node n).freq ≤ 1000 :=
  h.node n _ (by unfold Arena.node; rw [List.getElem?_eq_getElem hn]; rfl)
theorem Arena.Bd.of_q (h : A.Bd) {n : Nat} (hn : n < A.qs.length) : (A.ends n).head < A.l.length ∧ (A.ends n).tail < A.l.length ∧ (A.ends n).n ≤ 1000000 :=
  h.ends n _ (by unfold Arena.ends; rw [List.getElem?_eq_getElem hn]; rfl)
theorem Arena.Bd.setNode (h : A.Bd) (a : Nat) (x : Node) (hx : x.prev < A.l.length ∧ x.next < A.l.length ∧ x.q ≤ A.qs.length ∧ 0 ≤ x.freq ∧ x.freq ≤ 1000) : (A.setNode a x).Bd := by
  refine ⟨fun n y hy => ?_, fun q y hy => ?_⟩
  · rw [setNode_l]
    have hy' : (A.l.set a x)[n]? = some y := hy
    rw [List.getElem?_set] at hy'
    split at hy'
    · split at hy'
      · injection hy' with hy'; subst hy'; exact hx
      · cases hy'
    · exact h.node n y hy'
  · rw [setNode_l]
    exact h.ends q y hy
theorem Arena.Bd.setEnds (h : A.Bd) (a : Nat) (x : Ends) (hx : x.head < A.l.length ∧ x.tail < A.l.length ∧ x.n ≤ 1000000) : (A.setEnds a x).Bd := by
  refine ⟨fun n y hy => ?_, fun q y hy => ?_⟩
  · rw [setEnds_q]; exact h.node n y hy
  · have hy' : (A.qs.set a x)[q]? = some y := hy
    rw [List.getElem?_set] at hy'
    split at hy'
    · split at hy'
      · injection hy' with hy'; subst hy'; exact hx
      · cases hy'
    · exact h.ends q y hy'

/-- All but the links stands. -/
structure Like (A A' : Arena) : Prop where
  l : A'.l.length = A.l.length
  q : A'.qs.length = A.qs.length
  free : A'.free = A.free
  at_ : A'.at_ = A.at_
  node : ∀ m, (A'.node m).key = (A.node m).key ∧ (A'.node m).freq = (A.node m).freq ∧ (A'.node m).q = (A.node m).q
theorem Like.trans {A B C : Arena} (h : Like A B) (k : Like B C) : Like A C :=
  ⟨k.l.trans h.l, k.q.trans h.q, k.free.trans h.free, k.at_.trans h.at_, fun m => ⟨(k.node m).1.trans (h.node m).1, (k.node m).2.1.trans (h.node m).2.1, (k.node m).2.2.trans (h.node m).2.2⟩⟩
theorem Like.setEnds (A : Arena) (a : Nat) (x : Ends) : Like A (A.setEnds a x) := ⟨rfl, setEnds_q _ _, rfl, rfl, fun _ => ⟨rfl, rfl, rfl⟩⟩
theorem Like.setNode {a : Nat} (h : a < A.l.length) (x : Node) (hx : x.key = (A.node a).key ∧ x.freq = (A.node a).freq ∧ x.q = (A.node a).q) : Like A (A.setNode a x) :=
  ⟨setNode_l _ _, rfl, rfl, rfl, fun m => by
    rw [node_set h]
    split
    · rename_i e; subst e; exact hx
    · exact ⟨rfl, rfl, rfl⟩⟩

theorem last_zero {l : List Nat} (h0 : ∀ m ∈ l, m ≠ 0) (h : l.getLastD 0 = 0) : l = [] := by
  rcases List.eq_nil_or_concat l with h1 | ⟨l0, a, h1⟩
  · exact h1
  · rw [List.concat_eq_append] at h1
    rw [h1] at h
    simp at h
    exact absurd h (h0 a (by rw [h1]; simp))
theorem head_zero {l : List Nat} (h0 : ∀ m ∈ l, m ≠ 0) (h : l.headD 0 = 0) : l = [] := by
  cases l with
  | nil => rfl
  | cons x r => exact absurd h (h0 x (by simp))

/-- What link makes of the chain of its queue. -/
structure Linked (A A' : Arena) (n k : Nat) (l : List Nat) : Prop where
  len : A'.l.length = A.l.length
  q : A'.qs.length = A.qs.length
  free : A'.free = A.free
  at_ : A'.at_ = A.at_
  node : ∀ m, (A'.node m).key = (A.node m).key ∧ (A'.node m).freq = (A.node m).freq ∧ (A'.node m).q = if m = n then (k : Int) else (A.node m).q
  bd : A'.Bd
  dll : Dll A'.node 0 l 0
  head : (A'.ends k).head = l.headD 0
  tail : (A'.ends k).tail = l.getLastD 0
  n : (A'.ends k).n = (A.ends k).n + 1
  others : ∀ m, m ≠ k → A'.ends m = A.ends m
  far : ∀ m, m ∉ l → A'.node m = A.node m

theorem linked (hb : A.Bd) {k n : Nat} {l : List Nat} (tl : Bool) (hk : k < A.qs.length) (hm : ∀ m ∈ l, m ≠ 0 ∧ m < A.l.length) (hn : n ≠ 0 ∧ n < A.l.length) (hnl : n ∉ l) (hd : Dll A.node 0 l 0) (hnd : l.Nodup)
    (hh : (A.ends k).head = l.headD 0) (ht : (A.ends k).tail = l.getLastD 0) (h1000 : (A.ends k).n + 1 ≤ 1000000) : Linked A (A.link n k tl) n k (if tl then l ++ [n] else n :: l) := by
  have eb := hb.of_q hk
  have nb := hb.at_ hn.2
  have k0 : ∀ m, ((A.setNode n (linkNode A n k tl)).node m).key = (A.node m).key ∧ ((A.setNode n (linkNode A n k tl)).node m).freq = (A.node m).freq ∧ ((A.setNode n (linkNode A n k tl)).node m).q = if m = n then (k : Int) else (A.node m).q := by
    intro m
    rw [node_set hn.2]
    split
    · rename_i e; subst e; exact ⟨rfl, rfl, rfl⟩
    · exact ⟨rfl, rfl, rfl⟩
  have b0 : (A.setNode n (linkNode A n k tl)).Bd := by
    refine hb.setNode _ _ ⟨?_, ?_, ?_, nb.2.2.2⟩
    · unfold linkNode; cases tl <;> simp <;> omega
    · unfold linkNode; cases tl <;> simp <;> omega
    · show (k : Int) ≤ _; omega
  have d0 : Dll (A.setNode n (linkNode A n k tl)).node 0 l 0 := Dll.congr (fun m hm => by rw [node_set hn.2, if_neg (fun (e : m = n) => hnl (e ▸ hm))]; exact ⟨rfl, rfl⟩) hd
  have n0 : (A.setNode n (linkNode A n k tl)).node n = linkNode A n k tl := by rw [node_set hn.2, if_pos rfl]
  have l0 : (A.setNode n (linkNode A n k tl)).l.length = A.l.length := setNode_l _ _
  have far0 : ∀ m, m ≠ n → (A.setNode n (linkNode A n k tl)).node m = A.node m := fun m hm => by rw [node_set hn.2, if_neg hm]
  have hx : A.link n k tl = (((A.setNode n (linkNode A n k tl)).link1 n k (linkNode A n k tl)).link2 n k (linkNode A n k tl)).link3 k := rfl
  rw [hx]
  have q0 : (A.setNode n (linkNode A n k tl)).qs.length = A.qs.length := rfl
  have fr0 : (A.setNode n (linkNode A n k tl)).free = A.free := rfl
  have at0 : (A.setNode n (linkNode A n k tl)).at_ = A.at_ := rfl
  have en0 : ∀ m, (A.setNode n (linkNode A n k tl)).ends m = A.ends m := fun _ => rfl
  have xp : (linkNode A n k tl).prev = if tl then l.getLastD 0 else 0 := by unfold linkNode; simp [ht]
  have xn : (linkNode A n k tl).next = if tl then 0 else l.headD 0 := by unfold linkNode; simp [hh]
  generalize A.setNode n (linkNode A n k tl) = B at *
  generalize linkNode A n k tl = x at *
  have hkB : k < B.qs.length := by omega
  have hnB : n < B.l.length := by omega
  -- the two stores
  suffices H : ∀ C : Arena, C = (B.link1 n k x).link2 n k x → Like B C ∧ C.Bd ∧ Dll C.node 0 (if tl then l ++ [n] else n :: l) 0 ∧ (C.ends k).head = (if tl then l ++ [n] else n :: l).headD 0 ∧ (C.ends k).tail = (if tl then l ++ [n] else n :: l).getLastD 0 ∧
      (C.ends k).n = (B.ends k).n ∧ (∀ m, m ≠ k → C.ends m = B.ends m) ∧ (∀ m, m ∉ n :: l → C.node m = B.node m) by
    obtain ⟨c1, c2, c3, c4, c5, c6, c7, c8⟩ := H _ rfl
    generalize (B.link1 n k x).link2 n k x = C at *
    have hkC : k < C.qs.length := by rw [c1.q]; exact hkB
    have ec := c2.of_q hkC
    unfold Arena.link3
    refine ⟨c1.l.trans l0, (setEnds_q _ _).trans (c1.q.trans q0), c1.free.trans fr0, c1.at_.trans at0, ?_, c2.setEnds _ _ ⟨ec.1, ec.2.1, by show (C.ends k).n + 1 ≤ _; rw [c6, en0]; exact h1000⟩, c3, ?_, ?_, ?_, ?_, ?_⟩
    · intro m
      have h1 := c1.node m
      have h2 := k0 m
      exact ⟨h1.1.trans h2.1, h1.2.1.trans h2.2.1, h1.2.2.trans h2.2.2⟩
    · rw [ends_set hkC, if_pos rfl]; exact c4
    · rw [ends_set hkC, if_pos rfl]; exact c5
    · rw [ends_set hkC, if_pos rfl]; show (C.ends k).n + 1 = _; rw [c6, en0]
    · intro m hmk; rw [ends_set hkC, if_neg hmk, c7 m hmk, en0]
    · intro m hml
      have hml' : m ∉ n :: l := by
        intro h; apply hml
        cases tl with
        | false => exact h
        | true => rcases List.mem_cons.1 h with h | h <;> simp [h]
      show C.node m = _
      rw [c8 m hml', far0 m (fun e => hml' (by simp [e]))]
  intro C hC
  cases tl with
  | false =>
    simp only [Bool.false_eq_true, if_false] at xp xn ⊢
    have e1 : B.link1 n k x = B.setEnds k { (B.ends k) with head := n } := by unfold Arena.link1; rw [if_pos xp]
    rw [e1] at hC
    have ebB := b0.of_q hkB
    have b1 : (B.setEnds k { (B.ends k) with head := n }).Bd := b0.setEnds _ _ ⟨hnB, ebB.2⟩
    have hk1 : k < (B.setEnds k { (B.ends k) with head := n }).qs.length := by rw [setEnds_q]; exact hkB
    by_cases hz : x.next = 0
    · have hl : l = [] := head_zero (fun m h => (hm m h).1) (xn.symm.trans hz)
      subst hl
      have e2 : C = (B.setEnds k { (B.ends k) with head := n }).setEnds k { ((B.setEnds k { (B.ends k) with head := n }).ends k) with tail := n } := by rw [hC]; unfold Arena.link2; rw [if_pos hz]
      subst e2
      have eb1 := b1.of_q hk1
      refine ⟨(Like.setEnds _ _ _).trans (Like.setEnds _ _ _), b1.setEnds _ _ ⟨eb1.1, hnB, eb1.2.2⟩, ?_, ?_, ?_, ?_, ?_, fun _ _ => rfl⟩
      · exact ⟨by show (B.node n).prev = 0; rw [n0]; exact xp, by show (B.node n).next = 0; rw [n0]; exact hz, trivial⟩
      · rw [ends_set hk1, if_pos rfl]; show ((B.setEnds k _).ends k).head = _; rw [ends_set hkB, if_pos rfl]; rfl
      · rw [ends_set hk1, if_pos rfl]; rfl
      · rw [ends_set hk1, if_pos rfl]; show ((B.setEnds k _).ends k).n = _; rw [ends_set hkB, if_pos rfl]
      · intro m hmk; rw [ends_set hk1, if_neg hmk, ends_set hkB, if_neg hmk]
    · obtain ⟨b, r, hl⟩ : ∃ b r, l = b :: r := by
        cases l with
        | nil => exact absurd xn hz
        | cons b r => exact ⟨b, r, rfl⟩
      have hxb : x.next = b := by rw [xn, hl]; rfl
      have hbm := hm b (by rw [hl]; simp)
      have hbB : b < B.l.length := by omega
      have hbn : b ≠ n := fun e => hnl (by rw [← e, hl]; simp)
      have e2 : C = (B.setEnds k { (B.ends k) with head := n }).setNode b { (B.node b) with prev := n } := by rw [hC]; unfold Arena.link2; rw [if_neg hz, hxb]; rfl
      subst e2
      have bb := b0.at_ hbB
      have ns : ∀ m, ((B.setEnds k { (B.ends k) with head := n }).setNode b { (B.node b) with prev := n }).node m = if m = b then { (B.node b) with prev := n } else B.node m := fun m => node_set (A := B.setEnds k { (B.ends k) with head := n }) hbB _ m
      refine ⟨(Like.setEnds B k { (B.ends k) with head := n }).trans (Like.setNode (A := B.setEnds k { (B.ends k) with head := n }) hbB { (B.node b) with prev := n } ⟨rfl, rfl, rfl⟩), b1.setNode _ _ ⟨hnB, bb.2.1, by rw [setEnds_q]; exact bb.2.2.1, bb.2.2.2⟩, ?_, ?_, ?_, ?_, ?_, ?_⟩
      · refine ⟨?_, ?_, ?_⟩
        · rw [ns, if_neg (fun e => hbn e.symm), n0]; exact xp
        · rw [ns, if_neg (fun e => hbn e.symm), n0]; exact xn
        · rw [hl] at d0 ⊢
          refine Dll.setHead (nd := B.node) (fun m hm => by rw [ns, if_neg hm]) ?_ ?_ ?_ d0
          · rw [ns, if_pos rfl]
          · rw [ns, if_pos rfl]
          · rw [hl] at hnd; exact (List.nodup_cons.1 hnd).1
      · show ((B.setEnds k _).ends k).head = _; rw [ends_set hkB, if_pos rfl]; rfl
      · show ((B.setEnds k _).ends k).tail = _; rw [ends_set hkB, if_pos rfl]
        show (B.ends k).tail = _
        rw [en0, ht, getLastD_cons2, hl, getLastD_cons2, getLastD_cons2]
      · show ((B.setEnds k _).ends k).n = _; rw [ends_set hkB, if_pos rfl]
      · intro m hmk; show (B.setEnds k _).ends m = _; rw [ends_set hkB, if_neg hmk]
      · intro m hml
        rw [ns, if_neg (fun e => hml (by rw [e, hl]; simp))]
  | true =>
    simp only [if_true] at xp xn ⊢
    have e2 : ∀ D : Arena, D.link2 n k x = D.setEnds k { (D.ends k) with tail := n } := by intro D; unfold Arena.link2; rw [if_pos xn]
    rw [e2] at hC
    by_cases hz : x.prev = 0
    · have hl : l = [] := last_zero (fun m h => (hm m h).1) (xp.symm.trans hz)
      subst hl
      have e1 : B.link1 n k x = B.setEnds k { (B.ends k) with head := n } := by unfold Arena.link1; rw [if_pos hz]
      rw [e1] at hC
      subst hC
      have ebB := b0.of_q hkB
      have b1 : (B.setEnds k { (B.ends k) with head := n }).Bd := b0.setEnds _ _ ⟨hnB, ebB.2⟩
      have hk1 : k < (B.setEnds k { (B.ends k) with head := n }).qs.length := by rw [setEnds_q]; exact hkB
      have eb1 := b1.of_q hk1
      refine ⟨(Like.setEnds _ _ _).trans (Like.setEnds _ _ _), b1.setEnds _ _ ⟨eb1.1, hnB, eb1.2.2⟩, ?_, ?_, ?_, ?_, ?_, fun _ _ => rfl⟩
      · exact ⟨by show (B.node n).prev = 0; rw [n0]; exact hz, by show (B.node n).next = 0; rw [n0]; exact xn, trivial⟩
      · rw [ends_set hk1, if_pos rfl]; show ((B.setEnds k _).ends k).head = _; rw [ends_set hkB, if_pos rfl]; rfl
      · rw [ends_set hk1, if_pos rfl]; rfl
      · rw [ends_set hk1, if_pos rfl]; show ((B.setEnds k _).ends k).n = _; rw [ends_set hkB, if_pos rfl]
      · intro m hmk; rw [ends_set hk1, if_neg hmk, ends_set hkB, if_neg hmk]
    · obtain ⟨r, b, hl⟩ : ∃ r b, l = r ++ [b] := by
        rcases List.eq_nil_or_concat l with h1 | ⟨l0, a, h1⟩
        · rw [h1] at xp; exact absurd xp hz
        · exact ⟨l0, a, by rw [h1, List.concat_eq_append]⟩
      have hxb : x.prev = b := by rw [xp, hl]; simp
      have hbm := hm b (by rw [hl]; simp)
      have hbB : b < B.l.length := by omega
      have hbn : b ≠ n := fun e => hnl (by rw [← e, hl]; simp)
      have e1 : B.link1 n k x = B.setNode b { (B.node b) with next := n } := by unfold Arena.link1; rw [if_neg hz, hxb]
      rw [e1] at hC
      subst hC
      have bb := b0.at_ hbB
      have b1 : (B.setNode b { (B.node b) with next := n }).Bd := b0.setNode _ _ ⟨bb.1, hnB, bb.2.2⟩
      have eb1 := b1.of_q (n := k) hkB
      have ns : ∀ m, (B.setNode b { (B.node b) with next := n }).node m = if m = b then { (B.node b) with next := n } else B.node m := fun m => node_set hbB _ m
      have ek : ∀ y m, ((B.setNode b { (B.node b) with next := n }).setEnds k y).ends m = if m = k then y else B.ends m := fun y m => ends_set (A := B.setNode b { (B.node b) with next := n }) hkB y m
      refine ⟨(Like.setNode hbB { (B.node b) with next := n } ⟨rfl, rfl, rfl⟩).trans (Like.setEnds _ _ _), b1.setEnds _ _ ⟨eb1.1, by rw [setNode_l]; exact hnB, eb1.2.2⟩, ?_, ?_, ?_, ?_, ?_, ?_⟩
      · show Dll (B.setNode b { (B.node b) with next := n }).node 0 (l ++ [n]) 0
        refine Dll.append.2 ⟨?_, ?_⟩
        · rw [hl] at d0 ⊢
          refine Dll.setLast (nd := B.node) (s := 0) (s' := n) (fun m hm => by rw [ns, if_neg hm]) ?_ ?_ ?_ d0
          · rw [ns, if_pos rfl]
          · rw [ns, if_pos rfl]
          · rw [← hl]; exact hnd
        · refine ⟨?_, ?_, trivial⟩
          · rw [ns, if_neg (fun e => hbn e.symm), n0]; exact xp
          · rw [ns, if_neg (fun e => hbn e.symm), n0]; exact xn
      · rw [ek, if_pos rfl]
        show (B.ends k).head = _
        rw [en0, hh, hl]
        simp [headD_append]
      · rw [ek, if_pos rfl]; simp
      · rw [ek, if_pos rfl]; rfl
      · intro m hmk; rw [ek, if_neg hmk]
      · intro m hml
        show (B.setNode b _).node m = _
        rw [ns, if_neg (fun e => hml (by rw [e, hl]; simp))]
end
end Go.Proofs.YtemppijblfflgabGreatDoor.Ev
namespace Go.Proofs.YtemppijblfflgabGreatDoor.Ev

def entOf (A : Arena) (n : Nat) : Ent := ⟨(A.node n).key, (A.node n).freq⟩

/-- The arena A, whose queues are the chains ns, stands for the sequences qs. -/
structure AInv (A : Arena) (ns : List (List Nat)) (qs : List (List Ent)) : Prop where
  bd : A.Bd
  len : ns.length = A.qs.length
  q8 : A.qs.length ≤ 8
  ends : ∀ (k : Nat) l, ns[k]? = some l → (A.ends k).head = l.headD 0 ∧ (A.ends k).tail = l.getLastD 0 ∧ (A.ends k).n = l.length
  dll : ∀ (k : Nat) l, ns[k]? = some l → Dll A.node 0 l 0
  mem : ∀ (k : Nat) l, ns[k]? = some l → ∀ n ∈ l, n ≠ 0 ∧ n < A.l.length ∧ (A.node n).q = k
  nodup : ∀ (k : Nat) l, ns[k]? = some l → l.Nodup
  fifty : ∀ (k : Nat) l, ns[k]? = some l → l.length ≤ 50
  ent : qs = ns.map (fun l => l.map (entOf A))
  idx : ∀ key n, A.idx key = some n ↔ ∃ (k : Nat) (l : List Nat), ns[k]? = some l ∧ n ∈ l ∧ (A.node n).key = key
  atn : (A.at_.map (·.1)).Nodup
  free : ∀ n ∈ A.free, n ≠ 0 ∧ n < A.l.length ∧ (A.node n).q = -1
  freen : A.free.Nodup
  cnt : A.l.length = 1 + (ns.map List.length).sum + A.free.length
  lb : A.l.length ≤ 1 + 50 * A.qs.length

section
variable {A : Arena} {ns : List (List Nat)} {qs : List (List Ent)}

theorem AInv.new (n : Nat) (hn : n ≤ 8) : AInv ⟨[⟨0, 0, 0, 0, 0⟩], [], List.replicate n ⟨0, 0, 0⟩, []⟩ (List.replicate n []) (List.replicate n []) := by
  have rep : ∀ (k : Nat) (l : List Nat), (List.replicate n ([] : List Nat))[k]? = some l → l = [] ∧ k < n := by
    intro k l h
    rw [List.getElem?_replicate] at h
    split at h
    · injection h with h; exact ⟨h.symm, by assumption⟩
    · cases h
  refine ⟨⟨?_, ?_⟩, by simp, by simpa using hn, ?_, ?_, ?_, ?_, ?_, by simp, ?_, by simp, by simp, by simp, by simp, by simp⟩
  · intro m x hx
    cases m with
    | zero => 
      simp at hx; subst hx
      exact ⟨by simp, by simp, by simp, by simp, by simp⟩
    | succ m => simp at hx
  · intro q x hx
    simp only [List.getElem?_replicate] at hx
    split at hx
    · injection hx with hx; subst hx; exact ⟨by simp, by simp, by simp⟩
    · cases hx
  · intro k l hl
    obtain ⟨rfl, hk⟩ := rep k l hl
    unfold Arena.ends
    simp [List.getElem?_replicate, hk]
  · intro k l hl; obtain ⟨rfl, hk⟩ := rep k l hl; trivial
  · intro k l hl; obtain ⟨rfl, hk⟩ := rep k l hl; simp
  · intro k l hl; obtain ⟨rfl, hk⟩ := rep k l hl; simp
  · intro k l hl; obtain ⟨rfl, hk⟩ := rep k l hl; simp
  · intro key m
    constructor
    · intro h; cases h
    · rintro ⟨k, l, a, b, _⟩
      obtain ⟨rfl, hk⟩ := rep k l a
      cases b
end
end Go.Proofs.YtemppijblfflgabGreatDoor.Ev
namespace Go.Proofs.YtemppijblfflgabGreatDoor.Ev

theorem skip_bounds (p : UInt8 → Bool) (s : Bytes) (i : Nat) (h : i ≤ s.length) : i ≤ skip p s i ∧ skip p s i ≤ s.length := by
  unfold skip
  have h2 := (List.takeWhile_sublist (p := p) (l := s.drop i)).length_le
  rw [List.length_drop] at h2
  omega

theorem skip_first (p : UInt8 → Bool) (s : Bytes) (i : Nat) (c : UInt8) (h : s[i]? = some c) (hp : p c = true) : i < skip p s i := by
  obtain ⟨hi, hc⟩ := List.getElem?_eq_some_iff.1 h
  unfold skip
  rw [List.drop_eq_getElem_cons hi, hc]
  simp [hp]

/-- A token lies behind the place at which the reading began, and the reading goes on behind it. -/
theorem lex_facts (s : Bytes) (i : Nat) (h : i ≤ s.length) :
    i ≤ (lex s i).1.pos ∧ (lex s i).1.pos ≤ (lex s i).2 ∧ (lex s i).2 ≤ s.length ∧ ((lex s i).1.kind ≠ kEnd → (lex s i).1.kind ≠ kNone → (lex s i).1.pos < (lex s i).2) := by
  obtain ⟨b1, b2⟩ := skip_bounds blank s i h
  cases hc : s[skip blank s i]? with
  | none =>
    have e : lex s i = (⟨kEnd, [], skip blank s i⟩, skip blank s i) := by unfold lex; simp only [hc]
    rw [e]
    exact ⟨b1, Nat.le_refl _, b2, fun h => absurd rfl h⟩
  | some c =>
    have hlt : skip blank s i < s.length := by
      rcases Nat.lt_or_ge (skip blank s i) s.length with h | h
      · exact h
      · rw [List.getElem?_eq_none h] at hc; cases hc
    cases hl : low c with
    | true =>
      obtain ⟨l1, l2⟩ := skip_bounds low s (skip blank s i) b2
      have l3 := skip_first low s _ c hc hl
      by_cases h8 : 8 < skip low s (skip blank s i) - skip blank s i
      · have e : lex s i = (⟨kNone, [], skip blank s i⟩, skip blank s i) := by unfold lex; simp only [hc, hl, if_true, h8]
        rw [e]
        exact ⟨b1, Nat.le_refl _, b2, fun _ h => absurd rfl h⟩
      · have e : (lex s i).1.pos = skip blank s i ∧ (lex s i).2 = skip low s (skip blank s i) := by unfold lex; simp only [hc, hl, if_true, h8, if_false, and_self]
        rw [e.1, e.2]
        exact ⟨b1, l1, l2, fun _ _ => l3⟩
    | false =>
      cases hf : fig c with
      | true =>
        obtain ⟨l1, l2⟩ := skip_bounds fig s (skip blank s i) b2
        have l3 := skip_first fig s _ c hc hf
        by_cases h8 : 3 < skip fig s (skip blank s i) - skip blank s i
        · have e : lex s i = (⟨kNone, [], skip blank s i⟩, skip blank s i) := by unfold lex; simp only [hc, hl, hf, if_true, h8, Bool.false_eq_true, if_false]
          rw [e]
          exact ⟨b1, Nat.le_refl _, b2, fun _ h => absurd rfl h⟩
        · have e : (lex s i).1.pos = skip blank s i ∧ (lex s i).2 = skip fig s (skip blank s i) := by unfold lex; simp only [hc, hl, hf, if_true, h8, if_false, Bool.false_eq_true, and_self]
          rw [e.1, e.2]
          exact ⟨b1, l1, l2, fun _ _ => l3⟩
      | false =>
        cases hp : punct c with
        | true =>
          have e : lex s i = (⟨[c], [c], skip blank s i⟩, skip blank s i + 1) := by unfold lex; simp only [hc, hl, hf, hp, if_true, Bool.false_eq_true, if_false]
          rw [e]
          exact ⟨b1, Nat.le_succ _, hlt, fun _ _ => Nat.lt_succ_self _⟩
        | false =>
          have e : lex s i = (⟨kNone, [], skip blank s i⟩, skip blank s i) := by unfold lex; simp only [hc, hl, hf, hp, Bool.false_eq_true, if_false]
          rw [e]
          exact ⟨b1, Nat.le_refl _, b2, fun _ h => absurd rfl h⟩

/-- A number's text: one to three figures. -/
def NumText (l : Bytes) : Prop := 1 ≤ l.length ∧ l.length ≤ 3 ∧ ∀ c ∈ l, fig c = true

theorem piece_skip (p : UInt8 → Bool) (s : Bytes) (i : Nat) : piece s i (skip p s i) = (s.drop i).takeWhile p := by
  unfold piece skip
  rw [List.drop_take, Nat.add_sub_cancel_left]
  exact (List.prefix_iff_eq_take.1 (List.takeWhile_prefix p)).symm

theorem kw_noNumber : ¬ kNumber ∈ keywords := by decide

theorem all_takeWhile (p : UInt8 → Bool) : ∀ (l : Bytes), ∀ c ∈ l.takeWhile p, p c = true
  | [], c, h => by simp at h
  | x :: l, c, h => by
    by_cases hx : p x = true
    · rw [List.takeWhile_cons_of_pos hx] at h
      rcases List.mem_cons.1 h with rfl | h
      · exact hx
      · exact all_takeWhile p l c h
    · rw [List.takeWhile_cons_of_neg hx] at h
      cases h

theorem lex_num (s : Bytes) (i : Nat) (hk : (lex s i).1.kind = kNumber) : NumText (lex s i).1.text := by
  cases hc : s[skip blank s i]? with
  | none =>
    have e : lex s i = (⟨kEnd, [], skip blank s i⟩, skip blank s i) := by unfold lex; simp only [hc]
    rw [e] at hk; exact absurd (show kEnd = kNumber from hk) (by decide)
  | some c =>
    cases hl : low c with
    | true =>
      by_cases h8 : 8 < skip low s (skip blank s i) - skip blank s i
      · have e : lex s i = (⟨kNone, [], skip blank s i⟩, skip blank s i) := by unfold lex; simp only [hc, hl, if_true, h8]
        rw [e] at hk; exact absurd (show kNone = kNumber from hk) (by decide)
      · have e : (lex s i).1.kind = if keywords.contains (piece s (skip blank s i) (skip low s (skip blank s i))) then piece s (skip blank s i) (skip low s (skip blank s i)) else kName := by unfold lex; simp only [hc, hl, if_true, h8, if_false]
        rw [e] at hk
        by_cases hm : keywords.contains (piece s (skip blank s i) (skip low s (skip blank s i))) = true
        · rw [if_pos hm] at hk
          rw [hk] at hm
          exact absurd (List.contains_iff_mem.1 hm) kw_noNumber
        · rw [if_neg hm] at hk
          exact absurd (show kName = kNumber from hk) (by decide)
    | false =>
      cases hf : fig c with
      | true =>
        by_cases h8 : 3 < skip fig s (skip blank s i) - skip blank s i
        · have e : lex s i = (⟨kNone, [], skip blank s i⟩, skip blank s i) := by unfold lex; simp only [hc, hl, hf, if_true, h8, Bool.false_eq_true, if_false]
          rw [e] at hk; exact absurd (show kNone = kNumber from hk) (by decide)
        · have e : (lex s i).1.text = piece s (skip blank s i) (skip fig s (skip blank s i)) := by unfold lex; simp only [hc, hl, hf, if_true, h8, if_false, Bool.false_eq_true]
          have l3 := skip_first fig s _ c hc hf
          rw [e, piece_skip]
          have e2 : skip fig s (skip blank s i) = skip blank s i + ((s.drop (skip blank s i)).takeWhile fig).length := rfl
          generalize skip fig s (skip blank s i) = x at *
          exact ⟨by omega, by omega, all_takeWhile fig _⟩
      | false =>
        cases hp : punct c with
        | true =>
          have e : lex s i = (⟨[c], [c], skip blank s i⟩, skip blank s i + 1) := by unfold lex; simp only [hc, hl, hf, hp, if_true, Bool.false_eq_true, if_false]
          rw [e] at hk
          have := congrArg List.length (show [c] = kNumber from hk)
          exact absurd this (by simp)
        | false =>
          have e : lex s i = (⟨kNone, [], skip blank s i⟩, skip blank s i) := by unfold lex; simp only [hc, hl, hf, hp, Bool.false_eq_true, if_false]
          rw [e] at hk; exact absurd (show kNone = kNumber from hk) (by decide)

/-- A name's text. -/
def NameT (l : Bytes) : Prop := 1 ≤ l.length ∧ l.length ≤ 8 ∧ (∀ c ∈ l, low c = true) ∧ ¬ l ∈ keywords

theorem kw_noName : ¬ kName ∈ keywords := by decide

theorem lex_name (s : Bytes) (i : Nat) (hk : (lex s i).1.kind = kName) : NameT (lex s i).1.text := by
  cases hc : s[skip blank s i]? with
  | none =>
    have e : lex s i = (⟨kEnd, [], skip blank s i⟩, skip blank s i) := by unfold lex; simp only [hc]
    rw [e] at hk; exact absurd (show kEnd = kName from hk) (by decide)
  | some c =>
    cases hl : low c with
    | true =>
      by_cases h8 : 8 < skip low s (skip blank s i) - skip blank s i
      · have e : lex s i = (⟨kNone, [], skip blank s i⟩, skip blank s i) := by unfold lex; simp only [hc, hl, if_true, h8]
        rw [e] at hk; exact absurd (show kNone = kName from hk) (by decide)
      · have e : (lex s i).1.kind = if keywords.contains (piece s (skip blank s i) (skip low s (skip blank s i))) then piece s (skip blank s i) (skip low s (skip blank s i)) else kName := by unfold lex; simp only [hc, hl, if_true, h8, if_false]
        have e1 : (lex s i).1.text = piece s (skip blank s i) (skip low s (skip blank s i)) := by unfold lex; simp only [hc, hl, if_true, h8, if_false]
        rw [e] at hk
        by_cases hm : keywords.contains (piece s (skip blank s i) (skip low s (skip blank s i))) = true
        · rw [if_pos hm] at hk
          rw [hk] at hm
          exact absurd (List.contains_iff_mem.1 hm) kw_noName
        · have l3 := skip_first low s _ c hc hl
          have hm' : ¬ (s.drop (skip blank s i)).takeWhile low ∈ keywords := by
            rw [← piece_skip]
            exact fun h => hm (List.contains_iff_mem.2 h)
          rw [e1, piece_skip]
          have e2 : skip low s (skip blank s i) = skip blank s i + ((s.drop (skip blank s i)).takeWhile low).length := rfl
          generalize skip low s (skip blank s i) = x at *
          exact ⟨by omega, by omega, all_takeWhile low _, hm'⟩
    | false =>
      cases hf : fig c with
      | true =>
        by_cases h8 : 3 < skip fig s (skip blank s i) - skip blank s i
        · have e : lex s i = (⟨kNone, [], skip blank s i⟩, skip blank s i) := by unfold lex; simp only [hc, hl, hf, if_true, h8, Bool.false_eq_true, if_false]
          rw [e] at hk; exact absurd (show kNone = kName from hk) (by decide)
        · have e : (lex s i).1.kind = kNumber := by unfold lex; simp only [hc, hl, hf, if_true, h8, if_false, Bool.false_eq_true]
          rw [e] at hk; exact absurd (show kNumber = kName from hk) (by decide)
      | false =>
        cases hp : punct c with
        | true =>
          have e : lex s i = (⟨[c], [c], skip blank s i⟩, skip blank s i + 1) := by unfold lex; simp only [hc, hl, hf, hp, if_true, Bool.false_eq_true, if_false]
          rw [e] at hk
          have := congrArg List.length (show [c] = kName from hk)
          exact absurd this (by simp)
        | false =>
          have e : lex s i = (⟨kNone, [], skip blank s i⟩, skip blank s i) := by unfold lex; simp only [hc, hl, hf, hp, Bool.false_eq_true, if_false]
          rw [e] at hk; exact absurd (show kNone = kName from hk) (by decide)

/-- How much is left: the measure of the reader. -/
def left (s : Bytes) (st : PS) : Nat := s.length + 1 - st.t.pos

/-- The reader's places are in order. -/
structure PS.Ok (s : Bytes) (st : PS) : Prop where
  i : st.i ≤ s.length
  pos : st.t.pos ≤ st.i
  more : st.t.kind ≠ kEnd → st.t.kind ≠ kNone → st.t.pos < st.i
  num : st.t.kind = kNumber → NumText st.t.text
  name : st.t.kind = kName → NameT st.t.text

theorem next_ok {s : Bytes} {st : PS} (h : st.Ok s) : (next s st).Ok s := by
  obtain ⟨a, b, c, d⟩ := lex_facts s st.i h.i
  exact ⟨c, b, d, lex_num s st.i, lex_name s st.i⟩

theorem next_left {s : Bytes} {st : PS} (h : st.Ok s) (h1 : st.t.kind ≠ kEnd) (h2 : st.t.kind ≠ kNone) : left s (next s st) < left s st := by
  obtain ⟨a, b, c, d⟩ := lex_facts s st.i h.i
  have := h.more h1 h2
  have := h.i
  unfold left
  show s.length + 1 - (lex s st.i).1.pos < _
  omega

theorem start_ok (s : Bytes) : (start s).Ok s := by
  obtain ⟨a, b, c, d⟩ := lex_facts s 0 (Nat.zero_le _)
  exact ⟨c, b, d, lex_num s 0, lex_name s 0⟩

/-- At 'none' the reading stands still. -/
theorem left_pos {s : Bytes} {st : PS} (h : st.Ok s) : 0 < left s st := by
  have := h.pos
  have := h.i
  unfold left
  omega
end Go.Proofs.YtemppijblfflgabGreatDoor.Ev
namespace Go.Proofs.YtemppijblfflgabGreatDoor.Ev

/-- On from st to st': nothing but the place and what is wrong has turned. -/
structure Fwd (s : Bytes) (st st' : PS) : Prop where
  ok : st'.Ok s
  left : left s st' ≤ left s st
  decls : st'.decls = st.decls
  freq : st'.freq = st.freq
  fseen : st'.fseen = st.fseen
  rules : st'.rules = st.rules
  depth : st'.depth = st.depth
  loops : st'.loops = st.loops
  wrong : st'.wrong = none → st.wrong = none

section
variable {s : Bytes} {st st' st'' : PS}
theorem Fwd.refl (h : st.Ok s) : Fwd s st st := ⟨h, Nat.le_refl _, rfl, rfl, rfl, rfl, rfl, rfl, id⟩
theorem Fwd.trans (h : Fwd s st st') (k : Fwd s st' st'') : Fwd s st st'' :=
  ⟨k.ok, Nat.le_trans k.left h.left, k.decls.trans h.decls, k.freq.trans h.freq, k.fseen.trans h.fseen, k.rules.trans h.rules, k.depth.trans h.depth, k.loops.trans h.loops, fun x => h.wrong (k.wrong x)⟩
theorem Fwd.next (h : st.Ok s) : Fwd s st (next s st) := by
  refine ⟨next_ok h, ?_, rfl, rfl, rfl, rfl, rfl, rfl, id⟩
  obtain ⟨a, b, c, d⟩ := lex_facts s st.i h.i
  have := h.pos
  unfold Ev.left
  show s.length + 1 - (lex s st.i).1.pos ≤ _
  omega
theorem note_t (e pos : Nat) (st : PS) : (note e pos st).t = st.t ∧ (note e pos st).i = st.i := by unfold note; cases st.wrong <;> exact ⟨rfl, rfl⟩
theorem Fwd.note (h : st.Ok s) (e pos : Nat) : Fwd s st (note e pos st) := by
  obtain ⟨a, b⟩ := note_t e pos st
  refine ⟨⟨by rw [b]; exact h.i, by rw [a, b]; exact h.pos, by rw [a, b]; exact h.more, by rw [a]; exact h.num, by rw [a]; exact h.name⟩, by unfold Ev.left; rw [a]; exact Nat.le_refl _, ?_, ?_, ?_, ?_, ?_, ?_, ?_⟩
  all_goals unfold Ev.note
  all_goals cases hw : st.wrong <;> simp_all
theorem note_wrong (e pos : Nat) (st : PS) : (note e pos st).wrong ≠ none := by
  unfold note; cases hw : st.wrong <;> simp [hw]

theorem want_ok {k : Bytes} {t : Tok} (h : want s k st = .ok t st') : st.t.kind = k ∧ t = st.t ∧ st' = next s st := by
  unfold want at h
  split at h
  · injection h with h1 h2; exact ⟨by assumption, h1.symm, h2.symm⟩
  · cases h

theorem bind_ok {α β : Type} {x : Out α} {f : α → PS → Out β} {b : β} {st : PS} (h : x.bind f = .ok b st) : ∃ a st1, x = .ok a st1 ∧ f a st1 = .ok b st := by
  cases x with
  | ok a st1 => exact ⟨a, st1, rfl, h⟩
  | bad e p => cases h
theorem map_ok {α β : Type} {x : Out α} {f : α → β} {b : β} {st : PS} (h : x.map f = .ok b st) : ∃ a, x = .ok a st ∧ f a = b := by
  cases x with
  | ok a st1 => injection h with h1 h2; exact ⟨a, by rw [h2], h1⟩
  | bad e p => cases h

theorem next_lt (h : st.Ok s) {k : Bytes} (hk : st.t.kind = k) (h1 : k ≠ kEnd) (h2 : k ≠ kNone) : left s (next s st) < left s st :=
  next_left h (by rw [hk]; exact h1) (by rw [hk]; exact h2)

theorem number_ok {least most n : Int} (h : st.Ok s) (e : number s least most st = .ok n st') : Fwd s st st' ∧ left s st' < left s st ∧ (st'.wrong = none → least ≤ n ∧ n ≤ most) := by
  unfold number at e
  obtain ⟨t, st1, e1, e2⟩ := bind_ok e
  obtain ⟨hk, rfl, rfl⟩ := want_ok e1
  injection e2 with e2 e3
  subst e2
  have h1 := next_ok h
  have hl := next_lt h hk (by decide) (by decide)
  split at e3
  · subst e3
    have f := Fwd.note h1 eNumber st.t.pos
    exact ⟨(Fwd.next h).trans f, Nat.lt_of_le_of_lt f.left hl, fun hw => absurd hw (note_wrong _ _ _)⟩
  · subst e3
    exact ⟨Fwd.next h, hl, fun _ => by omega⟩

theorem findFrom_range (name : Bytes) : ∀ (l : List Decl) (k : Nat), findFrom name l k = -1 ∨ ∃ (i : Nat) (d : Decl), l[i]? = some d ∧ d.name = name ∧ findFrom name l k = ((k + i : Nat) : Int)
  | [], k => .inl rfl
  | d :: l, k => by
    by_cases h : d.name = name
    · exact .inr ⟨0, d, rfl, h, by rw [findFrom, if_pos h]; rfl⟩
    · rcases findFrom_range name l (k + 1) with h1 | ⟨i, d', h1, h3, h2⟩
      · exact .inl (by rw [findFrom, if_neg h, h1])
      · exact .inr ⟨i + 1, d', by simpa using h1, h3, by rw [findFrom, if_neg h, h2]; congr 1; omega⟩

/-- A name's number: of a variable, or not. -/
def NameW (l : List Decl) (v : Bool) (k : Int) : Prop := Ix l.length k ∧ ((declAt l k).kind == 2) = v

theorem name_ok {v : Bool} {k : Int} (h : st.Ok s) (e : name s v st = .ok k st') : Fwd s st st' ∧ left s st' < left s st ∧ (st'.wrong = none → NameW st.decls v k) := by
  unfold name at e
  obtain ⟨t, st1, e1, e2⟩ := bind_ok e
  obtain ⟨hk, rfl, rfl⟩ := want_ok e1
  injection e2 with e2 e3
  have h1 := next_ok h
  have hl := next_lt h hk (by decide) (by decide)
  have hd : (next s st).decls = st.decls := rfl
  unfold nameNote at e3
  rw [hd] at e2 e3
  split at e3
  · subst e3
    have f := Fwd.note h1 eNone st.t.pos
    exact ⟨(Fwd.next h).trans f, Nat.lt_of_le_of_lt f.left hl, fun hw => absurd hw (note_wrong _ _ _)⟩
  · split at e3
    · subst e3
      have f := Fwd.note h1 eKind st.t.pos
      exact ⟨(Fwd.next h).trans f, Nat.lt_of_le_of_lt f.left hl, fun hw => absurd hw (note_wrong _ _ _)⟩
    · rename_i h0 h2
      subst e3
      refine ⟨Fwd.next h, hl, fun _ => ⟨?_, ?_⟩⟩
      · rcases findFrom_range st.t.text st.decls 0 with hf | ⟨i, d, hi, _, hf⟩
        · exact absurd (show find st.decls st.t.text < 0 by unfold find; omega) h0
        · have := (List.getElem?_eq_some_iff.1 hi).1
          rw [← e2]
          unfold find Ix
          rw [hf]
          omega
      · rw [← e2]
        simpa using h2

/-! ## What stands in a tree that was read -/
def ValW (l : List Decl) : Val → Prop
  | .num n => 0 ≤ n ∧ n ≤ 999
  | .var n => NameW l true n
  | .len n => NameW l false n
  | .freq => True
def CKW (l : List Decl) : CK → Prop
  | .full n => NameW l false n
  | .empty n => NameW l false n
  | .warm n => NameW l false n
  | .less a b => ValW l a ∧ ValW l b
def PrimW (l : List Decl) : Prim → Prop
  | .put q _ => NameW l false q
  | .evict q => NameW l false q
  | .cool q => NameW l false q
  | .shift q p _ => NameW l false q ∧ NameW l false p
  | .inc v => NameW l true v
  | .dec v => NameW l true v
  | _ => True
def BlkW (l : List Decl) : Blk → Prop
  | .nil => True
  | .prim p r => PrimW l p ∧ BlkW l r
  | .ite c t o e r => CKW l c.k ∧ BlkW l t ∧ BlkW l e ∧ BlkW l r
  | .rep n c b r => CKW l c.k ∧ BlkW l b ∧ BlkW l r ∧ 1 ≤ n ∧ n ≤ 50

/-- What holds of every tree that was read: no else, no statements of it; how deep; how large. -/
def Blk.Form : Blk → Prop
  | .nil => True
  | .prim _ r => r.Form
  | .ite _ t o e r => t.Form ∧ e.Form ∧ r.Form ∧ (o = false → e = .nil)
  | .rep _ _ b r => b.Form ∧ r.Form
def Blk.deep : Blk → Nat
  | .nil => 0
  | .prim _ r => r.deep
  | .ite _ t o e r => max (1 + t.deep) (max (if o then 1 + e.deep else 0) r.deep)
  | .rep _ _ b r => max (1 + b.deep) r.deep
def Blk.nest : Blk → Nat
  | .nil => 0
  | .prim _ r => r.nest
  | .ite _ t _ e r => max t.nest (max e.nest r.nest)
  | .rep _ _ b r => max (1 + b.nest) r.nest
def Blk.size : Blk → Nat
  | .nil => 0
  | .prim _ r => 1 + r.size
  | .ite _ t _ e r => 1 + t.size + e.size + r.size
  | .rep _ _ b r => 1 + b.size + r.size

theorem app_W {l : List Decl} : ∀ (b r : Blk), BlkW l (b.app r) ↔ BlkW l b ∧ BlkW l r
  | .nil, r => by simp [Blk.app, BlkW]
  | .prim p x, r => by simp [Blk.app, BlkW, app_W x r, and_assoc]
  | .ite c t o e x, r => by simp [Blk.app, BlkW, app_W x r, and_assoc]
  | .rep n c b x, r => by
    simp only [Blk.app, BlkW, app_W x r]
    constructor
    · rintro ⟨a, b, ⟨c, d⟩, e⟩; exact ⟨⟨a, b, c, e⟩, d⟩
    · rintro ⟨⟨a, b, c, e⟩, d⟩; exact ⟨a, b, ⟨c, d⟩, e⟩
theorem app_Form : ∀ (b r : Blk), b.Form → r.Form → (b.app r).Form
  | .nil, r, _, h => h
  | .prim p x, r, a, h => app_Form x r a h
  | .ite c t o e x, r, ⟨a1, a2, a3, a4⟩, h => ⟨a1, a2, app_Form x r a3 h, a4⟩
  | .rep n c b x, r, ⟨a1, a2⟩, h => ⟨a1, app_Form x r a2 h⟩
theorem app_deep : ∀ (b r : Blk), (b.app r).deep = max b.deep r.deep
  | .nil, r => by simp [Blk.app, Blk.deep]
  | .prim p x, r => by simp [Blk.app, Blk.deep, app_deep x r]
  | .ite c t o e x, r => by simp only [Blk.app, Blk.deep, app_deep x r]; omega
  | .rep n c b x, r => by simp only [Blk.app, Blk.deep, app_deep x r]; omega
theorem app_nest : ∀ (b r : Blk), (b.app r).nest = max b.nest r.nest
  | .nil, r => by simp [Blk.app, Blk.nest]
  | .prim p x, r => by simp [Blk.app, Blk.nest, app_nest x r]
  | .ite c t o e x, r => by simp only [Blk.app, Blk.nest, app_nest x r]; omega
  | .rep n c b x, r => by simp only [Blk.app, Blk.nest, app_nest x r]; omega
theorem app_size : ∀ (b r : Blk), (b.app r).size = b.size + r.size
  | .nil, r => by simp [Blk.app, Blk.size]
  | .prim p x, r => by simp only [Blk.app, Blk.size, app_size x r]; omega
  | .ite c t o e x, r => by simp only [Blk.app, Blk.size, app_size x r]; omega
  | .rep n c b x, r => by simp only [Blk.app, Blk.size, app_size x r]; omega

/-! ## The calls -/
theorem value_ok {v : Val} (h : st.Ok s) (e : value s st = .ok v st') : Fwd s st st' ∧ left s st' < left s st ∧ (st'.wrong = none → ValW st.decls v) := by
  unfold value at e
  split at e
  · obtain ⟨a, e1, rfl⟩ := map_ok e
    exact number_ok h e1
  · split at e
    · rename_i hk
      obtain ⟨a, e1, rfl⟩ := map_ok e
      obtain ⟨f, l, w⟩ := name_ok (next_ok h) e1
      exact ⟨(Fwd.next h).trans f, Nat.lt_trans l (next_lt h hk (by decide) (by decide)), w⟩
    · split at e
      · rename_i hk
        injection e with e1 e2
        subst e1 e2
        exact ⟨Fwd.next h, next_lt h hk (by decide) (by decide), fun _ => trivial⟩
      · obtain ⟨a, e1, rfl⟩ := map_ok e
        exact name_ok h e1

theorem condBase_ok {c : Cond} (h : st.Ok s) (e : condBase s st = .ok c st') : Fwd s st st' ∧ left s st' < left s st ∧ (st'.wrong = none → CKW st.decls c.k) := by
  have one : ∀ {k : Bytes} {f : Int → Cond}, st.t.kind = k → k ≠ kEnd → k ≠ kNone → (∀ n, NameW st.decls false n → CKW st.decls (f n).k) → (name s false (next s st)).map f = .ok c st' →
      Fwd s st st' ∧ left s st' < left s st ∧ (st'.wrong = none → CKW st.decls c.k) := by
    intro k f hk h1 h2 hf e
    obtain ⟨a, e1, rfl⟩ := map_ok e
    obtain ⟨g, l, w⟩ := name_ok (next_ok h) e1
    exact ⟨(Fwd.next h).trans g, Nat.lt_trans l (next_lt h hk h1 h2), fun x => hf _ (w x)⟩
  unfold condBase at e
  split at e
  · rename_i hk; exact one (f := fun n => ⟨.full n, 0⟩) hk (by decide) (by decide) (fun _ x => x) e
  · split at e
    · rename_i hk; exact one (f := fun n => ⟨.empty n, 0⟩) hk (by decide) (by decide) (fun _ x => x) e
    · split at e
      · rename_i hk; exact one (f := fun n => ⟨.warm n, 0⟩) hk (by decide) (by decide) (fun _ x => x) e
      · obtain ⟨a, st1, e1, e2⟩ := bind_ok e
        obtain ⟨t, st2, e3, e4⟩ := bind_ok e2
        obtain ⟨b, e5, rfl⟩ := map_ok e4
        obtain ⟨f1, l1, w1⟩ := value_ok h e1
        obtain ⟨_, _, rfl⟩ := want_ok e3
        have f2 := Fwd.next f1.ok
        obtain ⟨f3, l3, w3⟩ := value_ok f2.ok e5
        refine ⟨(f1.trans f2).trans f3, by have := f2.left; omega, fun x => ⟨w1 (f2.wrong (f3.wrong x)), ?_⟩⟩
        have := w3 x
        rw [f2.decls, f1.decls] at this
        exact this

theorem cond_ok : ∀ {n : Nat} {st : PS} {c : Cond}, st.Ok s → cond s n st = .ok c st' → Fwd s st st' ∧ left s st' < left s st ∧ (st'.wrong = none → CKW st.decls c.k)
  | 0, _, _, _, e => by cases e
  | n + 1, st, c, h, e => by
    unfold cond at e
    split at e
    · rename_i hk
      obtain ⟨a, e1, rfl⟩ := map_ok e
      obtain ⟨f, l, w⟩ := cond_ok (next_ok h) e1
      exact ⟨(Fwd.next h).trans f, Nat.lt_trans l (next_lt h hk (by decide) (by decide)), w⟩
    · exact condBase_ok h e

/-- What is known of a block, or a statement, that was read. -/
structure GotB (s : Bytes) (st st' : PS) (b : Blk) : Prop where
  fwd : Fwd s st st'
  w : st'.wrong = none → BlkW st.decls b
  form : b.Form
  deep : st.depth + b.deep ≤ 8
  nest : st.loops + b.nest ≤ 2
  size : b.size + left s st' ≤ left s st

theorem prim_got {st st' : PS} {x : Prim} (f : Fwd s st st') (l : left s st' < left s st) (w : st'.wrong = none → PrimW st.decls x) (hd : st.depth ≤ 8) (hl : st.loops ≤ 2) : GotB s st st' (.prim x .nil) :=
  ⟨f, fun y => ⟨w y, trivial⟩, trivial, by simp [Blk.deep]; exact hd, by simp [Blk.nest]; exact hl, by simp [Blk.size]; omega⟩

mutual
theorem block_ok : ∀ {n : Nat} {st st' : PS} {b : Blk}, st.Ok s → st.depth ≤ 8 → st.loops ≤ 2 → block s n st = .ok b st' →
    Fwd s st st' ∧ (st'.wrong = none → BlkW st.decls b) ∧ b.Form ∧ st.depth + 1 + b.deep ≤ 8 ∧ st.loops + b.nest ≤ 2 ∧ b.size + 2 + left s st' ≤ left s st
  | 0, _, _, _, _, _, _, e => by unfold block at e; cases e
  | n + 1, st, st', b, h, hd, hl, e => by
    unfold block at e
    split at e
    · cases e
    · rename_i h8
      obtain ⟨t, st1, e1, e2⟩ := bind_ok e
      obtain ⟨b', st2, e3, e4⟩ := bind_ok e2
      obtain ⟨hk, _, rfl⟩ := want_ok e1
      injection e4 with e4 e5
      subst e4
      have f1 := Fwd.next h
      have l1 := next_lt h hk (by decide) (by decide)
      have hd' : st.depth < 8 := by
        rcases Nat.lt_or_ge st.depth 8 with x | x
        · exact x
        · exact absurd ⟨hk, by omega⟩ h8
      have ok1 : ({ next s st with depth := (next s st).depth + 1 } : PS).Ok s := ⟨f1.ok.i, f1.ok.pos, f1.ok.more, f1.ok.num, f1.ok.name⟩
      obtain ⟨g, hkc⟩ := stmts_ok ok1 (by show st.depth + 1 ≤ 8; omega) hl e3
      have g2 : (st2.depth - 1) = st.depth := by have := g.fwd.depth; simp at this; rw [this]; rfl
      have ok2 : ({ st2 with depth := st2.depth - 1 } : PS).Ok s := ⟨g.fwd.ok.i, g.fwd.ok.pos, g.fwd.ok.more, g.fwd.ok.num, g.fwd.ok.name⟩
      have f3 := Fwd.next ok2
      have l3 : left s (next s { st2 with depth := st2.depth - 1 }) < left s st2 := next_lt ok2 hkc (by decide) (by decide)
      have gl := g.size
      have gl' : b'.size + left s st2 ≤ left s (next s st) := gl
      subst e5
      refine ⟨⟨f3.ok, by omega, f3.decls.trans g.fwd.decls, f3.freq.trans g.fwd.freq, f3.fseen.trans g.fwd.fseen, f3.rules.trans g.fwd.rules, f3.depth.trans g2, f3.loops.trans g.fwd.loops, fun x => g.fwd.wrong (f3.wrong x)⟩,
        fun x => g.w (f3.wrong x), g.form, g.deep, g.nest, by omega⟩
theorem stmts_ok : ∀ {n : Nat} {st st' : PS} {b : Blk}, st.Ok s → st.depth ≤ 8 → st.loops ≤ 2 → stmts s n st = .ok b st' → GotB s st st' b ∧ st'.t.kind = kClose
  | 0, _, _, _, _, _, _, e => by unfold stmts at e; cases e
  | n + 1, st, st', b, h, hd, hl, e => by
    unfold stmts at e
    split at e
    · rename_i hk
      injection e with e1 e2
      subst e1 e2
      exact ⟨⟨Fwd.refl h, fun _ => trivial, trivial, by simp [Blk.deep]; exact hd, by simp [Blk.nest]; exact hl, by simp [Blk.size]⟩, hk⟩
    · obtain ⟨x, st1, e1, e2⟩ := bind_ok e
      obtain ⟨r, e3, rfl⟩ := map_ok e2
      have g1 := stmt_ok h hd hl e1
      obtain ⟨g2, hc⟩ := stmts_ok g1.fwd.ok (by rw [g1.fwd.depth]; exact hd) (by rw [g1.fwd.loops]; exact hl) e3
      refine ⟨⟨g1.fwd.trans g2.fwd, fun y => (app_W _ _).2 ⟨g1.w (g2.fwd.wrong y), by have := g2.w y; rw [g1.fwd.decls] at this; exact this⟩, app_Form _ _ g1.form g2.form, ?_, ?_, ?_⟩, hc⟩
      · have a := g1.deep; have b := g2.deep
        rw [g1.fwd.depth] at b
        rw [app_deep]; omega
      · have a := g1.nest; have b := g2.nest
        rw [g1.fwd.loops] at b
        rw [app_nest]; omega
      · have a := g1.size; have b := g2.size
        rw [app_size]; omega
theorem stmt_ok : ∀ {n : Nat} {st st' : PS} {b : Blk}, st.Ok s → st.depth ≤ 8 → st.loops ≤ 2 → stmt s n st = .ok b st' → GotB s st st' b
  | 0, _, _, _, _, _, _, e => by unfold stmt at e; cases e
  | n + 1, st, st', b, h, hd, hl, e => by
    have semi : ∀ {x : Prim} {st1 : PS}, Fwd s st st1 → left s st1 < left s st → (st1.wrong = none → PrimW st.decls x) → ((want s kSemi st1).bind fun _ st => .ok (.prim x .nil) st) = Out.ok b st' → GotB s st st' b := by
      intro x st1 f l w e
      obtain ⟨t, st2, e1, e2⟩ := bind_ok e
      obtain ⟨hk, _, rfl⟩ := want_ok e1
      injection e2 with e2 e3
      subst e2 e3
      have f2 := Fwd.next f.ok
      exact prim_got (f.trans f2) (by have := f2.left; omega) (fun y => w (f2.wrong y)) hd hl
    have tk : ∀ {k : Bytes} {st1 : PS}, st1.Ok s → Fwd s st1 (take s k st1).2 := by
      intro k st1 h1
      unfold take
      split
      · exact Fwd.next h1
      · exact Fwd.refl h1
    have nx : ∀ {k : Bytes}, st.t.kind = k → k ≠ kEnd → k ≠ kNone → Fwd s st (next s st) ∧ left s (next s st) < left s st := fun hk h1 h2 => ⟨Fwd.next h, next_lt h hk h1 h2⟩
    have one : ∀ {k : Bytes} {v : Bool} {x : Int → Prim}, st.t.kind = k → k ≠ kEnd → k ≠ kNone → (∀ q, NameW st.decls v q → PrimW st.decls (x q)) →
        ((name s v (next s st)).bind fun q st => (want s kSemi st).bind fun _ st => .ok (.prim (x q) .nil) st) = Out.ok b st' → GotB s st st' b := by
      intro k v x hk h1 h2 hx e
      obtain ⟨f, l⟩ := nx hk h1 h2
      obtain ⟨q, st1, e1, e2⟩ := bind_ok e
      obtain ⟨f1, l1, w1⟩ := name_ok f.ok e1
      exact semi (f.trans f1) (by omega) (fun y => hx q (w1 y)) e2
    unfold stmt at e
    extract_lets sm at e
    by_cases hk : st.t.kind = kPut
    · rw [if_pos hk] at e
      obtain ⟨f, l⟩ := nx hk (by decide) (by decide)
      obtain ⟨q, st1, e1, e2⟩ := bind_ok e
      obtain ⟨f1, l1, w1⟩ := name_ok f.ok e1
      have f2 := tk (k := kTail) f1.ok
      exact semi (x := .put q (take s kTail st1).1) ((f.trans f1).trans f2) (by have := f2.left; omega) (fun y => w1 (f2.wrong y)) e2
    rw [if_neg hk] at e
    by_cases hk : st.t.kind = kEvict
    · rw [if_pos hk] at e
      exact one (x := .evict) hk (by decide) (by decide) (fun _ x => x) e
    rw [if_neg hk] at e
    by_cases hk : st.t.kind = kCool
    · rw [if_pos hk] at e
      exact one (x := .cool) hk (by decide) (by decide) (fun _ x => x) e
    rw [if_neg hk] at e
    by_cases hk : st.t.kind = kShift
    · rw [if_pos hk] at e
      obtain ⟨f, l⟩ := nx hk (by decide) (by decide)
      obtain ⟨q, st1, e1, e2⟩ := bind_ok e
      obtain ⟨f1, l1, w1⟩ := name_ok f.ok e1
      obtain ⟨q', st2, e3, e4⟩ := bind_ok e2
      obtain ⟨f2, l2, w2⟩ := name_ok f1.ok e3
      have f3 := tk (k := kTail) f2.ok
      refine semi (x := .shift q q' (take s kTail st2).1) (((f.trans f1).trans f2).trans f3) (by have := f3.left; omega) (fun y => ⟨w1 (f2.wrong (f3.wrong y)), ?_⟩) e4
      have := w2 (f3.wrong y)
      rw [f1.decls] at this
      exact this
    rw [if_neg hk] at e
    by_cases hk : st.t.kind = kInc
    · rw [if_pos hk] at e
      exact one (x := .inc) hk (by decide) (by decide) (fun _ x => x) e
    rw [if_neg hk] at e
    by_cases hk : st.t.kind = kDec
    · rw [if_pos hk] at e
      exact one (x := .dec) hk (by decide) (by decide) (fun _ x => x) e
    rw [if_neg hk] at e
    by_cases hk : st.t.kind = kDrop
    · rw [if_pos hk] at e
      obtain ⟨f, l⟩ := nx hk (by decide) (by decide)
      exact semi (x := .drop) f l (fun _ => trivial) e
    rw [if_neg hk] at e
    by_cases hk : st.t.kind = kBump
    · rw [if_pos hk] at e
      obtain ⟨f, l⟩ := nx hk (by decide) (by decide)
      exact semi (x := .bump) f l (fun _ => trivial) e
    rw [if_neg hk] at e
    by_cases hk : st.t.kind = kIf
    · rw [if_pos hk] at e
      obtain ⟨f, l⟩ := nx hk (by decide) (by decide)
      obtain ⟨c, st1, e1, e2⟩ := bind_ok e
      obtain ⟨f1, l1, w1⟩ := cond_ok f.ok e1
      obtain ⟨t, st2, e3, e4⟩ := bind_ok e2
      have d1 : st1.depth = st.depth := (f.trans f1).depth
      have p1 : st1.loops = st.loops := (f.trans f1).loops
      obtain ⟨f2, w2, m2, dd2, nn2, z2⟩ := block_ok f1.ok (by omega) (by omega) e3
      split at e4
      · rename_i hk2
        obtain ⟨el, st3, e5, e6⟩ := bind_ok e4
        have f3 := Fwd.next f2.ok
        have l3 := next_lt f2.ok hk2 (by decide) (by decide)
        have d2 : (next s st2).depth = st.depth := (f2.trans f3).depth.trans d1
        have p2 : (next s st2).loops = st.loops := (f2.trans f3).loops.trans p1
        obtain ⟨f4, w4, m4, dd4, nn4, z4⟩ := block_ok f3.ok (by omega) (by omega) e5
        injection e6 with e6 e7
        subst e6 e7
        have F := (((f.trans f1).trans f2).trans f3).trans f4
        refine ⟨F, fun y => ?_, ⟨m2, m4, trivial, fun x => by cases x⟩, ?_, ?_, ?_⟩
        · have y3 := f4.wrong y
          have y2 := f3.wrong y3
          have y1 := f2.wrong y2
          refine ⟨w1 y1, ?_, ?_, trivial⟩
          · have := w2 y2; rw [f1.decls] at this; exact this
          · have := w4 y; rw [f3.decls, f2.decls, f1.decls] at this; exact this
        · simp only [Blk.deep, if_true]; omega
        · simp only [Blk.nest]; omega
        · simp only [Blk.size]; omega
      · injection e4 with e6 e7
        subst e6 e7
        refine ⟨(f.trans f1).trans f2, fun y => ?_, ⟨m2, trivial, trivial, fun _ => rfl⟩, ?_, ?_, ?_⟩
        · have y1 := f2.wrong y
          refine ⟨w1 y1, ?_, trivial, trivial⟩
          have := w2 y; rw [f1.decls] at this; exact this
        · simp only [Blk.deep, Bool.false_eq_true, if_false]; omega
        · simp only [Blk.nest]; omega
        · simp only [Blk.size]; omega
    rw [if_neg hk] at e
    by_cases hk : st.t.kind = kRepeat
    · rw [if_pos hk] at e
      split at e
      · cases e
      · rename_i h2
        obtain ⟨f, l⟩ := nx hk (by decide) (by decide)
        obtain ⟨k, st1, e1, e2⟩ := bind_ok e
        obtain ⟨f1, l1, w1⟩ := number_ok f.ok e1
        obtain ⟨t, st2, e3, e4⟩ := bind_ok e2
        obtain ⟨hk2, _, rfl⟩ := want_ok e3
        have f2 := Fwd.next f1.ok
        obtain ⟨c, st3, e5, e6⟩ := bind_ok e4
        obtain ⟨f3, l3, w3⟩ := cond_ok f2.ok e5
        obtain ⟨b', st4, e7, e8⟩ := bind_ok e6
        have F3 := ((f.trans f1).trans f2).trans f3
        have ok3 : ({ st3 with loops := st3.loops + 1 } : PS).Ok s := ⟨f3.ok.i, f3.ok.pos, f3.ok.more, f3.ok.num, f3.ok.name⟩
        have d3 := F3.depth
        have p3 := F3.loops
        obtain ⟨f4, w4, m4, dd4, nn4, z4⟩ := block_ok ok3 (by show st3.depth ≤ 8; omega) (by show st3.loops + 1 ≤ 2; omega) e7
        injection e8 with e8 e9
        subst e8 e9
        have dd4' : st3.depth + 1 + b'.deep ≤ 8 := dd4
        have nn4' : st3.loops + 1 + b'.nest ≤ 2 := nn4
        have z4' : b'.size + 2 + left s st4 ≤ left s st3 := z4
        have z5 : left s ({ st4 with loops := st4.loops - 1 } : PS) = left s st4 := rfl
        have hl2 := f2.left
        refine ⟨⟨⟨f4.ok.i, f4.ok.pos, f4.ok.more, f4.ok.num, f4.ok.name⟩, by omega, f4.decls.trans F3.decls, f4.freq.trans F3.freq, f4.fseen.trans F3.fseen, f4.rules.trans F3.rules, f4.depth.trans F3.depth, ?_, fun y => F3.wrong (f4.wrong y)⟩, fun y => ?_, ⟨m4, trivial⟩, ?_, ?_, ?_⟩
        · have := f4.loops
          show st4.loops - 1 = st.loops
          simp at this
          omega
        · have y3 := f4.wrong y
          have y2 := f3.wrong y3
          have y1 := f2.wrong y2
          refine ⟨?_, ?_, trivial, w1 y1⟩
          · have := w3 y3; rw [f2.decls, f1.decls] at this; exact this
          · have := w4 y
            have hd3 : ({ st3 with loops := st3.loops + 1 } : PS).decls = st.decls := F3.decls
            rw [hd3] at this; exact this
        · simp only [Blk.deep]; omega
        · simp only [Blk.nest]; omega
        · simp only [Blk.size]; omega
    rw [if_neg hk] at e
    cases e
end
end
end Go.Proofs.YtemppijblfflgabGreatDoor.Ev
namespace Go.Proofs.YtemppijblfflgabGreatDoor.Ev

structure DeclW (d : Decl) : Prop where
  kind : d.kind ≤ 2
  name : NameT d.name
  lo : 1 ≤ d.max
  hi : d.max ≤ if d.kind = 2 then 99 else 50

structure DeclsW (l : List Decl) : Prop where
  len : l.length ≤ 8
  each : ∀ d ∈ l, DeclW d
  nodup : (l.map (·.name)).Nodup

def FreqW (seen : Bool) (f : Int) : Prop := if seen then 1 ≤ f ∧ f ≤ 99 else f = 0

structure RuleW (l : List Decl) (x : Int × Blk) : Prop where
  key : x.1 = -1 ∨ NameW l false x.1
  w : BlkW l x.2
  form : x.2.Form
  deep : 1 + x.2.deep ≤ 8
  nest : x.2.nest ≤ 2

structure RulesW (l : List Decl) (r : List (Int × Blk)) : Prop where
  each : ∀ x ∈ r, RuleW l x
  nodup : (r.map (·.1)).Nodup

def sizes (r : List (Int × Blk)) : Nat := (r.map (fun x => x.2.size)).sum

/-- What holds of the reader between declarations and rules. -/
structure Mid (s : Bytes) (st : PS) : Prop where
  ok : st.Ok s
  depth : st.depth = 0
  loops : st.loops = 0
  dl : st.decls.length + left s st ≤ 701
  rl : st.rules.length + left s st ≤ 701
  sz : sizes st.rules + left s st ≤ 701
  w : st.wrong = none → DeclsW st.decls ∧ FreqW st.fseen st.freq ∧ RulesW st.decls st.rules

section
variable {s : Bytes} {st st' : PS}

theorem note_parts (e pos : Nat) (st : PS) : (note e pos st).decls = st.decls ∧ (note e pos st).freq = st.freq ∧ (note e pos st).fseen = st.fseen ∧ (note e pos st).rules = st.rules ∧ (note e pos st).depth = st.depth ∧ (note e pos st).loops = st.loops ∧
    left s (note e pos st) = left s st := by
  unfold note
  cases hw : st.wrong <;> exact ⟨rfl, rfl, rfl, rfl, rfl, rfl, rfl⟩

theorem declNote_parts (n : Tok) (h : st.Ok s) : Fwd s st (declNote n st) ∧ left s (declNote n st) = left s st ∧ ((declNote n st).wrong = none → find st.decls n.text < 0 ∧ st.decls.length ≠ 8) := by
  unfold declNote
  have h1 : Fwd s st (if 0 ≤ find st.decls n.text then note eTwice n.pos st else st) ∧ left s (if 0 ≤ find st.decls n.text then note eTwice n.pos st else st) = left s st ∧
      ((if 0 ≤ find st.decls n.text then note eTwice n.pos st else st).wrong = none → find st.decls n.text < 0) := by
    split
    · exact ⟨Fwd.note h _ _, (note_parts _ _ _).2.2.2.2.2.2, fun x => absurd x (note_wrong _ _ _)⟩
    · exact ⟨Fwd.refl h, rfl, fun _ => by omega⟩
  simp only
  generalize (if 0 ≤ find st.decls n.text then note eTwice n.pos st else st) = st1 at *
  obtain ⟨a, b, c⟩ := h1
  split
  · exact ⟨a.trans (Fwd.note a.ok _ _), (note_parts _ _ _).2.2.2.2.2.2.trans b, fun x => absurd x (note_wrong _ _ _)⟩
  · rename_i h8
    exact ⟨a, b, fun x => ⟨c x, by rw [← a.decls]; exact h8⟩⟩

theorem find_neg {l : List Decl} {name : Bytes} (h : find l name < 0) : name ∉ l.map (·.name) := by
  intro hm
  obtain ⟨d, hd, rfl⟩ := List.mem_map.1 hm
  have : ∀ (l : List Decl) (k : Nat), d ∈ l → 0 ≤ findFrom d.name l k := by
    intro l
    induction l with
    | nil => intro k h; cases h
    | cons x l ih =>
      intro k hx
      rw [findFrom]
      split
      · omega
      · rename_i hne
        rcases List.mem_cons.1 hx with rfl | hx
        · exact absurd rfl hne
        · exact ih _ hx
  have := this l 0 hd
  unfold find at h
  omega

theorem decl_mid (h : Mid s st) (hk : isDecl st.t.kind = true) (hr : st.rules = []) (e : decl s st = .ok () st') : Mid s st' ∧ st'.rules = [] ∧ left s st' < left s st := by
  have hne : st.t.kind ≠ kEnd ∧ st.t.kind ≠ kNone := by
    constructor
    · intro x; rw [x] at hk; exact absurd hk (by decide)
    · intro x; rw [x] at hk; exact absurd hk (by decide)
  have f0 := Fwd.next h.ok
  have l0 := next_left h.ok hne.1 hne.2
  unfold decl at e
  simp only at e
  split at e
  · obtain ⟨n, st1, e1, e2⟩ := bind_ok e
    obtain ⟨t, st2, e3, e4⟩ := bind_ok e2
    injection e4 with _ e4
    subst e4
    obtain ⟨hk3, _, rfl⟩ := want_ok e3
    have h1 : ∃ x : PS, x = (if (next s st).fseen = true then note eTwice st.t.pos (next s st) else next s st) ∧ Fwd s (next s st) x ∧ (x.wrong = none → (next s st).fseen = false) := by
      refine ⟨_, rfl, ?_⟩
      split
      · exact ⟨Fwd.note f0.ok _ _, fun x => absurd x (note_wrong _ _ _)⟩
      · rename_i hf; exact ⟨Fwd.refl f0.ok, fun _ => by simpa using hf⟩
    obtain ⟨x, hx, f1, w1⟩ := h1
    rw [← hx] at e1
    have ok2 : ({ x with fseen := true } : PS).Ok s := ⟨f1.ok.i, f1.ok.pos, f1.ok.more, f1.ok.num, f1.ok.name⟩
    obtain ⟨f2, l2, w2⟩ := number_ok ok2 e1
    have ok3 : ({ st1 with freq := n } : PS).Ok s := ⟨f2.ok.i, f2.ok.pos, f2.ok.more, f2.ok.num, f2.ok.name⟩
    have f3 := Fwd.next ok3
    have l1 := f1.left
    have l2' : left s st1 < left s x := l2
    have l3 : left s (next s { st1 with freq := n }) ≤ left s st1 := f3.left
    have d1 : (next s { st1 with freq := n }).decls = st.decls := f3.decls.trans (f2.decls.trans (f1.decls.trans f0.decls))
    have r1 : (next s { st1 with freq := n }).rules = st.rules := f3.rules.trans (f2.rules.trans (f1.rules.trans f0.rules))
    refine ⟨⟨f3.ok, f3.depth.trans (f2.depth.trans (f1.depth.trans (f0.depth.trans h.depth))), f3.loops.trans (f2.loops.trans (f1.loops.trans (f0.loops.trans h.loops))), ?_, ?_, ?_, ?_⟩, r1.trans hr, by omega⟩
    · rw [d1]; have := h.dl; omega
    · rw [r1]; have := h.rl; omega
    · rw [r1]; have := h.sz; omega
    · intro hw
      have y3 := f3.wrong hw
      have y2 := f2.wrong y3
      obtain ⟨a, b, c⟩ := h.w (f0.wrong (f1.wrong y2))
      refine ⟨by rw [d1]; exact a, ?_, by rw [d1, r1]; exact c⟩
      have fs : (next s { st1 with freq := n }).fseen = true := f3.fseen.trans f2.fseen
      have fq : (next s { st1 with freq := n }).freq = n := f3.freq
      rw [fs, fq]
      exact w2 y3
  · obtain ⟨n, st1, e1, e2⟩ := bind_ok e
    obtain ⟨m, st2, e3, e4⟩ := bind_ok e2
    obtain ⟨t, st3, e5, e6⟩ := bind_ok e4
    injection e6 with _ e6
    subst e6
    obtain ⟨hk1, rfl, rfl⟩ := want_ok e1
    obtain ⟨hk5, _, rfl⟩ := want_ok e5
    have f1 := Fwd.next f0.ok
    obtain ⟨f2, l2, w2⟩ := declNote_parts (next s st).t f1.ok
    obtain ⟨f3, l3, w3⟩ := number_ok f2.ok e3
    have f4 := Fwd.next f3.ok
    have F := (((f0.trans f1).trans f2).trans f3).trans f4
    have hle := F.left
    have l1 := f1.left
    have l4 := f4.left
    have okF : ({ next s st2 with decls := (next s st2).decls ++ [⟨declKind st.t.kind, (next s st).t.text, m⟩] } : PS).Ok s := ⟨f4.ok.i, f4.ok.pos, f4.ok.more, f4.ok.num, f4.ok.name⟩
    have lF : left s ({ next s st2 with decls := (next s st2).decls ++ [⟨declKind st.t.kind, (next s st).t.text, m⟩] } : PS) = left s (next s st2) := rfl
    have d1 : (next s st2).decls = st.decls := F.decls
    have r1 : (next s st2).rules = st.rules := F.rules
    refine ⟨⟨okF, F.depth.trans h.depth, F.loops.trans h.loops, ?_, ?_, ?_, ?_⟩, r1.trans hr, by rw [lF]; omega⟩
    · rw [lF]; show ((next s st2).decls ++ [_]).length + _ ≤ 701
      rw [d1]; have := h.dl; simp; omega
    · rw [lF]; show (next s st2).rules.length + _ ≤ 701
      rw [r1]; have := h.rl; omega
    · rw [lF]; show sizes (next s st2).rules + _ ≤ 701
      rw [r1]; have := h.sz; omega
    · intro hw
      have y4 : (next s st2).wrong = none := hw
      have y3 := f4.wrong y4
      have y2 := f3.wrong y3
      obtain ⟨a, b, c⟩ := h.w (f0.wrong (f1.wrong (f2.wrong y2)))
      obtain ⟨n1, n2⟩ := w2 y2
      have hd2 : (next s (next s st)).decls = st.decls := f1.decls.trans f0.decls
      rw [hd2] at n1 n2
      refine ⟨?_, ?_, ?_⟩
      · show DeclsW ((next s st2).decls ++ [_])
        rw [d1]
        refine ⟨by have := a.len; simp; omega, ?_, ?_⟩
        · intro d hd
          rcases List.mem_append.1 hd with hd | hd
          · exact a.each d hd
          · simp at hd
            subst hd
            refine ⟨?_, f0.ok.name hk1, (w3 y3).1, ?_⟩
            · unfold declKind; simp only; split <;> (try split) <;> omega
            · have := (w3 y3).2
              unfold declMost at this
              unfold declKind
              simp only
              split at this
              · rename_i hv; rw [if_pos hv]; simpa using this
              · rename_i hv; rw [if_neg hv]
                split <;> simpa using this
        · rw [List.map_append, List.nodup_append]
          refine ⟨a.nodup, by simp, fun x hx y hy => ?_⟩
          simp at hy
          subst hy
          rintro rfl
          exact find_neg n1 hx
      · show FreqW (next s st2).fseen (next s st2).freq
        rw [F.fseen, F.freq]; exact b
      · show RulesW ((next s st2).decls ++ [_]) (next s st2).rules
        rw [r1, hr]
        exact ⟨fun x hx => (by cases hx), (by simp)⟩

theorem declsR_mid : ∀ (n : Nat) {st st' : PS}, Mid s st → st.rules = [] → declsR s n st = .ok () st' → Mid s st' ∧ st'.rules = []
  | 0, _, _, _, _, e => by cases e
  | n + 1, st, st', h, hr, e => by
    unfold declsR at e
    split at e
    · rename_i hk
      obtain ⟨u, st1, e1, e2⟩ := bind_ok e
      obtain ⟨a, b, _⟩ := decl_mid h hk hr e1
      exact declsR_mid n a b e2
    · injection e with _ e
      subst e
      exact ⟨h, hr⟩

theorem ruleOf_none {r : List (Int × Blk)} {k : Int} (h : (ruleOf r k).isSome = false) : k ∉ r.map (·.1) := by
  intro hm
  obtain ⟨x, hx, rfl⟩ := List.mem_map.1 hm
  unfold ruleOf at h
  rw [Option.isSome_map, Option.isSome_eq_false_iff, Option.isNone_iff_eq_none, List.find?_eq_none] at h
  exact h x hx (by simp)

theorem ruleHead_mid {k : Int} (h : st.Ok s) (hk : st.t.kind = kOn) (e : ruleHead s st = .ok k st') :
    Fwd s st st' ∧ left s st' < left s st ∧ (st'.wrong = none → (k = -1 ∨ NameW st.decls false k) ∧ k ∉ st.rules.map (·.1)) := by
  have f0 := Fwd.next h
  have l0 := next_lt h hk (by decide) (by decide)
  unfold ruleHead at e
  simp only at e
  obtain ⟨k', st1, e1, e2⟩ := bind_ok e
  injection e2 with e2 e3
  subst e2
  have h1 : Fwd s (next s st) st1 ∧ (st1.wrong = none → k' = -1 ∨ NameW st.decls false k') := by
    split at e1
    · injection e1 with e1 e4
      subst e1 e4
      exact ⟨Fwd.next f0.ok, fun _ => .inl rfl⟩
    · obtain ⟨a, b, c⟩ := name_ok f0.ok e1
      exact ⟨a, fun x => .inr (c x)⟩
  obtain ⟨f1, w1⟩ := h1
  have hl := f1.left
  have hru : st1.rules = st.rules := f1.rules.trans f0.rules
  split at e3
  · subst e3
    have f2 := Fwd.note f1.ok eRule st.t.pos
    exact ⟨(f0.trans f1).trans f2, by have := f2.left; omega, fun x => absurd x (note_wrong _ _ _)⟩
  · rename_i hc
    subst e3
    refine ⟨f0.trans f1, by omega, fun x => ⟨w1 x, ruleOf_none ?_⟩⟩
    rw [x, hru] at hc
    simpa using hc

theorem rule_mid {n : Nat} (h : Mid s st) (hk : st.t.kind = kOn) (e : rule s n st = .ok () st') : Mid s st' ∧ left s st' < left s st ∧ st'.decls = st.decls := by
  unfold rule at e
  obtain ⟨k, st1, e1, e2⟩ := bind_ok e
  obtain ⟨b, st2, e3, e4⟩ := bind_ok e2
  injection e4 with _ e4
  obtain ⟨f1, l1, w1⟩ := ruleHead_mid h.ok hk e1
  obtain ⟨f2, w2, m2, dd2, nn2, z2⟩ := block_ok f1.ok (by rw [f1.depth, h.depth]; omega) (by rw [f1.loops, h.loops]; omega) e3
  rw [f1.depth, h.depth] at dd2
  rw [f1.loops, h.loops] at nn2
  have F := f1.trans f2
  split at e4
  · rename_i hw
    have hw' : st2.wrong = none := by simpa using hw
    subst e4
    have lF : left s ({ st2 with rules := st2.rules ++ [(k, b)] } : PS) = left s st2 := rfl
    refine ⟨⟨⟨F.ok.i, F.ok.pos, F.ok.more, F.ok.num, F.ok.name⟩, F.depth.trans h.depth, F.loops.trans h.loops, ?_, ?_, ?_, ?_⟩, by omega, F.decls⟩
    · rw [lF]; show st2.decls.length + _ ≤ 701
      rw [F.decls]; have := h.dl; omega
    · rw [lF]; show (st2.rules ++ [(k, b)]).length + _ ≤ 701
      rw [F.rules]; have := h.rl; simp; omega
    · rw [lF]; show sizes (st2.rules ++ [(k, b)]) + _ ≤ 701
      rw [F.rules]; have := h.sz; unfold sizes at *; simp; omega
    · intro _
      obtain ⟨a, b', c⟩ := h.w (F.wrong hw')
      obtain ⟨x1, x2⟩ := w1 (f2.wrong hw')
      refine ⟨by rw [show ({ st2 with rules := st2.rules ++ [(k, b)] } : PS).decls = st.decls from F.decls]; exact a, ?_, ?_⟩
      · show FreqW st2.fseen st2.freq
        rw [F.fseen, F.freq]; exact b'
      · show RulesW st2.decls (st2.rules ++ [(k, b)])
        rw [F.decls, F.rules]
        refine ⟨fun x hx => ?_, ?_⟩
        · rcases List.mem_append.1 hx with hx | hx
          · exact c.each x hx
          · simp at hx
            subst hx
            exact ⟨x1, by have := w2 hw'; rw [f1.decls] at this; exact this, m2, by show 1 + b.deep ≤ 8; omega, by show b.nest ≤ 2; omega⟩
        · rw [List.map_append, List.nodup_append]
          refine ⟨c.nodup, by simp, fun x hx y hy => ?_⟩
          simp at hy
          subst hy
          rintro rfl
          exact x2 hx
  · rename_i hw
    subst e4
    refine ⟨⟨F.ok, F.depth.trans h.depth, F.loops.trans h.loops, by rw [F.decls]; have := h.dl; omega, by rw [F.rules]; have := h.rl; omega, by rw [F.rules]; have := h.sz; omega, fun x => by simp [x] at hw⟩, by omega, F.decls⟩

theorem rulesR_mid {m : Nat} : ∀ (n : Nat) {st st' : PS}, Mid s st → rulesR s m n st = .ok () st' → Mid s st'
  | 0, _, _, _, e => by cases e
  | n + 1, st, st', h, e => by
    unfold rulesR at e
    split at e
    · rename_i hk
      obtain ⟨u, st1, e1, e2⟩ := bind_ok e
      exact rulesR_mid n (rule_mid h hk e1).1 e2
    · injection e with _ e
      subst e
      exact h

theorem start_mid (s : Bytes) (h : s.length ≤ 700) : Mid s (start s) := by
  have hl : left s (start s) ≤ 701 := by unfold left; omega
  refine ⟨start_ok s, rfl, rfl, by simpa [start] using hl, by simpa [start] using hl, by simpa [start, sizes] using hl, fun _ => ⟨⟨by simp [start], fun d hd => (by cases hd), by simp [start]⟩, rfl, ⟨fun x hx => (by cases hx), by simp [start]⟩⟩⟩

/-- What holds of a policy. -/
structure PolW (p : Policy) : Prop where
  decls : DeclsW p.decls
  freq : 0 ≤ p.freq ∧ p.freq ≤ 99
  rules : RulesW p.decls p.rules
  miss : (missOf p.rules).isSome
  size : sizes p.rules ≤ 700
  rl : p.rules.length ≤ 700

theorem read_W {p : Policy} (h : read s = .ok p) : PolW p := by
  unfold read at h
  split at h
  · cases h
  · rename_i h700
    split at h
    · cases h
    · rename_i t st e
      split at h
      · cases h
      · rename_i hw
        split at h
        · cases h
        · rename_i hm
          injection h with h
          subst h
          unfold readAll at e
          obtain ⟨u, st1, e1, e2⟩ := bind_ok e
          obtain ⟨u2, st2, e3, e4⟩ := bind_ok e2
          obtain ⟨a, b⟩ := declsR_mid 702 (start_mid s (by omega)) rfl e1
          have c := rulesR_mid 702 a e3
          obtain ⟨_, _, rfl⟩ := want_ok e4
          have f := Fwd.next c.ok
          obtain ⟨x, y, z⟩ := c.w (f.wrong hw)
          have hp := left_pos c.ok
          refine ⟨x, ?_, z, by simpa [Option.isSome_iff_ne_none] using hm, ?_, ?_⟩
          · show 0 ≤ st2.freq ∧ st2.freq ≤ 99
            unfold FreqW at y
            split at y <;> omega
          · have := c.sz; show sizes st2.rules ≤ 700; omega
          · have := c.rl; show st2.rules.length ≤ 700; omega
end
end Go.Proofs.YtemppijblfflgabGreatDoor.Ev
namespace Go.Proofs.YtemppijblfflgabGreatDoor.Ev

/-- Values and frequencies within their bounds. -/
structure SInv (p : Policy) (s : St) : Prop where
  q : s.q.length = p.decls.length
  v : s.vars.length = p.decls.length
  fr : ∀ (k : Nat) l, s.q[k]? = some l → ∀ e ∈ l, 0 ≤ e.freq ∧ e.freq ≤ p.freq
  vr : ∀ (k : Nat) (x : Int), s.vars[k]? = some x → 0 ≤ x ∧ x ≤ (declAt p.decls (k : Int)).max

section
variable {A : Arena} {ns : List (List Nat)} {p : Policy} {s : St}

end

end Go.Proofs.YtemppijblfflgabGreatDoor.Ev
namespace Go.Proofs.YtemppijblfflgabGreatDoor.Ev

theorem ruleOf_memW {r : List (Int × Blk)} {k : Int} {b : Blk} (h : ruleOf r k = some b) : (k, b) ∈ r := by
  unfold ruleOf at h
  rw [Option.map_eq_some_iff] at h
  obtain ⟨x, hx, rfl⟩ := h
  have h1 := List.find?_some hx
  have h2 := List.mem_of_find?_eq_some hx
  have h3 : x.1 = k := by simpa using h1
  rw [← h3]
  exact h2

theorem sizes_ge : ∀ {l : List (Int × Blk)} {x : Int × Blk}, x ∈ l → x.2.size ≤ sizes l
  | [], x, h => by cases h
  | y :: l, x, h => by
    have e : sizes (y :: l) = y.2.size + sizes l := by simp [sizes]
    rcases List.mem_cons.1 h with rfl | h
    · omega
    · have := sizes_ge h; omega

end Go.Proofs.YtemppijblfflgabGreatDoor.Ev
namespace Go.Proofs.YtemppijblfflgabGreatDoor.Ev
open Go Go.RowKit

def encI (n : Int) : Value := .int .i64 n
/-- The slots of a run. -/
structure RV where
  gr : Nat
  gg : Nat
  gp : Nat
  gs : Nat
  ga : Nat
  vd : Value
  bmv : Value
  bcv : Value
  lp : Nat
  vst : Value
  vlo : Value
  vou : Value
  vva : Value

theorem Sl.shrink {S : Nat → Prop} {w : World} {e : TypeId} {size n : Nat} {v : Value} {xs : List Value} (h : Sl S w e size v n xs) : Sl (fun b => S b ∧ b < w.heap.size) w e size v n xs := ⟨h.1, fun g hg => ⟨h.2 g hg, h.lt hg⟩⟩
theorem ARep.shrink {S : Nat → Prop} {w : World} {g bm : Nat} {A : Arena} {vl vf vq : Value} (h : ARep S w g A vl vf vq bm) : ARep (fun b => S b ∧ b < w.heap.size) w g A vl vf vq bm :=
  ⟨h.row, h.l.shrink, h.f.shrink, h.q.shrink, h.m, ⟨h.sg, h.row.lt⟩, ⟨h.sm, h.m.lt⟩⟩

section
variable {B : Nat} {w w' : World} {x : RV} {SA : Nat → Prop} {p : Policy} {key : Int} {A : Arena} {v : VS}

end
end Go.Proofs.YtemppijblfflgabGreatDoor.Ev
namespace Go.Proofs.YtemppijblfflgabGreatDoor.Ev
open Go Go.RowKit

theorem infoInt_ : (Tryz.prog.info? 3).map (fun i => (i.zero, i.size, i.bytes)) = some (some (.int .i64 0), 1, 8) := by kernel_rfl

section
variable {B : Nat} {w : World} {x : RV} {SA : Nat → Prop} {p : Policy} {key : Int} {A : Arena} {v : VS}

end
end Go.Proofs.YtemppijblfflgabGreatDoor.Ev
namespace Go.Proofs.YtemppijblfflgabGreatDoor.Ev
open Go Go.RowKit

theorem declAt_get {l : List Decl} {q : Int} (h : Ix l.length q) : l[q.toNat]? = some (declAt l q) := by
  obtain ⟨h1, h2⟩ := h
  have hlt : q.toNat < l.length := by omega
  unfold declAt
  rw [List.getElem?_eq_getElem hlt]; rfl

section
variable {B : Nat} {w : World} {x : RV} {SA : Nat → Prop} {p : Policy} {key : Int} {A : Arena} {v : VS}

end
end Go.Proofs.YtemppijblfflgabGreatDoor.Ev
namespace Go.Proofs.YtemppijblfflgabGreatDoor.Ev

/-- Key x stands in queue i. -/
def AtQ (s : St) (i : Nat) (x : Int) : Prop := ∃ l, s.q[i]? = some l ∧ x ∈ l.map (·.key)
/-! ## What each step does to who stands where -/
section
variable {p : Policy} {key : Int} {s0 : St} {r r' : Run}

end
end Go.Proofs.YtemppijblfflgabGreatDoor.Ev
namespace Go.Proofs.YtemppijblfflgabGreatDoor.Ev

theorem low_ne {c : UInt8} (h : low c = true) : blank c = false := by
  unfold low at h
  unfold blank
  simp only [Bool.and_eq_true, decide_eq_true_eq, UInt8.le_iff_toNat_le] at h
  rw [Bool.or_eq_false_iff, beq_eq_false_iff_ne, beq_eq_false_iff_ne]
  exact ⟨by rintro rfl; simp at h, by rintro rfl; simp at h⟩
/-! ## Numbers -/
theorem digitsNat_one {n : Nat} (h : n < 10) : digitsNat n = [UInt8.ofNat (48 + n)] := by rw [digitsNat, if_pos h]
theorem digitsNat_more {n : Nat} (h : ¬ n < 10) : digitsNat n = digitsNat (n / 10) ++ [UInt8.ofNat (48 + n % 10)] := by rw [digitsNat, if_neg h]

theorem fig_ofNat {n : Nat} (h : n < 10) : fig (UInt8.ofNat (48 + n)) = true ∧ (UInt8.ofNat (48 + n)).toNat = 48 + n := by
  have e : (UInt8.ofNat (48 + n)).toNat = 48 + n := by simp; omega
  refine ⟨?_, e⟩
  unfold fig
  simp only [Bool.and_eq_true, decide_eq_true_eq, UInt8.le_iff_toNat_le, e]
  exact ⟨by simp, by simp; omega⟩

theorem digitsNat_ok : ∀ (k n : Nat), n < 10 ^ (k + 1) → digitsNat n ≠ [] ∧ (digitsNat n).length ≤ k + 1 ∧ (∀ c ∈ digitsNat n, fig c = true) ∧ atoi (digitsNat n) = n := by
  intro k
  induction k with
  | zero =>
    intro n h
    have h' : n < 10 := by simpa using h
    rw [digitsNat_one h']
    refine ⟨by simp, by simp, fun c hc => ?_, ?_⟩
    · simp only [List.mem_singleton] at hc; subst hc; exact (fig_ofNat h').1
    · unfold atoi
      simp only [List.foldl_cons, List.foldl_nil, (fig_ofNat h').2]
      omega
  | succ k ih =>
    intro n h
    by_cases h10 : n < 10
    · rw [digitsNat_one h10]
      refine ⟨by simp, by simp, fun c hc => ?_, ?_⟩
      · simp only [List.mem_singleton] at hc; subst hc; exact (fig_ofNat h10).1
      · unfold atoi
        simp only [List.foldl_cons, List.foldl_nil, (fig_ofNat h10).2]
        omega
    · have h1 : n / 10 < 10 ^ (k + 1) := by
        rw [Nat.div_lt_iff_lt_mul (by omega)]
        have e : 10 ^ (k + 1 + 1) = 10 ^ (k + 1) * 10 := Nat.pow_succ _ _
        omega
      obtain ⟨a, b, c, d⟩ := ih (n / 10) h1
      have hm : n % 10 < 10 := Nat.mod_lt _ (by omega)
      rw [digitsNat_more h10]
      refine ⟨by simp, by simp; omega, fun x hx => ?_, ?_⟩
      · rcases List.mem_append.1 hx with hx | hx
        · exact c x hx
        · simp only [List.mem_singleton] at hx; subst hx; exact (fig_ofNat hm).1
      · unfold atoi at d ⊢
        rw [List.foldl_append, d]
        simp only [List.foldl_cons, List.foldl_nil, (fig_ofNat hm).2]
        omega

theorem digits_ok {n : Int} (h0 : 0 ≤ n) (h : n ≤ 999) : digits n ≠ [] ∧ (digits n).length ≤ 3 ∧ (∀ c ∈ digits n, fig c = true) ∧ atoi (digits n) = n := by
  obtain ⟨a, b, c, d⟩ := digitsNat_ok 2 n.toNat (by omega)
  exact ⟨a, b, c, by unfold digits; rw [d]; omega⟩

/-! ## The reader, token by token -/
end Go.Proofs.YtemppijblfflgabGreatDoor.Ev
namespace Go.Proofs.YtemppijblfflgabGreatDoor.Ev

abbrev T2 := Bytes × Bytes
def tk (w : Bytes) : T2 := (w, w)
/-! ## The text's tokens -/
section
variable {l : List Decl} (hl : DeclsW l)
include hl

end
end Go.Proofs.YtemppijblfflgabGreatDoor.Ev
namespace Go.Proofs.YtemppijblfflgabGreatDoor.Ev

def normC (c : Cond) : Cond := ⟨c.k, c.nots % 2⟩
def normB : Blk → Blk
  | .nil => .nil
  | .prim p r => .prim p (normB r)
  | .ite c t o e r => .ite (normC c) (normB t) o (normB e) (normB r)
  | .rep n c b r => .rep n (normC c) (normB b) (normB r)

/-- How much fuel the reader of a block's statements asks. -/
def need : Blk → Nat
  | .nil => 1
  | .prim _ r => 2 + need r
  | .ite _ t _ e r => 3 + need t + need e + need r
  | .rep _ _ b r => 3 + need b + need r

section
variable {s : Bytes} {st : PS} {t2 : T2} {ts : List T2} {d : Bytes}

end
end Go.Proofs.YtemppijblfflgabGreatDoor.Ev
namespace Go.Proofs.YtemppijblfflgabGreatDoor.Ev

def alnum (c : UInt8) : Bool := low c || fig c
def addIf (k last w : Bytes) (q : List Bytes) : List Bytes := if last = k then q ++ [w] else q

/-- What the loop makes of the rest of a text: the word so far; the word before it; the names. -/
def nm : Bytes → Bytes → Bytes → List Bytes → List Bytes → List Bytes × List Bytes
  | [], cur, last, q, g => if cur = [] then (q, g) else (addIf kQueue last cur q, addIf kGhost last cur g)
  | c :: r, cur, last, q, g =>
    if alnum c then nm r (cur ++ [c]) last q g
    else if cur = [] then nm r [] last q g
    else if cur = kOn then (addIf kQueue last cur q, addIf kGhost last cur g)
    else nm r [] cur (addIf kQueue last cur q) (addIf kGhost last cur g)

end Go.Proofs.YtemppijblfflgabGreatDoor.Ev
namespace Go.Proofs.YtemppijblfflgabGreatDoor.Ev

/-- An engine's state, at all times. -/
structure EInv (p : Policy) (s : St) : Prop where
  si : SInv p s
  nov : ∀ (j : Nat) x, AtQ s j x → (declAt p.decls (j : Int)).kind ≠ 2
  inv : ∃ A ns, AInv A ns s.q

section
variable {p : Policy} {s : St} {c : Cnt}

end
end Go.Proofs.YtemppijblfflgabGreatDoor.Ev
