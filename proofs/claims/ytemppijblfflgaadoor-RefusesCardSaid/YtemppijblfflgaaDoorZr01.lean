/- The plain words of this claim: texts, tokens, policies as trees, the reader of a policy, the one text of a policy, and what a rule does to queues of keys. No program in sight. The plain words of this claim: the one text of a policy; what a rule does to queues of keys. No program in sight. The texts of Refuses, and what is wrong with each. Printed by a program of ours (genfaults.py). No program in sight. Words for memory: rows of cells, maps keyed by integers, what a call may have turned. Over any program. The arena as plain lists: nodes, free places, ends of queues, where keys are; what its calls compute. No program in sight. How an arena lies in memory. Laws of maps keyed by integers, at the operation: store, delete, range. Over any program. Laws at the operation, for the walk: stores and deletes in maps keyed by integers; append to a slice that owns its row. Over any program. What stands for the arena's walks where a seat reaches the arena's making alone: generic words, and the call 'New'. A text as a value. Conditions: none. -/
import Derived.WalkKit
import Derived.Deep.Draws
import Derived.Lib.Hide
import Derived.MapKept
import Derived.StillTailTactics
import Derived.Maps.OwnSet
import Derived.Maps.RangeWalk
import Derived.Maps.AppendAt
import Derived.Test.YtemppijblfflgaaDoorProg
import Derived.Deep.QuietTactic
import Derived.BigQuiet
import Derived.RegionTactic
import Derived.Deep.DeepCutAuto
import Derived.Deep.DeepMust
import Derived.Laws.MakeOwn
set_option linter.all false
namespace Go.Proofs.YtemppijblfflgaaDoor.Ev

abbrev Bytes := List UInt8

/-! ## Words -/
abbrev kQueue : Bytes := [113, 117, 101, 117, 101]
abbrev kGhost : Bytes := [103, 104, 111, 115, 116]
abbrev kVar : Bytes := [118, 97, 114]
abbrev kFreq : Bytes := [102, 114, 101, 113]
abbrev kOn : Bytes := [111, 110]
abbrev kMiss : Bytes := [109, 105, 115, 115]
abbrev kPut : Bytes := [112, 117, 116]
abbrev kTail : Bytes := [116, 97, 105, 108]
abbrev kEvict : Bytes := [101, 118, 105, 99, 116]
abbrev kShift : Bytes := [115, 104, 105, 102, 116]
abbrev kDrop : Bytes := [100, 114, 111, 112]
abbrev kInc : Bytes := [105, 110, 99]
abbrev kDec : Bytes := [100, 101, 99]
abbrev kBump : Bytes := [98, 117, 109, 112]
abbrev kCool : Bytes := [99, 111, 111, 108]
abbrev kIf : Bytes := [105, 102]
abbrev kElse : Bytes := [101, 108, 115, 101]
abbrev kRepeat : Bytes := [114, 101, 112, 101, 97, 116]
abbrev kWhile : Bytes := [119, 104, 105, 108, 101]
abbrev kNot : Bytes := [110, 111, 116]
abbrev kFull : Bytes := [102, 117, 108, 108]
abbrev kEmpty : Bytes := [101, 109, 112, 116, 121]
abbrev kWarm : Bytes := [119, 97, 114, 109]
abbrev kLen : Bytes := [108, 101, 110]
abbrev kName : Bytes := [110, 97, 109, 101]
abbrev kNumber : Bytes := [110, 117, 109, 98, 101, 114]
abbrev kEnd : Bytes := [101, 110, 100]
abbrev kNone : Bytes := [110, 111, 110, 101]
abbrev kSemi : Bytes := [59]
abbrev kOpen : Bytes := [123]
abbrev kClose : Bytes := [125]
abbrev kLess : Bytes := [60]
def keywords : List Bytes := [kQueue, kGhost, kVar, kFreq, kOn, kMiss, kPut, kTail, kEvict, kShift, kDrop, kInc, kDec, kBump, kCool, kIf, kElse, kRepeat, kWhile, kNot, kFull, kEmpty, kWarm, kLen]

/-! ## Tokens -/
def blank (c : UInt8) : Bool := c == 32 || c == 10
def low (c : UInt8) : Bool := decide (97 ≤ c) && decide (c ≤ 122)
def fig (c : UInt8) : Bool := decide (48 ≤ c) && decide (c ≤ 57)
def punct (c : UInt8) : Bool := c == 59 || c == 123 || c == 125 || c == 60

structure Tok where
  kind : Bytes
  text : Bytes
  pos : Nat

/-- The first place from i on at which p fails. -/
def skip (p : UInt8 → Bool) (s : Bytes) (i : Nat) : Nat := i + ((s.drop i).takeWhile p).length

def piece (s : Bytes) (i k : Nat) : Bytes := (s.take k).drop i

/-- The token at or behind place i0, and the place at which the reading goes on. -/
def lex (s : Bytes) (i0 : Nat) : Tok × Nat :=
  let i := skip blank s i0
  match s[i]? with
  | none => (⟨kEnd, [], i⟩, i)
  | some c =>
    if low c then
      let k := skip low s i
      if 8 < k - i then (⟨kNone, [], i⟩, i)
      else (⟨if keywords.contains (piece s i k) then piece s i k else kName, piece s i k, i⟩, k)
    else if fig c then
      let k := skip fig s i
      if 3 < k - i then (⟨kNone, [], i⟩, i) else (⟨kNumber, piece s i k, i⟩, k)
    else if punct c then (⟨[c], [c], i⟩, i + 1)
    else (⟨kNone, [], i⟩, i)

/-! ## Errors -/
def eLong : Nat := 1
def eSyntax : Nat := 2
def eDeep : Nat := 3
def eTwice : Nat := 4
def eNone : Nat := 5
def eKind : Nat := 6
def eNumber : Nat := 7
def eRule : Nat := 8
def eMany : Nat := 9
def eMiss : Nat := 10
def eFull : Nat := 11
def eEmpty : Nat := 12
/-! ## Policies as trees -/
/-- What is declared: kind 0 a queue, 1 a ghost, 2 a variable. -/
structure Decl where
  kind : Nat
  name : Bytes
  max : Int

inductive Val where
  | num (n : Int)
  | var (n : Int)
  | len (n : Int)
  | freq

inductive CK where
  | full (n : Int)
  | empty (n : Int)
  | warm (n : Int)
  | less (a b : Val)

structure Cond where
  k : CK
  nots : Nat

inductive Prim where
  | put (q : Int) (tail : Bool)
  | evict (q : Int)
  | cool (q : Int)
  | shift (q p : Int) (tail : Bool)
  | inc (v : Int)
  | dec (v : Int)
  | drop
  | bump

/-- A block: its statements, one behind the other. -/
inductive Blk where
  | nil
  | prim (p : Prim) (rest : Blk)
  | ite (c : Cond) (thn : Blk) (other : Bool) (els : Blk) (rest : Blk)
  | rep (n : Int) (c : Cond) (body : Blk) (rest : Blk)

/-- One statement (its rest is nil) ahead of a block. -/
def Blk.app : Blk → Blk → Blk
  | .nil, r => r
  | .prim p x, r => .prim p (x.app r)
  | .ite c t o e x, r => .ite c t o e (x.app r)
  | .rep n c b x, r => .rep n c b (x.app r)

def Blk.length : Blk → Nat
  | .nil => 0
  | .prim _ x => x.length + 1
  | .ite _ _ _ _ x => x.length + 1
  | .rep _ _ _ x => x.length + 1

/-! ## The reader of a policy -/
structure PS where
  t : Tok
  i : Nat
  decls : List Decl
  freq : Int
  fseen : Bool
  rules : List (Int × Blk)
  depth : Nat
  loops : Nat
  wrong : Option (Nat × Nat)

inductive Out (α : Type) where
  | ok (a : α) (st : PS)
  | bad (e : Nat) (pos : Nat)

def Out.bind {α β : Type} (x : Out α) (f : α → PS → Out β) : Out β :=
  match x with
  | .ok a st => f a st
  | .bad e p => .bad e p

def Out.map {α β : Type} (f : α → β) : Out α → Out β
  | .ok a st => .ok (f a) st
  | .bad e p => .bad e p

def next (s : Bytes) (st : PS) : PS := { st with t := (lex s st.i).1, i := (lex s st.i).2 }

def fail {α : Type} (e : Nat) (st : PS) : Out α := .bad e st.t.pos

def note (e : Nat) (pos : Nat) (st : PS) : PS :=
  match st.wrong with
  | none => { st with wrong := some (e, pos) }
  | some _ => st

def want (s : Bytes) (k : Bytes) (st : PS) : Out Tok :=
  if st.t.kind = k then .ok st.t (next s st) else fail eSyntax st

def take (s : Bytes) (k : Bytes) (st : PS) : Bool × PS :=
  if st.t.kind = k then (true, next s st) else (false, st)

def atoi (l : Bytes) : Int := l.foldl (fun n c => 10 * n + ((c.toNat : Int) - 48)) 0

def number (s : Bytes) (least most : Int) (st : PS) : Out Int :=
  (want s kNumber st).bind fun t st =>
    .ok (atoi t.text) (if atoi t.text < least ∨ atoi t.text > most then note eNumber t.pos st else st)

def findFrom (name : Bytes) : List Decl → Nat → Int
  | [], _ => -1
  | d :: l, k => if d.name = name then (k : Int) else findFrom name l (k + 1)

def find (l : List Decl) (name : Bytes) : Int := findFrom name l 0

def declAt (l : List Decl) (k : Int) : Decl := (l[k.toNat]?).getD ⟨0, [], 0⟩

/-- What a name stands for: noted, if it is not declared, or is of another kind. -/
def nameNote (variable_ : Bool) (t : Tok) (st : PS) : PS :=
  if find st.decls t.text < 0 then note eNone t.pos st
  else if ((declAt st.decls (find st.decls t.text)).kind == 2) != variable_ then note eKind t.pos st
  else st

def name (s : Bytes) (variable_ : Bool) (st : PS) : Out Int :=
  (want s kName st).bind fun t st => .ok (find st.decls t.text) (nameNote variable_ t st)

def declMost (kind : Bytes) : Int := if kind = kVar then 99 else 50
def declKind (kind : Bytes) : Nat := if kind = kVar then 2 else if kind = kGhost then 1 else 0

def declNote (n : Tok) (st : PS) : PS :=
  let st := if 0 ≤ find st.decls n.text then note eTwice n.pos st else st
  if st.decls.length = 8 then note eMany n.pos st else st

def decl (s : Bytes) (st : PS) : Out Unit :=
  let t := st.t
  let st := next s st
  if t.kind = kFreq then
    let st := if st.fseen then note eTwice t.pos st else st
    let st := { st with fseen := true }
    (number s 1 99 st).bind fun n st => (want s kSemi { st with freq := n }).bind fun _ st => .ok () st
  else
    (want s kName st).bind fun n st =>
      (number s 1 (declMost t.kind) (declNote n st)).bind fun m st =>
        (want s kSemi st).bind fun _ st => .ok () { st with decls := st.decls ++ [⟨declKind t.kind, n.text, m⟩] }

def value (s : Bytes) (st : PS) : Out Val :=
  if st.t.kind = kNumber then (number s 0 999 st).map .num
  else if st.t.kind = kLen then (name s false (next s st)).map .len
  else if st.t.kind = kFreq then .ok .freq (next s st)
  else (name s true st).map .var

def condBase (s : Bytes) (st : PS) : Out Cond :=
  if st.t.kind = kFull then (name s false (next s st)).map fun n => ⟨.full n, 0⟩
  else if st.t.kind = kEmpty then (name s false (next s st)).map fun n => ⟨.empty n, 0⟩
  else if st.t.kind = kWarm then (name s false (next s st)).map fun n => ⟨.warm n, 0⟩
  else (value s st).bind fun a st => (want s kLess st).bind fun _ st => (value s st).map fun b => ⟨.less a b, 0⟩

def cond (s : Bytes) : Nat → PS → Out Cond
  | 0, st => fail eSyntax st
  | n + 1, st =>
    if st.t.kind = kNot then (cond s n (next s st)).map fun c => ⟨c.k, c.nots + 1⟩
    else condBase s st

mutual
/-- A block. The first number bounds the calls within each other; it is never met. -/
def block (s : Bytes) : Nat → PS → Out Blk
  | 0, st => fail eSyntax st
  | n + 1, st =>
    if st.t.kind = kOpen ∧ st.depth = 8 then fail eDeep st
    else (want s kOpen st).bind fun _ st =>
      (stmts s n { st with depth := st.depth + 1 }).bind fun b st => .ok b (next s { st with depth := st.depth - 1 })
def stmts (s : Bytes) : Nat → PS → Out Blk
  | 0, st => fail eSyntax st
  | n + 1, st =>
    if st.t.kind = kClose then .ok .nil st
    else (stmt s n st).bind fun x st => (stmts s n st).map fun r => x.app r
def stmt (s : Bytes) : Nat → PS → Out Blk
  | 0, st => fail eSyntax st
  | n + 1, st =>
    let semi (x : Prim) (st : PS) : Out Blk := (want s kSemi st).bind fun _ st => .ok (.prim x .nil) st
    if st.t.kind = kPut then (name s false (next s st)).bind fun q st => semi (.put q (take s kTail st).1) (take s kTail st).2
    else if st.t.kind = kEvict then (name s false (next s st)).bind fun q st => semi (.evict q) st
    else if st.t.kind = kCool then (name s false (next s st)).bind fun q st => semi (.cool q) st
    else if st.t.kind = kShift then (name s false (next s st)).bind fun q st => (name s false st).bind fun p st =>
      semi (.shift q p (take s kTail st).1) (take s kTail st).2
    else if st.t.kind = kInc then (name s true (next s st)).bind fun v st => semi (.inc v) st
    else if st.t.kind = kDec then (name s true (next s st)).bind fun v st => semi (.dec v) st
    else if st.t.kind = kDrop then semi .drop (next s st)
    else if st.t.kind = kBump then semi .bump (next s st)
    else if st.t.kind = kIf then
      (cond s (n + 1) (next s st)).bind fun c st => (block s n st).bind fun t st =>
        if st.t.kind = kElse then (block s n (next s st)).bind fun e st => .ok (.ite c t true e .nil) st
        else .ok (.ite c t false .nil .nil) st
    else if st.t.kind = kRepeat then
      if st.loops = 2 then fail eDeep st
      else (number s 1 50 (next s st)).bind fun k st => (want s kWhile st).bind fun _ st => (cond s (n + 1) st).bind fun c st =>
        (block s n { st with loops := st.loops + 1 }).bind fun b st => .ok (.rep k c b .nil) { st with loops := st.loops - 1 }
    else fail eSyntax st
end

def ruleOf (rules : List (Int × Blk)) (k : Int) : Option Blk := (rules.find? (fun x => x.1 == k)).map (·.2)

/-- Behind the word on: for which event; noted, if there is a rule for it. -/
def ruleHead (s : Bytes) (st : PS) : Out Int :=
  let at_ := st.t.pos
  let st := next s st
  let x : Out Int := if st.t.kind = kMiss then .ok (-1) (next s st) else name s false st
  x.bind fun k st => .ok k (if (ruleOf st.rules k).isSome && st.wrong.isNone then note eRule at_ st else st)

def rule (s : Bytes) (n : Nat) (st : PS) : Out Unit :=
  (ruleHead s st).bind fun k st => (block s n st).bind fun b st =>
    .ok () (if st.wrong.isNone then { st with rules := st.rules ++ [(k, b)] } else st)

def isDecl (k : Bytes) : Bool := k == kQueue || k == kGhost || k == kVar || k == kFreq

def declsR (s : Bytes) : Nat → PS → Out Unit
  | 0, st => fail eSyntax st
  | n + 1, st => if isDecl st.t.kind then (decl s st).bind fun _ st => declsR s n st else .ok () st

def rulesR (s : Bytes) (m : Nat) : Nat → PS → Out Unit
  | 0, st => fail eSyntax st
  | n + 1, st => if st.t.kind = kOn then (rule s m st).bind fun _ st => rulesR s m n st else .ok () st

def start (s : Bytes) : PS := ⟨(lex s 0).1, (lex s 0).2, [], 0, false, [], 0, 0, none⟩

def readAll (s : Bytes) : Out Tok :=
  (declsR s 702 (start s)).bind fun _ st => (rulesR s 1500 702 st).bind fun _ st => want s kEnd st

structure Policy where
  decls : List Decl
  freq : Int
  rules : List (Int × Blk)

def missOf (rules : List (Int × Blk)) : Option Blk := ruleOf rules (-1)

/-- THE POLICY of a text, or its error and where. -/
def read (s : Bytes) : Except (Nat × Nat) Policy :=
  if 700 < s.length then .error (eLong, 0)
  else match readAll s with
    | .bad e p => .error (e, p)
    | .ok _ st => match st.wrong with
      | some x => .error x
      | none => if (missOf st.rules).isNone then .error (eMiss, 0) else .ok ⟨st.decls, st.freq, st.rules⟩

end Go.Proofs.YtemppijblfflgaaDoor.Ev
namespace Go.Proofs.YtemppijblfflgaaDoor.Ev

/-! ## The one text -/
def digitsNat (n : Nat) : Bytes :=
  if n < 10 then [UInt8.ofNat (48 + n)] else digitsNat (n / 10) ++ [UInt8.ofNat (48 + n % 10)]
termination_by n
decreasing_by omega

def digits (n : Int) : Bytes := digitsNat n.toNat

def bSp : Bytes := [32]
def nameOf (l : List Decl) (k : Int) : Bytes := (declAt l k).name

def showVal (l : List Decl) : Val → Bytes
  | .num n => digits n
  | .var k => nameOf l k
  | .len k => kLen ++ bSp ++ nameOf l k
  | .freq => kFreq

def showCK (l : List Decl) : CK → Bytes
  | .full k => kFull ++ bSp ++ nameOf l k
  | .empty k => kEmpty ++ bSp ++ nameOf l k
  | .warm k => kWarm ++ bSp ++ nameOf l k
  | .less a b => showVal l a ++ [32, 60, 32] ++ showVal l b

def showCond (l : List Decl) (c : Cond) : Bytes := (if c.nots % 2 = 1 then kNot ++ bSp else []) ++ showCK l c.k

def showTail (t : Bool) : Bytes := if t then bSp ++ kTail else []

def showPrim (l : List Decl) : Prim → Bytes
  | .put q t => kPut ++ bSp ++ nameOf l q ++ showTail t ++ kSemi
  | .evict q => kEvict ++ bSp ++ nameOf l q ++ kSemi
  | .cool q => kCool ++ bSp ++ nameOf l q ++ kSemi
  | .shift q p t => kShift ++ bSp ++ nameOf l q ++ bSp ++ nameOf l p ++ showTail t ++ kSemi
  | .inc v => kInc ++ bSp ++ nameOf l v ++ kSemi
  | .dec v => kDec ++ bSp ++ nameOf l v ++ kSemi
  | .drop => kDrop ++ kSemi
  | .bump => kBump ++ kSemi

/-- The statements of a block, a blank ahead of each. -/
def showStmts (l : List Decl) : Blk → Bytes
  | .nil => []
  | .prim p r => bSp ++ showPrim l p ++ showStmts l r
  | .ite c t o e r => bSp ++ (kIf ++ bSp ++ showCond l c ++ bSp ++ (kOpen ++ showStmts l t ++ bSp ++ kClose) ++
      (if o then bSp ++ kElse ++ bSp ++ (kOpen ++ showStmts l e ++ bSp ++ kClose) else [])) ++ showStmts l r
  | .rep n c b r => bSp ++ (kRepeat ++ bSp ++ digits n ++ bSp ++ kWhile ++ bSp ++ showCond l c ++ bSp ++ (kOpen ++ showStmts l b ++ bSp ++ kClose)) ++ showStmts l r

def showBlk (l : List Decl) (b : Blk) : Bytes := kOpen ++ showStmts l b ++ bSp ++ kClose

def kindWord (k : Nat) : Bytes := if k = 0 then kQueue else if k = 1 then kGhost else kVar

def showDecl (d : Decl) : Bytes := kindWord d.kind ++ bSp ++ d.name ++ bSp ++ digits d.max ++ [59, 10]

def showFreq (f : Int) : Bytes := if 0 < f then kFreq ++ bSp ++ digits f ++ [59, 10] else []

def showRule (p : Policy) (k : Nat) : Bytes :=
  match ruleOf p.rules (k : Int) with
  | some b => kOn ++ bSp ++ nameOf p.decls (k : Int) ++ bSp ++ showBlk p.decls b ++ [10]
  | none => []

def showRules (p : Policy) : Nat → Bytes
  | 0 => []
  | k + 1 => showRules p k ++ showRule p k

def showMiss (p : Policy) : Bytes := kOn ++ bSp ++ kMiss ++ bSp ++ showBlk p.decls ((missOf p.rules).getD .nil) ++ [10]

/-- THE ONE TEXT of a policy. -/
def text (p : Policy) : Bytes := (p.decls.map showDecl).flatten ++ showFreq p.freq ++ showRules p p.decls.length ++ showMiss p

/-! ## What a rule does -/
structure Ent where
  key : Int
  freq : Int

/-- By declaration: a sequence of entries, from the head on; a variable's value. -/
structure St where
  q : List (List Ent)
  vars : List Int

def St.queue (s : St) (k : Int) : List Ent := (s.q[k.toNat]?).getD []
def St.setQueue (s : St) (k : Int) (l : List Ent) : St := { s with q := s.q.set k.toNat l }
def St.var (s : St) (k : Int) : Int := (s.vars[k.toNat]?).getD 0

def placeFrom (key : Int) : List Ent → Nat → Option Nat
  | [], _ => none
  | e :: l, i => if e.key = key then some i else placeFrom key l (i + 1)

def whereFrom (key : Int) : List (List Ent) → Nat → Option (Nat × Nat)
  | [], _ => none
  | l :: r, k => match placeFrom key l 0 with
    | some i => some (k, i)
    | none => whereFrom key r (k + 1)

/-- The queue and the place of a key. -/
def St.find (s : St) (key : Int) : Option (Nat × Nat) := whereFrom key s.q 0

def resident (l : List Decl) (k : Int) : Bool := decide (0 ≤ k) && (declAt l k).kind == 0

def entAt (l : List Ent) (i : Nat) : Ent := (l[i]?).getD ⟨0, 0⟩

/-- A run: the state; what was evicted. -/
structure Run where
  s : St
  gone : List Int

def Run.leaves (l : List Decl) (from_ : Int) (key : Int) (r : Run) : Run :=
  if resident l from_ then { r with gone := r.gone ++ [key] } else r

/-- An entry that was in queue from (-1: nowhere) comes to another. -/
def comes (l : List Decl) (e : Ent) (from_ to_ : Int) (tail : Bool) (r : Run) : Except Nat Run :=
  if (declAt l to_).max ≤ ((r.s.queue to_).length : Int) then .error eFull
  else
    let s := r.s.setQueue to_ (if tail then r.s.queue to_ ++ [e] else e :: r.s.queue to_)
    .ok (if resident l to_ then { r with s := s } else Run.leaves l from_ e.key { r with s := s })

def St.out (s : St) (q : Nat) (i : Nat) : St := { s with q := s.q.set q (((s.q[q]?).getD []).eraseIdx i) }

def lastEnt (l : List Ent) : Ent := entAt l (l.length - 1)

def setFreq (l : List Ent) (i : Nat) (f : Int) : List Ent := l.set i { (entAt l i) with freq := f }

def prim (p : Policy) (key : Int) (x : Prim) (r : Run) : Except Nat Run :=
  match x with
  | .put q t => match r.s.find key with
    | some (k, i) => comes p.decls (entAt (r.s.queue k) i) k q t { r with s := r.s.out k i }
    | none => comes p.decls ⟨key, 0⟩ (-1) q t r
  | .drop => match r.s.find key with
    | some (k, i) => .ok (Run.leaves p.decls k key { r with s := r.s.out k i })
    | none => .ok r
  | .inc v => .ok (if r.s.var v < (declAt p.decls v).max then { r with s := { r.s with vars := r.s.vars.set v.toNat (r.s.var v + 1) } } else r)
  | .dec v => .ok (if 0 < r.s.var v then { r with s := { r.s with vars := r.s.vars.set v.toNat (r.s.var v - 1) } } else r)
  | .bump => match r.s.find key with
    | some (k, i) => .ok (if (entAt (r.s.queue k) i).freq < p.freq then
        { r with s := r.s.setQueue k (setFreq (r.s.queue k) i ((entAt (r.s.queue k) i).freq + 1)) } else r)
    | none => .ok r
  | .cool q =>
    if r.s.queue q = [] then .error eEmpty
    else .ok (if 0 < (lastEnt (r.s.queue q)).freq then
      { r with s := r.s.setQueue q (setFreq (r.s.queue q) ((r.s.queue q).length - 1) ((lastEnt (r.s.queue q)).freq - 1)) } else r)
  | .evict q =>
    if r.s.queue q = [] then .error eEmpty
    else .ok (Run.leaves p.decls q (lastEnt (r.s.queue q)).key { r with s := r.s.setQueue q (r.s.queue q).dropLast })
  | .shift q t tl =>
    if r.s.queue q = [] then .error eEmpty
    else comes p.decls (lastEnt (r.s.queue q)) q t tl { r with s := r.s.setQueue q (r.s.queue q).dropLast }

end Go.Proofs.YtemppijblfflgaaDoor.Ev
namespace Go.Proofs.YtemppijblfflgaaDoor.Ev

/-- A text is a policy (0), or that is wrong with it, there. -/
def isFault (s : Bytes) (e pos : Nat) : Bool :=
  match read s with
  | .ok _ => e == 0 && pos == 0
  | .error x => e != 0 && x.1 == e && x.2 == pos

def faultT0 : Bytes := [113, 117, 101, 117, 101, 32, 114, 32, 49, 59, 32, 111, 110, 32, 109, 105, 115, 115, 32, 123, 32, 125] ++ List.replicate 678 32
theorem faultOk0 : isFault faultT0 0 0 = true := by decide +kernel
def faultT1 : Bytes := [113, 117, 101, 117, 101, 32, 114, 32, 49, 59, 32, 111, 110, 32, 109, 105, 115, 115, 32, 123, 32, 125] ++ List.replicate 679 32
theorem faultOk1 : isFault faultT1 1 0 = true := by decide +kernel
def faultT2 : Bytes := [113, 117, 101, 117, 101, 32, 114, 32, 49, 59, 32, 111, 110, 32, 109, 105, 115, 115, 32, 123, 32, 105, 102, 32, 102, 117, 108, 108, 32, 114, 32, 123, 32, 105, 102, 32, 102, 117, 108, 108, 32, 114, 32, 123, 32, 105, 102, 32, 102, 117, 108, 108, 32, 114, 32, 123, 32, 105, 102, 32, 102, 117, 108, 108, 32, 114, 32, 123, 32, 105, 102, 32, 102, 117, 108, 108, 32, 114, 32, 123, 32, 105, 102, 32, 102, 117, 108, 108, 32, 114, 32, 123, 32, 105, 102, 32, 102, 117, 108, 108, 32, 114, 32, 123, 32, 125, 32, 125, 32, 125, 32, 125, 32, 125, 32, 125, 32, 125, 32, 125]
theorem faultOk2 : isFault faultT2 0 0 = true := by decide +kernel
def faultT3 : Bytes := [113, 117, 101, 117, 101, 32, 114, 32, 49, 59, 32, 111, 110, 32, 109, 105, 115, 115, 32, 123, 32, 105, 102, 32, 102, 117, 108, 108, 32, 114, 32, 123, 32, 105, 102, 32, 102, 117, 108, 108, 32, 114, 32, 123, 32, 105, 102, 32, 102, 117, 108, 108, 32, 114, 32, 123, 32, 105, 102, 32, 102, 117, 108, 108, 32, 114, 32, 123, 32, 105, 102, 32, 102, 117, 108, 108, 32, 114, 32, 123, 32, 105, 102, 32, 102, 117, 108, 108, 32, 114, 32, 123, 32, 105, 102, 32, 102, 117, 108, 108, 32, 114, 32, 123, 32, 105, 102, 32, 102, 117, 108, 108, 32, 114, 32, 123, 32, 125, 32, 125, 32, 125, 32, 125, 32, 125, 32, 125, 32, 125, 32, 125, 32, 125]
theorem faultOk3 : isFault faultT3 3 115 = true := by decide +kernel
def faultT4 : Bytes := [113, 117, 101, 117, 101, 32, 113, 97, 32, 49, 59, 32, 113, 117, 101, 117, 101, 32, 113, 98, 32, 49, 59, 32, 113, 117, 101, 117, 101, 32, 113, 99, 32, 49, 59, 32, 113, 117, 101, 117, 101, 32, 113, 100, 32, 49, 59, 32, 113, 117, 101, 117, 101, 32, 113, 101, 32, 49, 59, 32, 113, 117, 101, 117, 101, 32, 113, 102, 32, 49, 59, 32, 113, 117, 101, 117, 101, 32, 113, 103, 32, 49, 59, 32, 113, 117, 101, 117, 101, 32, 113, 104, 32, 49, 59, 32, 111, 110, 32, 109, 105, 115, 115, 32, 123, 32, 125]
theorem faultOk4 : isFault faultT4 0 0 = true := by decide +kernel
def faultT5 : Bytes := [113, 117, 101, 117, 101, 32, 113, 97, 32, 49, 59, 32, 113, 117, 101, 117, 101, 32, 113, 98, 32, 49, 59, 32, 113, 117, 101, 117, 101, 32, 113, 99, 32, 49, 59, 32, 113, 117, 101, 117, 101, 32, 113, 100, 32, 49, 59, 32, 113, 117, 101, 117, 101, 32, 113, 101, 32, 49, 59, 32, 113, 117, 101, 117, 101, 32, 113, 102, 32, 49, 59, 32, 113, 117, 101, 117, 101, 32, 113, 103, 32, 49, 59, 32, 113, 117, 101, 117, 101, 32, 113, 104, 32, 49, 59, 32, 118, 97, 114, 32, 120, 32, 49, 59, 32, 111, 110, 32, 109, 105, 115, 115, 32, 123, 32, 125]
theorem faultOk5 : isFault faultT5 9 100 = true := by decide +kernel
def faultT6 : Bytes := [113, 117, 101, 117, 101, 32, 113, 97, 32, 49, 59, 32, 113, 117, 101, 117, 101, 32, 113, 98, 32, 49, 59, 32, 113, 117, 101, 117, 101, 32, 113, 99, 32, 49, 59, 32, 113, 117, 101, 117, 101, 32, 113, 100, 32, 49, 59, 32, 113, 117, 101, 117, 101, 32, 113, 101, 32, 49, 59, 32, 113, 117, 101, 117, 101, 32, 113, 102, 32, 49, 59, 32, 113, 117, 101, 117, 101, 32, 113, 103, 32, 49, 59, 32, 113, 117, 101, 117, 101, 32, 113, 104, 32, 49, 59, 32, 102, 114, 101, 113, 32, 49, 59, 32, 111, 110, 32, 109, 105, 115, 115, 32, 123, 32, 125]
theorem faultOk6 : isFault faultT6 0 0 = true := by decide +kernel
def faultT7 : Bytes := []
theorem faultOk7 : isFault faultT7 10 0 = true := by decide +kernel
def faultT8 : Bytes := [113, 117, 101, 117, 101, 32, 114, 32, 49, 59]
theorem faultOk8 : isFault faultT8 10 0 = true := by decide +kernel
def faultT9 : Bytes := [113, 117, 101, 117, 101, 32, 114, 32, 49, 59, 32, 111, 110, 32, 114, 32, 123, 32, 125]
theorem faultOk9 : isFault faultT9 10 0 = true := by decide +kernel
def faultT10 : Bytes := [111, 110, 32, 109, 105, 115, 115, 32, 123, 32, 125]
theorem faultOk10 : isFault faultT10 0 0 = true := by decide +kernel
def faultT11 : Bytes := [111, 110, 32, 109, 105, 115, 115, 32, 123, 32, 125, 32, 120]
theorem faultOk11 : isFault faultT11 2 12 = true := by decide +kernel
def faultT12 : Bytes := [113, 117, 101, 117, 101]
theorem faultOk12 : isFault faultT12 2 5 = true := by decide +kernel
def faultT13 : Bytes := [113, 117, 101, 117, 101, 32, 114]
theorem faultOk13 : isFault faultT13 2 7 = true := by decide +kernel
def faultT14 : Bytes := [113, 117, 101, 117, 101, 32, 114, 32, 49]
theorem faultOk14 : isFault faultT14 2 9 = true := by decide +kernel
def faultT15 : Bytes := [113, 117, 101, 117, 101, 32, 49, 32, 114, 59]
theorem faultOk15 : isFault faultT15 2 6 = true := by decide +kernel
def faultT16 : Bytes := [113, 117, 101, 117, 101, 32, 111, 110, 32, 49, 59]
theorem faultOk16 : isFault faultT16 2 6 = true := by decide +kernel
def faultT17 : Bytes := [113, 117, 101, 117, 101, 32, 97, 98, 99, 100, 101, 102, 103, 104, 32, 49, 59, 32, 111, 110, 32, 109, 105, 115, 115, 32, 123, 32, 125]
theorem faultOk17 : isFault faultT17 0 0 = true := by decide +kernel
def faultT18 : Bytes := [113, 117, 101, 117, 101, 32, 97, 98, 99, 100, 101, 102, 103, 104, 105, 32, 49, 59, 32, 111, 110, 32, 109, 105, 115, 115, 32, 123, 32, 125]
theorem faultOk18 : isFault faultT18 2 6 = true := by decide +kernel
def faultT19 : Bytes := [113, 117, 101, 117, 101, 32, 114, 32, 48, 59, 32, 111, 110, 32, 109, 105, 115, 115, 32, 123, 32, 125]
theorem faultOk19 : isFault faultT19 7 8 = true := by decide +kernel
def faultT20 : Bytes := [113, 117, 101, 117, 101, 32, 114, 32, 53, 48, 59, 32, 111, 110, 32, 109, 105, 115, 115, 32, 123, 32, 125]
theorem faultOk20 : isFault faultT20 0 0 = true := by decide +kernel
def faultT21 : Bytes := [113, 117, 101, 117, 101, 32, 114, 32, 53, 49, 59, 32, 111, 110, 32, 109, 105, 115, 115, 32, 123, 32, 125]
theorem faultOk21 : isFault faultT21 7 8 = true := by decide +kernel
def faultT22 : Bytes := [103, 104, 111, 115, 116, 32, 114, 32, 53, 49, 59, 32, 111, 110, 32, 109, 105, 115, 115, 32, 123, 32, 125]
theorem faultOk22 : isFault faultT22 7 8 = true := by decide +kernel
def faultT23 : Bytes := [113, 117, 101, 117, 101, 32, 114, 32, 49, 48, 48, 48, 59, 32, 111, 110, 32, 109, 105, 115, 115, 32, 123, 32, 125]
theorem faultOk23 : isFault faultT23 2 8 = true := by decide +kernel
def faultT24 : Bytes := [113, 117, 101, 117, 101, 32, 114, 32, 48, 48, 55, 59, 32, 111, 110, 32, 109, 105, 115, 115, 32, 123, 32, 125]
theorem faultOk24 : isFault faultT24 0 0 = true := by decide +kernel
def faultT25 : Bytes := [118, 97, 114, 32, 114, 32, 57, 57, 59, 32, 111, 110, 32, 109, 105, 115, 115, 32, 123, 32, 125]
theorem faultOk25 : isFault faultT25 0 0 = true := by decide +kernel
def faultT26 : Bytes := [118, 97, 114, 32, 114, 32, 49, 48, 48, 59, 32, 111, 110, 32, 109, 105, 115, 115, 32, 123, 32, 125]
theorem faultOk26 : isFault faultT26 7 6 = true := by decide +kernel
def faultT27 : Bytes := [102, 114, 101, 113, 32, 57, 57, 59, 32, 111, 110, 32, 109, 105, 115, 115, 32, 123, 32, 125]
theorem faultOk27 : isFault faultT27 0 0 = true := by decide +kernel
def faultT28 : Bytes := [102, 114, 101, 113, 32, 49, 48, 48, 59, 32, 111, 110, 32, 109, 105, 115, 115, 32, 123, 32, 125]
theorem faultOk28 : isFault faultT28 7 5 = true := by decide +kernel
def faultT29 : Bytes := [102, 114, 101, 113, 32, 48, 59, 32, 111, 110, 32, 109, 105, 115, 115, 32, 123, 32, 125]
theorem faultOk29 : isFault faultT29 7 5 = true := by decide +kernel
def faultT30 : Bytes := [102, 114, 101, 113, 32, 49, 59, 32, 102, 114, 101, 113, 32, 50, 59, 32, 111, 110, 32, 109, 105, 115, 115, 32, 123, 32, 125]
theorem faultOk30 : isFault faultT30 4 8 = true := by decide +kernel
def faultT31 : Bytes := [113, 117, 101, 117, 101, 32, 114, 32, 49, 59, 32, 118, 97, 114, 32, 114, 32, 50, 59, 32, 111, 110, 32, 109, 105, 115, 115, 32, 123, 32, 125]
theorem faultOk31 : isFault faultT31 4 15 = true := by decide +kernel
def faultT32 : Bytes := [81, 117, 101, 117, 101, 32, 114, 32, 49, 59]
theorem faultOk32 : isFault faultT32 2 0 = true := by decide +kernel
def faultT33 : Bytes := [113, 117, 101, 117, 101, 32, 114, 32, 49, 59, 9, 111, 110, 32, 109, 105, 115, 115, 32, 123, 32, 125]
theorem faultOk33 : isFault faultT33 2 10 = true := by decide +kernel
def faultT34 : Bytes := [113, 117, 101, 117, 101, 32, 114, 32, 49, 59, 10, 111, 110, 10, 109, 105, 115, 115, 123, 125]
theorem faultOk34 : isFault faultT34 0 0 = true := by decide +kernel
def faultT35 : Bytes := [111, 110, 32, 109, 105, 115, 115, 32, 123, 32, 125, 32, 111, 110, 32, 109, 105, 115, 115, 32, 123, 32, 125]
theorem faultOk35 : isFault faultT35 8 12 = true := by decide +kernel
def faultT36 : Bytes := [113, 117, 101, 117, 101, 32, 114, 32, 49, 59, 32, 111, 110, 32, 114, 32, 123, 32, 125, 32, 111, 110, 32, 114, 32, 123, 32, 125, 32, 111, 110, 32, 109, 105, 115, 115, 32, 123, 32, 125]
theorem faultOk36 : isFault faultT36 8 20 = true := by decide +kernel
def faultT37 : Bytes := [111, 110, 32, 120, 32, 123, 32, 125, 32, 111, 110, 32, 109, 105, 115, 115, 32, 123, 32, 125]
theorem faultOk37 : isFault faultT37 5 3 = true := by decide +kernel
def faultT38 : Bytes := [118, 97, 114, 32, 120, 32, 49, 59, 32, 111, 110, 32, 120, 32, 123, 32, 125, 32, 111, 110, 32, 109, 105, 115, 115, 32, 123, 32, 125]
theorem faultOk38 : isFault faultT38 6 12 = true := by decide +kernel
def faultT39 : Bytes := [111, 110, 32, 109, 105, 115, 115, 32, 123]
theorem faultOk39 : isFault faultT39 2 9 = true := by decide +kernel
def faultT40 : Bytes := [111, 110, 32, 109, 105, 115, 115, 32, 125]
theorem faultOk40 : isFault faultT40 2 8 = true := by decide +kernel
def faultT41 : Bytes := [111, 110, 32, 109, 105, 115, 115, 32, 123, 32, 125, 32, 125]
theorem faultOk41 : isFault faultT41 2 12 = true := by decide +kernel
def faultT42 : Bytes := [111, 110, 32, 109, 105, 115, 115, 32, 123, 32, 125, 32, 113, 117, 101, 117, 101, 32, 114, 32, 49, 59]
theorem faultOk42 : isFault faultT42 2 12 = true := by decide +kernel
def faultT43 : Bytes := [113, 117, 101, 117, 101, 32, 114, 32, 49, 59, 32, 111, 110, 32, 109, 105, 115, 115, 32, 123, 32, 112, 117, 116, 32, 114, 32, 125]
theorem faultOk43 : isFault faultT43 2 27 = true := by decide +kernel
def faultT44 : Bytes := [113, 117, 101, 117, 101, 32, 114, 32, 49, 59, 32, 111, 110, 32, 109, 105, 115, 115, 32, 123, 32, 112, 117, 116, 59, 32, 125]
theorem faultOk44 : isFault faultT44 2 24 = true := by decide +kernel
def faultT45 : Bytes := [113, 117, 101, 117, 101, 32, 114, 32, 49, 59, 32, 111, 110, 32, 109, 105, 115, 115, 32, 123, 32, 112, 117, 116, 32, 114, 32, 116, 97, 105, 108, 59, 32, 125]
theorem faultOk45 : isFault faultT45 0 0 = true := by decide +kernel
def faultT46 : Bytes := [113, 117, 101, 117, 101, 32, 114, 32, 49, 59, 32, 111, 110, 32, 109, 105, 115, 115, 32, 123, 32, 101, 118, 105, 99, 116, 32, 114, 32, 116, 97, 105, 108, 59, 32, 125]
theorem faultOk46 : isFault faultT46 2 29 = true := by decide +kernel
def faultT47 : Bytes := [113, 117, 101, 117, 101, 32, 114, 32, 49, 59, 32, 111, 110, 32, 109, 105, 115, 115, 32, 123, 32, 115, 104, 105, 102, 116, 32, 114, 59, 32, 125]
theorem faultOk47 : isFault faultT47 2 28 = true := by decide +kernel
def faultT48 : Bytes := [113, 117, 101, 117, 101, 32, 114, 32, 49, 59, 32, 111, 110, 32, 109, 105, 115, 115, 32, 123, 32, 115, 104, 105, 102, 116, 32, 114, 32, 114, 32, 116, 97, 105, 108, 59, 32, 125]
theorem faultOk48 : isFault faultT48 0 0 = true := by decide +kernel
def faultT49 : Bytes := [113, 117, 101, 117, 101, 32, 114, 32, 49, 59, 32, 111, 110, 32, 109, 105, 115, 115, 32, 123, 32, 112, 117, 116, 32, 120, 59, 32, 125]
theorem faultOk49 : isFault faultT49 5 25 = true := by decide +kernel
def faultT50 : Bytes := [118, 97, 114, 32, 120, 32, 49, 59, 32, 111, 110, 32, 109, 105, 115, 115, 32, 123, 32, 112, 117, 116, 32, 120, 59, 32, 125]
theorem faultOk50 : isFault faultT50 6 23 = true := by decide +kernel
def faultT51 : Bytes := [113, 117, 101, 117, 101, 32, 114, 32, 49, 59, 32, 111, 110, 32, 109, 105, 115, 115, 32, 123, 32, 105, 110, 99, 32, 114, 59, 32, 125]
theorem faultOk51 : isFault faultT51 6 25 = true := by decide +kernel
def faultT52 : Bytes := [113, 117, 101, 117, 101, 32, 114, 32, 49, 59, 32, 111, 110, 32, 109, 105, 115, 115, 32, 123, 32, 105, 110, 99, 32, 120, 59, 32, 100, 101, 99, 32, 121, 59, 32, 125]
theorem faultOk52 : isFault faultT52 5 25 = true := by decide +kernel
def faultT53 : Bytes := [111, 110, 32, 109, 105, 115, 115, 32, 123, 32, 100, 114, 111, 112, 59, 32, 98, 117, 109, 112, 59, 32, 125]
theorem faultOk53 : isFault faultT53 0 0 = true := by decide +kernel
def faultT54 : Bytes := [111, 110, 32, 109, 105, 115, 115, 32, 123, 32, 100, 114, 111, 112, 32, 120, 59, 32, 125]
theorem faultOk54 : isFault faultT54 2 15 = true := by decide +kernel
def faultT55 : Bytes := [111, 110, 32, 109, 105, 115, 115, 32, 123, 32, 59, 32, 125]
theorem faultOk55 : isFault faultT55 2 10 = true := by decide +kernel
def faultT56 : Bytes := [111, 110, 32, 109, 105, 115, 115, 32, 123, 32, 113, 117, 101, 117, 101, 32, 114, 32, 49, 59, 32, 125]
theorem faultOk56 : isFault faultT56 2 10 = true := by decide +kernel
def faultT57 : Bytes := [113, 117, 101, 117, 101, 32, 114, 32, 49, 59, 32, 111, 110, 32, 109, 105, 115, 115, 32, 123, 32, 105, 102, 32, 102, 117, 108, 108, 32, 114, 32, 123, 32, 125, 32, 101, 108, 115, 101, 32, 123, 32, 125, 32, 125]
theorem faultOk57 : isFault faultT57 0 0 = true := by decide +kernel
def faultT58 : Bytes := [113, 117, 101, 117, 101, 32, 114, 32, 49, 59, 32, 111, 110, 32, 109, 105, 115, 115, 32, 123, 32, 105, 102, 32, 123, 32, 125, 32, 125]
theorem faultOk58 : isFault faultT58 2 24 = true := by decide +kernel
def faultT59 : Bytes := [113, 117, 101, 117, 101, 32, 114, 32, 49, 59, 32, 111, 110, 32, 109, 105, 115, 115, 32, 123, 32, 105, 102, 32, 102, 117, 108, 108, 32, 123, 32, 125, 32, 125]
theorem faultOk59 : isFault faultT59 2 29 = true := by decide +kernel
def faultT60 : Bytes := [113, 117, 101, 117, 101, 32, 114, 32, 49, 59, 32, 111, 110, 32, 109, 105, 115, 115, 32, 123, 32, 101, 108, 115, 101, 32, 123, 32, 125, 32, 125]
theorem faultOk60 : isFault faultT60 2 21 = true := by decide +kernel
def faultT61 : Bytes := [113, 117, 101, 117, 101, 32, 114, 32, 49, 59, 32, 111, 110, 32, 109, 105, 115, 115, 32, 123, 32, 105, 102, 32, 110, 111, 116, 32, 110, 111, 116, 32, 101, 109, 112, 116, 121, 32, 114, 32, 123, 32, 125, 32, 125]
theorem faultOk61 : isFault faultT61 0 0 = true := by decide +kernel
def faultT62 : Bytes := [113, 117, 101, 117, 101, 32, 114, 32, 49, 59, 32, 111, 110, 32, 109, 105, 115, 115, 32, 123, 32, 105, 102, 32, 110, 111, 116, 32, 123, 32, 125, 32, 125]
theorem faultOk62 : isFault faultT62 2 28 = true := by decide +kernel
def faultT63 : Bytes := [118, 97, 114, 32, 120, 32, 49, 59, 32, 111, 110, 32, 109, 105, 115, 115, 32, 123, 32, 105, 102, 32, 120, 32, 60, 32, 50, 32, 123, 32, 125, 32, 125]
theorem faultOk63 : isFault faultT63 0 0 = true := by decide +kernel
def faultT64 : Bytes := [118, 97, 114, 32, 120, 32, 49, 59, 32, 111, 110, 32, 109, 105, 115, 115, 32, 123, 32, 105, 102, 32, 120, 32, 123, 32, 125, 32, 125]
theorem faultOk64 : isFault faultT64 2 24 = true := by decide +kernel
def faultT65 : Bytes := [118, 97, 114, 32, 120, 32, 49, 59, 32, 111, 110, 32, 109, 105, 115, 115, 32, 123, 32, 105, 102, 32, 120, 32, 60, 32, 123, 32, 125, 32, 125]
theorem faultOk65 : isFault faultT65 2 26 = true := by decide +kernel
def faultT66 : Bytes := [113, 117, 101, 117, 101, 32, 114, 32, 49, 59, 32, 111, 110, 32, 109, 105, 115, 115, 32, 123, 32, 105, 102, 32, 114, 32, 60, 32, 50, 32, 123, 32, 125, 32, 125]
theorem faultOk66 : isFault faultT66 6 24 = true := by decide +kernel
def faultT67 : Bytes := [113, 117, 101, 117, 101, 32, 114, 32, 49, 59, 32, 111, 110, 32, 109, 105, 115, 115, 32, 123, 32, 105, 102, 32, 108, 101, 110, 32, 114, 32, 60, 32, 102, 114, 101, 113, 32, 123, 32, 125, 32, 125]
theorem faultOk67 : isFault faultT67 0 0 = true := by decide +kernel
def faultT68 : Bytes := [118, 97, 114, 32, 120, 32, 49, 59, 32, 111, 110, 32, 109, 105, 115, 115, 32, 123, 32, 105, 102, 32, 108, 101, 110, 32, 120, 32, 60, 32, 49, 32, 123, 32, 125, 32, 125]
theorem faultOk68 : isFault faultT68 6 26 = true := by decide +kernel
def faultT69 : Bytes := [111, 110, 32, 109, 105, 115, 115, 32, 123, 32, 105, 102, 32, 57, 57, 57, 32, 60, 32, 48, 32, 123, 32, 125, 32, 125]
theorem faultOk69 : isFault faultT69 0 0 = true := by decide +kernel
def faultT70 : Bytes := [111, 110, 32, 109, 105, 115, 115, 32, 123, 32, 114, 101, 112, 101, 97, 116, 32, 53, 48, 32, 119, 104, 105, 108, 101, 32, 49, 32, 60, 32, 50, 32, 123, 32, 125, 32, 125]
theorem faultOk70 : isFault faultT70 0 0 = true := by decide +kernel
def faultT71 : Bytes := [111, 110, 32, 109, 105, 115, 115, 32, 123, 32, 114, 101, 112, 101, 97, 116, 32, 53, 49, 32, 119, 104, 105, 108, 101, 32, 49, 32, 60, 32, 50, 32, 123, 32, 125, 32, 125]
theorem faultOk71 : isFault faultT71 7 17 = true := by decide +kernel
def faultT72 : Bytes := [111, 110, 32, 109, 105, 115, 115, 32, 123, 32, 114, 101, 112, 101, 97, 116, 32, 48, 32, 119, 104, 105, 108, 101, 32, 49, 32, 60, 32, 50, 32, 123, 32, 125, 32, 125]
theorem faultOk72 : isFault faultT72 7 17 = true := by decide +kernel
def faultT73 : Bytes := [111, 110, 32, 109, 105, 115, 115, 32, 123, 32, 114, 101, 112, 101, 97, 116, 32, 119, 104, 105, 108, 101, 32, 49, 32, 60, 32, 50, 32, 123, 32, 125, 32, 125]
theorem faultOk73 : isFault faultT73 2 17 = true := by decide +kernel
def faultT74 : Bytes := [111, 110, 32, 109, 105, 115, 115, 32, 123, 32, 114, 101, 112, 101, 97, 116, 32, 53, 32, 49, 32, 60, 32, 50, 32, 123, 32, 125, 32, 125]
theorem faultOk74 : isFault faultT74 2 19 = true := by decide +kernel
def faultT75 : Bytes := [111, 110, 32, 109, 105, 115, 115, 32, 123, 32, 114, 101, 112, 101, 97, 116, 32, 49, 32, 119, 104, 105, 108, 101, 32, 49, 32, 60, 32, 50, 32, 123, 32, 114, 101, 112, 101, 97, 116, 32, 49, 32, 119, 104, 105, 108, 101, 32, 49, 32, 60, 32, 50, 32, 123, 32, 125, 32, 125, 32, 114, 101, 112, 101, 97, 116, 32, 49, 32, 119, 104, 105, 108, 101, 32, 49, 32, 60, 32, 50, 32, 123, 32, 125, 32, 125]
theorem faultOk75 : isFault faultT75 0 0 = true := by decide +kernel
def faultT76 : Bytes := [111, 110, 32, 109, 105, 115, 115, 32, 123, 32, 114, 101, 112, 101, 97, 116, 32, 49, 32, 119, 104, 105, 108, 101, 32, 49, 32, 60, 32, 50, 32, 123, 32, 114, 101, 112, 101, 97, 116, 32, 49, 32, 119, 104, 105, 108, 101, 32, 49, 32, 60, 32, 50, 32, 123, 32, 114, 101, 112, 101, 97, 116, 32, 49, 32, 119, 104, 105, 108, 101, 32, 49, 32, 60, 32, 50, 32, 123, 32, 125, 32, 125, 32, 125, 32, 125]
theorem faultOk76 : isFault faultT76 3 56 = true := by decide +kernel
def faultT77 : Bytes := [111, 110, 32, 109, 105, 115, 115, 32, 123, 32, 114, 101, 112, 101, 97, 116, 32, 49, 32, 119, 104, 105, 108, 101, 32, 49, 32, 60, 32, 50, 32, 123, 32, 105, 102, 32, 49, 32, 60, 32, 50, 32, 123, 32, 114, 101, 112, 101, 97, 116, 32, 49, 32, 119, 104, 105, 108, 101, 32, 49, 32, 60, 32, 50, 32, 123, 32, 105, 102, 32, 49, 32, 60, 32, 50, 32, 123, 32, 114, 101, 112, 101, 97, 116, 32, 54, 48]
theorem faultOk77 : isFault faultT77 3 78 = true := by decide +kernel
def faultT78 : Bytes := [111, 110, 32, 109, 105, 115, 115, 32, 123, 32, 112, 117, 116, 32, 120, 59, 32, 33, 32, 125]
theorem faultOk78 : isFault faultT78 2 17 = true := by decide +kernel
def faultT79 : Bytes := [111, 110, 32, 109, 105, 115, 115, 32, 123, 32, 112, 117, 116, 32, 120, 59, 32, 125, 32, 111, 110, 32, 109, 105, 115, 115, 32, 123, 32, 125]
theorem faultOk79 : isFault faultT79 5 14 = true := by decide +kernel
def faultT80 : Bytes := [113, 117, 101, 117, 101, 32, 114, 32, 48, 59, 32, 113, 117, 101, 117, 101, 32, 114, 32, 48, 59, 32, 111, 110, 32, 109, 105, 115, 115, 32, 123, 32, 125]
theorem faultOk80 : isFault faultT80 7 8 = true := by decide +kernel
def faultL : List (Bytes × Nat × Nat) := [(faultT0, 0, 0), (faultT1, 1, 0), (faultT2, 0, 0), (faultT3, 3, 115), (faultT4, 0, 0), (faultT5, 9, 100), (faultT6, 0, 0), (faultT7, 10, 0), (faultT8, 10, 0), (faultT9, 10, 0), (faultT10, 0, 0), (faultT11, 2, 12), (faultT12, 2, 5), (faultT13, 2, 7), (faultT14, 2, 9), (faultT15, 2, 6), (faultT16, 2, 6), (faultT17, 0, 0), (faultT18, 2, 6), (faultT19, 7, 8), (faultT20, 0, 0), (faultT21, 7, 8), (faultT22, 7, 8), (faultT23, 2, 8), (faultT24, 0, 0), (faultT25, 0, 0), (faultT26, 7, 6), (faultT27, 0, 0), (faultT28, 7, 5), (faultT29, 7, 5), (faultT30, 4, 8), (faultT31, 4, 15), (faultT32, 2, 0), (faultT33, 2, 10), (faultT34, 0, 0), (faultT35, 8, 12), (faultT36, 8, 20), (faultT37, 5, 3), (faultT38, 6, 12), (faultT39, 2, 9), (faultT40, 2, 8), (faultT41, 2, 12), (faultT42, 2, 12), (faultT43, 2, 27), (faultT44, 2, 24), (faultT45, 0, 0), (faultT46, 2, 29), (faultT47, 2, 28), (faultT48, 0, 0), (faultT49, 5, 25), (faultT50, 6, 23), (faultT51, 6, 25), (faultT52, 5, 25), (faultT53, 0, 0), (faultT54, 2, 15), (faultT55, 2, 10), (faultT56, 2, 10), (faultT57, 0, 0), (faultT58, 2, 24), (faultT59, 2, 29), (faultT60, 2, 21), (faultT61, 0, 0), (faultT62, 2, 28), (faultT63, 0, 0), (faultT64, 2, 24), (faultT65, 2, 26), (faultT66, 6, 24), (faultT67, 0, 0), (faultT68, 6, 26), (faultT69, 0, 0), (faultT70, 0, 0), (faultT71, 7, 17), (faultT72, 7, 17), (faultT73, 2, 17), (faultT74, 2, 19), (faultT75, 0, 0), (faultT76, 3, 56), (faultT77, 3, 78), (faultT78, 2, 17), (faultT79, 5, 14), (faultT80, 7, 8)]
theorem faultL_ok : ∀ x ∈ faultL, isFault x.1 x.2.1 x.2.2 = true := List.forall_mem_cons.2 ⟨faultOk0, List.forall_mem_cons.2 ⟨faultOk1, List.forall_mem_cons.2 ⟨faultOk2, List.forall_mem_cons.2 ⟨faultOk3, List.forall_mem_cons.2 ⟨faultOk4, List.forall_mem_cons.2 ⟨faultOk5, List.forall_mem_cons.2 ⟨faultOk6, List.forall_mem_cons.2 ⟨faultOk7, List.forall_mem_cons.2 ⟨faultOk8, List.forall_mem_cons.2 ⟨faultOk9, List.forall_mem_cons.2 ⟨faultOk10, List.forall_mem_cons.2 ⟨faultOk11, List.forall_mem_cons.2 ⟨faultOk12, List.forall_mem_cons.2 ⟨faultOk13, List.forall_mem_cons.2 ⟨faultOk14, List.forall_mem_cons.2 ⟨faultOk15, List.forall_mem_cons.2 ⟨faultOk16, List.forall_mem_cons.2 ⟨faultOk17, List.forall_mem_cons.2 ⟨faultOk18, List.forall_mem_cons.2 ⟨faultOk19, List.forall_mem_cons.2 ⟨faultOk20, List.forall_mem_cons.2 ⟨faultOk21, List.forall_mem_cons.2 ⟨faultOk22, List.forall_mem_cons.2 ⟨faultOk23, List.forall_mem_cons.2 ⟨faultOk24, List.forall_mem_cons.2 ⟨faultOk25, List.forall_mem_cons.2 ⟨faultOk26, List.forall_mem_cons.2 ⟨faultOk27, List.forall_mem_cons.2 ⟨faultOk28, List.forall_mem_cons.2 ⟨faultOk29, List.forall_mem_cons.2 ⟨faultOk30, List.forall_mem_cons.2 ⟨faultOk31, List.forall_mem_cons.2 ⟨faultOk32, List.forall_mem_cons.2 ⟨faultOk33, List.forall_mem_cons.2 ⟨faultOk34, List.forall_mem_cons.2 ⟨faultOk35, List.forall_mem_cons.2 ⟨faultOk36, List.forall_mem_cons.2 ⟨faultOk37, List.forall_mem_cons.2 ⟨faultOk38, List.forall_mem_cons.2 ⟨faultOk39, List.forall_mem_cons.2 ⟨faultOk40, List.forall_mem_cons.2 ⟨faultOk41, List.forall_mem_cons.2 ⟨faultOk42, List.forall_mem_cons.2 ⟨faultOk43, List.forall_mem_cons.2 ⟨faultOk44, List.forall_mem_cons.2 ⟨faultOk45, List.forall_mem_cons.2 ⟨faultOk46, List.forall_mem_cons.2 ⟨faultOk47, List.forall_mem_cons.2 ⟨faultOk48, List.forall_mem_cons.2 ⟨faultOk49, List.forall_mem_cons.2 ⟨faultOk50, List.forall_mem_cons.2 ⟨faultOk51, List.forall_mem_cons.2 ⟨faultOk52, List.forall_mem_cons.2 ⟨faultOk53, List.forall_mem_cons.2 ⟨faultOk54, List.forall_mem_cons.2 ⟨faultOk55, List.forall_mem_cons.2 ⟨faultOk56, List.forall_mem_cons.2 ⟨faultOk57, List.forall_mem_cons.2 ⟨faultOk58, List.forall_mem_cons.2 ⟨faultOk59, List.forall_mem_cons.2 ⟨faultOk60, List.forall_mem_cons.2 ⟨faultOk61, List.forall_mem_cons.2 ⟨faultOk62, List.forall_mem_cons.2 ⟨faultOk63, List.forall_mem_cons.2 ⟨faultOk64, List.forall_mem_cons.2 ⟨faultOk65, List.forall_mem_cons.2 ⟨faultOk66, List.forall_mem_cons.2 ⟨faultOk67, List.forall_mem_cons.2 ⟨faultOk68, List.forall_mem_cons.2 ⟨faultOk69, List.forall_mem_cons.2 ⟨faultOk70, List.forall_mem_cons.2 ⟨faultOk71, List.forall_mem_cons.2 ⟨faultOk72, List.forall_mem_cons.2 ⟨faultOk73, List.forall_mem_cons.2 ⟨faultOk74, List.forall_mem_cons.2 ⟨faultOk75, List.forall_mem_cons.2 ⟨faultOk76, List.forall_mem_cons.2 ⟨faultOk77, List.forall_mem_cons.2 ⟨faultOk78, List.forall_mem_cons.2 ⟨faultOk79, List.forall_mem_cons.2 ⟨faultOk80, fun x hx => by cases hx⟩⟩⟩⟩⟩⟩⟩⟩⟩⟩⟩⟩⟩⟩⟩⟩⟩⟩⟩⟩⟩⟩⟩⟩⟩⟩⟩⟩⟩⟩⟩⟩⟩⟩⟩⟩⟩⟩⟩⟩⟩⟩⟩⟩⟩⟩⟩⟩⟩⟩⟩⟩⟩⟩⟩⟩⟩⟩⟩⟩⟩⟩⟩⟩⟩⟩⟩⟩⟩⟩⟩⟩⟩⟩⟩⟩⟩⟩⟩⟩⟩
end Go.Proofs.YtemppijblfflgaaDoor.Ev
namespace Go.Proofs.YtemppijblfflgaaDoor.Ev
open Go Go.RowKit

/-! ## What a call may have turned -/
/-- Outside S nothing has turned; no block has gone. -/
structure Kept (S : Nat → Prop) (w w' : World) : Prop where
  os : w'.os = w.os
  tape : w'.tape = w.tape
  output : w'.output = w.output
  size : w.heap.size ≤ w'.heap.size
  block : ∀ k, ¬ S k → w'.heap[k]? = w.heap[k]?

/-- S holds every block that is not there yet. -/
def Up (S : Nat → Prop) (w : World) : Prop := ∀ k, w.heap.size ≤ k → S k

section
variable {S S' : Nat → Prop} {w w' w'' : World}
theorem Kept.refl (S : Nat → Prop) (w : World) : Kept S w w := ⟨rfl, rfl, rfl, Nat.le_refl _, fun _ _ => rfl⟩
theorem Kept.trans (h : Kept S w w') (k : Kept S w' w'') : Kept S w w'' :=
  ⟨k.os.trans h.os, k.tape.trans h.tape, k.output.trans h.output, Nat.le_trans h.size k.size, fun i hi => (k.block i hi).trans (h.block i hi)⟩
theorem Kept.mono (h : Kept S w w') (hS : ∀ k, S k → S' k) : Kept S' w w' := ⟨h.os, h.tape, h.output, h.size, fun k hk => h.block k (fun x => hk (hS k x))⟩
theorem Up.kept (h : Up S w) (k : Kept S' w w') : Up S w' := fun i hi => h i (Nat.le_trans k.size hi)
theorem Kept.drew (h : Kept S w w') : Kept S w w'.drew := ⟨h.os, h.tape, h.output, h.size, h.block⟩
theorem Kept.drewN (h : Kept S w w') (n : Nat) : Kept S w (w'.drewN n) := ⟨h.os, h.tape, h.output, h.size, h.block⟩
theorem Kept.alloc (h : Kept S w w') (hS : S w'.heap.size) (o : Obj) : Kept S w (w'.alloc o) :=
  h.trans ⟨rfl, rfl, rfl, by simp, fun k hk => by
    show (w'.heap.push o)[k]? = _
    rw [Array.getElem?_push, if_neg (by rintro rfl; exact hk hS)]⟩
theorem Kept.setCell (h : Kept S w w') {p : Addr} (hp : S p.block) (u : Value) : Kept S w (w'.setCell p u) :=
  h.trans ⟨rfl, rfl, rfl, by simp [World.setCell], fun k hk => Below.heap_setCell _ _ _ _ (fun e => hk (e ▸ hp))⟩
theorem Kept.one (w : World) (p : Addr) (u : Value) : Kept (fun b => b = p.block) w (w.setCell p u) := Kept.setCell (S := fun b => b = p.block) (Kept.refl _ w) rfl u
theorem Kept.cell (h : Kept S w w') {p : Addr} (hp : ¬ S p.block) : w'.cell? p = w.cell? p := World.cell?_of_block (w := w) (h.block p.block hp)
theorem Kept.frozen (h : Kept S w w') {p : Addr} (hp : ¬ S p.block) : w'.frozen? p = w.frozen? p := World.frozen?_of_block (w := w) (h.block p.block hp)
theorem Kept.below {B : Nat} (h : Kept S w w') (hS : ∀ k, S k → B ≤ k) : Below B w w' := ⟨h.os, h.tape, h.output, h.size, fun k hk => h.block k (fun x => by have := hS k x; omega)⟩
theorem Kept.of_below {B : Nat} (h : Below B w w') (hS : ∀ k, B ≤ k → S k) : Kept S w w' := ⟨h.os, h.tape, h.output, h.size, fun k hk => h.block k (by
  rcases Nat.lt_or_ge k B with h1 | h1
  · exact h1
  · exact absurd (hS k h1) hk)⟩
end

/-- A region whose operations read, but for the last: walked in the order of the text. -/
theorem wp_tail {P : Program} {id : Nat} {Q : Exit → Act → World → Prop} {a : Act} {w : World} {l : List Oper} (n : Nat) (hm : P.follows .mixedOrders = true) (hB : Region.lexTailB .any l.toArray n = true)
    (h : wpStill P l.toArray w.drew (fun a' => wpList P l.toArray Q (l.drop n) a' w.drew) (l.take n) a) : (Code.region id l.toArray true).wp P Q a w := wp_region_still_tail n hm hB h

theorem drewN_setCell (w : World) (n : Nat) (a : Addr) (v : Value) : (w.drewN n).setCell a v = (w.setCell a v).drewN n := rfl
theorem drew_setCell (w : World) (a : Addr) (v : Value) : w.drew.setCell a v = (w.setCell a v).drew := rfl
/-! ## A block that is known whole -/
def Row (w : World) (g : Nat) (t : TypeId) (cs : List Value) : Prop := w.heap[g]? = some (.cells cs.toArray t (0, 0))

section
variable {S : Nat → Prop} {w w' : World} {g g' : Nat} {t t' : TypeId} {cs cs' : List Value}
theorem Row.lt (h : Row w g t cs) : g < w.heap.size := by
  rcases Nat.lt_or_ge g w.heap.size with hlt | hge
  · exact hlt
  · unfold Row at h; rw [Array.getElem?_eq_none hge] at h; cases h
theorem Row.cell (h : Row w g t cs) (i : Nat) : w.cell? ⟨g, i, none⟩ = cs[i]? := (cell_of_row w g i cs.toArray t (0, 0) h).trans (by simp)
theorem Row.frozen (h : Row w g t cs) (i : Nat) : w.frozen? ⟨g, i, none⟩ = false := by unfold Row at h; simp [World.frozen?, h]
theorem Row.new (w : World) (t : TypeId) (cs : List Value) : Row (w.alloc (.cells cs.toArray t)) w.heap.size t cs := heap_alloc_new w _
theorem Row.drew (h : Row w g t cs) : Row w.drew g t cs := h
theorem Row.drewN (h : Row w g t cs) (n : Nat) : Row (w.drewN n) g t cs := h
theorem Row.alloc (h : Row w g t cs) (o : Obj) : Row (w.alloc o) g t cs := (Below.heap_alloc w o g h.lt).trans h
theorem Row.set_ (h : Row w g t cs) (i : Nat) (u : Value) : Row (w.setCell ⟨g, i, none⟩ u) g t (cs.set i u) := by
  unfold Row at h ⊢
  simp [World.setCell, Array.getElem?_modify, h]
theorem Row.far (h : Row w g t cs) {p : Addr} (hp : g ≠ p.block) (u : Value) : Row (w.setCell p u) g t cs := (Below.heap_setCell w p u g hp).trans h
theorem Row.kept (h : Row w g t cs) (k : Kept S w w') (hg : ¬ S g) : Row w' g t cs := (k.block g hg).trans h
theorem Row.ne_ (h : Row w g t cs) (h' : Row w g' t' cs') (hne : t ≠ t') : g ≠ g' := by
  rintro rfl
  unfold Row at h h'
  rw [h] at h'
  injection h' with h'
  injection h' with _ ht
  exact hne ht
end

/-! ## Maps keyed by integers -/
abbrev IMap := List (Int × Value)

def mget (M : IMap) (x : Int) : Option Value := (M.find? (fun y => y.1 == x)).map (·.2)
def mput (M : IMap) (x : Int) (v : Value) : IMap := if (mget M x).isSome then M.map (fun y => if y.1 == x then (x, v) else y) else M ++ [(x, v)]
/-- Block b is a map whose entries, in the order in which they came, are M. -/
def IsMap (w : World) (b : Nat) (k : IntKind) (M : IMap) : Prop :=
  ∃ es clock, w.heap[b]? = some (.map es clock) ∧ es.toList.map (fun e => (e.key, e.val)) = M.map (fun x => (Value.int k x.1, x.2)) ∧
    (∀ e ∈ es.toList, e.born < clock) ∧ (es.toList.map (·.born)).Nodup ∧ (M.map (·.1)).Nodup

section
variable {S : Nat → Prop} {w w' : World} {b : Nat} {k : IntKind} {M : IMap}
theorem IsMap.of_block (h : IsMap w b k M) (hb : w'.heap[b]? = w.heap[b]?) : IsMap w' b k M := by
  obtain ⟨es, c, h1, h2⟩ := h
  exact ⟨es, c, hb.trans h1, h2⟩
theorem IsMap.kept (h : IsMap w b k M) (hk : Kept S w w') (hb : ¬ S b) : IsMap w' b k M := h.of_block (hk.block b hb)
theorem IsMap.lt (h : IsMap w b k M) : b < w.heap.size := by
  obtain ⟨es, c, h1, _⟩ := h
  rcases Nat.lt_or_ge b w.heap.size with hlt | hge
  · exact hlt
  · rw [Array.getElem?_eq_none hge] at h1; cases h1
theorem IsMap.ne_row (h : IsMap w b k M) {g : Nat} {t : TypeId} {cs : List Value} (hr : Row w g t cs) : b ≠ g := by
  rintro rfl
  obtain ⟨es, c, h1, _⟩ := h
  unfold Row at hr
  rw [hr] at h1
  cases h1
theorem IsMap.new (w : World) (k : IntKind) : IsMap (w.alloc (.map #[] 0)) w.heap.size k [] :=
  ⟨#[], 0, heap_alloc_new w _, rfl, by simp, by simp, by simp⟩

theorem findNow_int (k : IntKind) (x : Int) : ∀ (es : List MapEntry) (M : IMap) (i : Nat), es.map (fun e => (e.key, e.val)) = M.map (fun y => (Value.int k y.1, y.2)) →
    Instr.findNow (.int k) (.int k x) es i = some ((M.findIdx? (fun y => y.1 == x)).bind fun j => (M[j]?).map fun y => (i + j, y.2))
  | [], [], i, _ => rfl
  | [], _ :: _, _, h => by simp at h
  | _ :: _, [], _, h => by simp at h
  | e :: es, y :: M, i, h => by
    simp only [List.map_cons, List.cons.injEq, Prod.mk.injEq] at h
    obtain ⟨⟨hk, hv⟩, hr⟩ := h
    unfold Instr.findNow
    rw [hk]
    simp only [Instr.sameNow, if_true]
    by_cases hx : x = y.1
    · subst hx
      simp [List.findIdx?_cons, hv]
    · have h1 : (x == y.1) = false := by simpa using hx
      have h2 : (y.1 == x) = false := by simpa using fun e => hx e.symm
      simp only [h1, List.findIdx?_cons, h2]
      rw [findNow_int k x es M (i + 1) hr]
      cases M.findIdx? (fun y => y.1 == x) with
      | none => rfl
      | some j => simp [Nat.add_comm 1 j, Nat.add_assoc]

theorem mget_idx (M : IMap) (x : Int) : mget M x = (M.findIdx? (fun y => y.1 == x)).bind fun j => (M[j]?).map (·.2) := by
  unfold mget
  induction M with
  | nil => rfl
  | cons y M ih =>
    by_cases hx : y.1 == x
    · simp [List.find?_cons, List.findIdx?_cons, hx]
    · simp only [Bool.not_eq_true] at hx
      simp only [List.find?_cons, hx, List.findIdx?_cons, ih]
      cases M.findIdx? (fun y => y.1 == x) with
      | none => rfl
      | some j => simp

theorem run_checkKey_int {P : Program} {t : TypeId} (ht : P.underlying t = some (.int k)) (em : Bool) (x : Int) (w : World) : (Instr.checkKey em 10000 t (.int k x)).run P w = .ok () w := by
  have h : ∀ n, (Instr.checkKey em (n + 1) t (.int k x)).run P w = .ok () w := fun n => by simp only [Instr.checkKey, Sem.run_bind, run_underlying ht, Result.andThen_ok]; rfl
  exact h 9999

theorem run_findKey_int {P : Program} {t : TypeId} (ht : P.underlying t = some (.int k)) (x : Int) (es : List MapEntry) (hM : es.map (fun e => (e.key, e.val)) = M.map (fun y => (Value.int k y.1, y.2))) (w : World) :
    (Instr.findKey t (.int k x) es).run P w = .ok ((M.findIdx? (fun y => y.1 == x)).bind fun j => (M[j]?).map fun y => (j, y.2)) w := by
  have h := findNow_int k x es M 0 hM
  simp only [Nat.zero_add] at h
  simp [Instr.findKey, run_underlying ht, h]

theorem run_getObj_map {P : Program} {w : World} {b : Nat} {es : Array MapEntry} {c : Nat} (h : w.heap[b]? = some (.map es c)) : (getObj b).run P w = .ok (.map es c) w := by
  simp [getObj, Sem.run, h]

theorem run_setObj_map {P : Program} {w : World} {b : Nat} {es : Array MapEntry} {c : Nat} (h : w.heap[b]? = some (.map es c)) (o : Obj) :
    (setObj b o).run P w = .ok () { w with heap := w.heap.setIfInBounds b o } := by
  simp [setObj, Sem.run, h]

/-- A look-up. -/
theorem IsMap.lookup {P : Program} {T K E : TypeId} (h : IsMap w b k M) (hT : P.underlying T = some (.map K E)) (hK : P.underlying K = some (.int k)) {z : Value} (hz : ∀ w, (zeroValue E).run P w = .ok z w)
    (x : Int) (c : Bool) : (Instr.lookup T (.map (some b)) (.int k x) c).run P w =
      .ok (if c then .tuple #[(mget M x).getD z, .bool (mget M x).isSome] else (mget M x).getD z) w := by
  obtain ⟨es, cl, h1, h2, _⟩ := h
  have hf := run_findKey_int hK x es.toList h2 w
  rw [mget_idx]
  simp only [Instr.lookup, Sem.run_bind, run_underlying hT, Result.andThen_ok, run_getObj_map h1, run_checkKey_int hK, hf, Sem.run_pure]
  cases hj : M.findIdx? (fun y => y.1 == x) with
  | none => simp [hz]
  | some j =>
    have hlt : j < M.length := by
      obtain ⟨hlt, _⟩ := List.findIdx?_eq_some_iff_getElem.1 hj
      exact hlt
    simp [List.getElem?_eq_getElem hlt]
end

end Go.Proofs.YtemppijblfflgaaDoor.Ev
namespace Go.Proofs.YtemppijblfflgaaDoor.Ev

structure Node where
  key : Int
  freq : Int
  prev : Nat
  next : Nat
  q : Int
deriving Inhabited

structure Ends where
  head : Nat
  tail : Nat
  n : Nat
deriving Inhabited

structure Arena where
  l : List Node
  free : List Nat
  qs : List Ends
  at_ : List (Int × Nat)

end Go.Proofs.YtemppijblfflgaaDoor.Ev
namespace Go.Proofs.YtemppijblfflgaaDoor.Ev
open Go Go.RowKit

def encNode (x : Node) : List Value := [.int .u64 x.key, .int .i64 x.freq, .int .i64 x.prev, .int .i64 x.next, .int .i64 x.q]
def encEnds (x : Ends) : List Value := [.int .i64 x.head, .int .i64 x.tail, .int .i64 x.n]
def encInt (n : Nat) : Value := .int .i64 n
def encAt (M : List (Int × Nat)) : IMap := M.map fun x => (x.1, .int .i64 x.2)

/-- A slice that owns a row, in S. -/
def Sl (S : Nat → Prop) (w : World) (e : TypeId) (size : Nat) (v : Value) (n : Nat) (xs : List Value) : Prop :=
  w.ownsRow 0 e size v n xs ∧ ∀ g, v.ownBlock = some g → S g

theorem flat_get {α : Type} (f : α → List Value) (k : Nat) (hk : ∀ x, (f x).length = k) : ∀ (l : List α) (i j : Nat) (x : α), l[i]? = some x → j < k → (l.flatMap f)[i * k + j]? = (f x)[j]?
  | [], i, j, x, h, _ => by simp at h
  | y :: l, 0, j, x, h, hj => by
    simp only [List.getElem?_cons_zero, Option.some.injEq] at h
    subst h
    rw [List.flatMap_cons, List.getElem?_append_left (by rw [hk]; omega)]
    simp
  | y :: l, i + 1, j, x, h, hj => by
    simp only [List.getElem?_cons_succ] at h
    have e : (i + 1) * k + j = k + (i * k + j) := by rw [Nat.add_mul]; omega
    rw [List.flatMap_cons, e, List.getElem?_append_right (by rw [hk]; omega), hk, Nat.add_sub_cancel_left]
    exact flat_get f k hk l i j x h hj

section
variable {S : Nat → Prop} {w w' : World} {e : TypeId} {size n : Nat} {v : Value} {xs : List Value}
theorem Sl.form (h : Sl S w e size v n xs) (hn : 0 < n) : ∃ g cap, v = .slice (some ⟨g, 0, none⟩) n cap ∧ S g ∧ n ≤ cap ∧ cap ≤ maxLen ∧ g < w.heap.size := by
  obtain ⟨⟨_, h1⟩, h2⟩ := h
  rcases h1 with ⟨_, h0⟩ | ⟨g, cap, cur, rfl, _, hg, h3, h4, _⟩
  · omega
  · exact ⟨g, cap, rfl, h2 g rfl, h3, h4, Row.lt (cs := cur.toList) (by unfold Row; simpa using hg)⟩
theorem Sl.kept (h : Sl S w e size v n xs) {S1 : Nat → Prop} (hk : Kept S1 w w') (hS : ∀ g, v.ownBlock = some g → ¬ S1 g) : Sl S w' e size v n xs := by
  obtain ⟨⟨h0, h1⟩, h2⟩ := h
  refine ⟨⟨h0, ?_⟩, h2⟩
  rcases h1 with h1 | ⟨g, cap, cur, rfl, hb, hg, h3⟩
  · exact .inl h1
  · exact .inr ⟨g, cap, cur, rfl, hb, (hk.block g (hS g rfl)).trans hg, h3⟩
theorem Sl.mono (h : Sl S w e size v n xs) {S' : Nat → Prop} (hS : ∀ k, S k → S' k) : Sl S' w e size v n xs := ⟨h.1, fun g hg => hS g (h.2 g hg)⟩
theorem Sl.at_ {α : Type} {f : α → List Value} {l : List α} {g cap : Nat} (h : Sl S w e size (.slice (some ⟨g, 0, none⟩) l.length cap) l.length (l.flatMap f)) (hk : ∀ x, (f x).length = size)
    {i j : Nat} {x : α} (hx : l[i]? = some x) (hj : j < size) : w.cell? ⟨g, i * size + j, none⟩ = (f x)[j]? := by
  have hi : i < l.length := (List.getElem?_eq_some_iff.1 hx).1
  have hb : i * size + j < l.length * size := by
    have h1 : (i + 1) * size ≤ l.length * size := Nat.mul_le_mul_right _ hi
    rw [Nat.add_mul] at h1
    omega
  exact (h.1.cellAt _ hb).trans (flat_get f size hk l i j x hx hj)
theorem Sl.frz {g cap m : Nat} (h : Sl S w e size (.slice (some ⟨g, 0, none⟩) n cap) m xs) (hm : m = n) (j : Nat) : w.frozen? ⟨g, j, none⟩ = false := by
  subst hm
  exact h.1.frozenAt j
theorem flat_set {α : Type} (f : α → List Value) (k : Nat) (hk : ∀ x, (f x).length = k) : ∀ (l : List α) (i j : Nat) (x x' : α) (u : Value), l[i]? = some x → j < k → f x' = (f x).set j u →
    (l.flatMap f).set (i * k + j) u = (l.set i x').flatMap f
  | [], i, j, x, x', u, h, _, _ => by simp at h
  | y :: l, 0, j, x, x', u, h, hj, he => by
    simp only [List.getElem?_cons_zero, Option.some.injEq] at h
    subst h
    simp only [List.flatMap_cons, List.set_cons_zero, he, Nat.zero_mul, Nat.zero_add]
    rw [List.set_append_left _ _ (by rw [hk]; omega)]
  | y :: l, i + 1, j, x, x', u, h, hj, he => by
    simp only [List.getElem?_cons_succ] at h
    have e : (i + 1) * k + j = k + (i * k + j) := by rw [Nat.add_mul]; omega
    simp only [List.flatMap_cons, List.set_cons_succ]
    rw [e, List.set_append_right _ _ (by rw [hk]; omega), hk, Nat.add_sub_cancel_left, flat_set f k hk l i j x x' u h hj he]
theorem Sl.set_ {α : Type} {f : α → List Value} {l : List α} {g cap : Nat} (h : Sl S w e size (.slice (some ⟨g, 0, none⟩) l.length cap) l.length (l.flatMap f)) (hk : ∀ x, (f x).length = size)
    {i j : Nat} {x x' : α} {u : Value} (hx : l[i]? = some x) (hj : j < size) (he : f x' = (f x).set j u) :
    Sl S (w.setCell ⟨g, i * size + j, none⟩ u) e size (.slice (some ⟨g, 0, none⟩) (l.set i x').length cap) (l.set i x').length ((l.set i x').flatMap f) := by
  have hi : i < l.length := (List.getElem?_eq_some_iff.1 hx).1
  have hb : i * size + j < l.length * size := by
    have h1 : (i + 1) * size ≤ l.length * size := Nat.mul_le_mul_right _ hi
    rw [Nat.add_mul] at h1
    omega
  have hs := h.1.stored (i * size + j) u
  rw [flat_set f size hk l i j x x' u hx hj he] at hs
  rw [List.length_set]
  exact ⟨hs.1, h.2⟩
end

section
variable {S S' : Nat → Prop} {w w' : World} {e e' t : TypeId} {size size' n n' : Nat} {v v' : Value} {xs xs' cs : List Value} {g : Nat}
theorem Sl.row (h : Sl S w e size v n xs) (hg : v.ownBlock = some g) : ∃ cs, Row w g e cs := by
  obtain ⟨_, _, cur, rfl, _, hh, _⟩ := h.1.2.resolve_left (by rintro ⟨h0, _⟩; rw [h0] at hg; cases hg)
  injection hg with hg
  simp only at hg
  subst hg
  exact ⟨cur.toList, by unfold Row; simpa using hh⟩
theorem Sl.ne_row (h : Sl S w e size v n xs) (hr : Row w g t cs) (hne : e ≠ t) : v.ownBlock ≠ some g := by
  intro hg
  obtain ⟨cs', h1⟩ := h.row hg
  exact h1.ne_ hr hne rfl
theorem Sl.lt (h : Sl S w e size v n xs) (hg : v.ownBlock = some g) : g < w.heap.size := by
  obtain ⟨cs', h1⟩ := h.row hg
  exact h1.lt
theorem Sl.ne_map (h : Sl S w e size v n xs) {k : IntKind} {M : IMap} (hm : IsMap w g k M) : v.ownBlock ≠ some g := by
  intro hg
  obtain ⟨cs', h1⟩ := h.row hg
  exact hm.ne_row h1 rfl
theorem Sl.of_heap (h : Sl S w e size v n xs) (hh : w'.heap = w.heap) : Sl S w' e size v n xs := h.kept (S1 := fun _ => False) (w' := { w with heap := w'.heap }) ⟨rfl, rfl, rfl, by rw [hh]; exact Nat.le_refl _, fun k _ => by rw [hh]⟩ (fun _ _ h => h)
theorem Sl.alloc (h : Sl S w e size v n xs) (o : Obj) : Sl S (w.alloc o) e size v n xs := ⟨h.1.alloc o, h.2⟩
end

/-- How an arena lies in memory: its block, its rows, its map; all in S. -/
structure ARep (S : Nat → Prop) (w : World) (g : Nat) (A : Arena) (vl vf vq : Value) (bm : Nat) : Prop where
  row : Row w g 101 [vl, vf, vq, .map (some bm)]
  l : Sl S w 207 5 vl A.l.length (A.l.flatMap encNode)
  f : Sl S w 3 1 vf A.free.length (A.free.map encInt)
  q : Sl S w 209 3 vq A.qs.length (A.qs.flatMap encEnds)
  m : IsMap w bm .u64 (encAt A.at_)
  sg : S g
  sm : S bm


end Go.Proofs.YtemppijblfflgaaDoor.Ev
namespace Go.Proofs.YtemppijblfflgaaDoor.Ev
open Go Go.RowKit

section
variable {S : Nat → Prop} {w w' : World} {b : Nat} {k : IntKind} {M : IMap} {P : Program}

theorem setObj_kept {w : World} {b : Nat} (o : Obj) : Kept (fun x => x = b) w { w with heap := w.heap.setIfInBounds b o } :=
  ⟨rfl, rfl, rfl, by simp, fun i hi => by simp only [Array.getElem?_setIfInBounds]; rw [if_neg (fun e => hi e.symm)]⟩
theorem setObj_same {w : World} {b : Nat} {o : Obj} (hb : b < w.heap.size) : ({ w with heap := w.heap.setIfInBounds b o } : World).heap[b]? = some o := by
  simp [Array.getElem?_setIfInBounds, hb]

theorem entries_idx {es : List MapEntry} (h : es.map (fun e => (e.key, e.val)) = M.map (fun x => (Value.int k x.1, x.2))) (j : Nat) :
    (es[j]?).map (fun e => (e.key, e.val)) = (M[j]?).map (fun x => (Value.int k x.1, x.2)) := by
  rw [← List.getElem?_map, h, List.getElem?_map]

theorem mget_none_iff {x : Int} : mget M x = none ↔ M.findIdx? (fun y => y.1 == x) = none := by
  unfold mget
  simp [List.find?_eq_none, List.findIdx?_eq_none_iff]

theorem run_keyStays (P : Program) (x : Int) (w : World) : (Instr.keyThatStays (.int k x) (.int k x)).run P w = .ok (.int k x) w := by
  have h : ∀ n, Instr.sameBits (n + 1) (.int k x) (.int k x) = true := fun n => by simp [Instr.sameBits]
  simp [Instr.keyThatStays, h 9999]

/-- A store. -/
theorem IsMap.update {T K E : TypeId} (h : IsMap w b k M) (hT : P.underlying T = some (.map K E)) (hK : P.underlying K = some (.int k)) (x : Int) (v : Value) :
    ∃ w', (Instr.mapUpdate T (.map (some b)) (.int k x) v).run P w = .ok () w' ∧ IsMap w' b k (mput M x v) ∧ Kept (fun i => i = b) w w' := by
  have hlt := h.lt
  obtain ⟨es, cl, h1, h2, h3, h4, h5⟩ := h
  have hf := run_findKey_int hK x es.toList h2 w
  cases hj : M.findIdx? (fun y => y.1 == x) with
  | none =>
    have hno : mget M x = none := mget_none_iff.2 hj
    refine ⟨{ w with heap := w.heap.setIfInBounds b (.map (es.push { key := .int k x, val := v, born := cl }) (cl + 1)) }, ?_, ⟨_, _, setObj_same hlt, ?_, ?_, ?_, ?_⟩, setObj_kept _⟩
    · rw [hj] at hf
      simp [Instr.mapUpdate, run_underlying hT, run_getObj_map h1, run_checkKey_int hK, hf, run_setObj_map h1]
    · simp [mput, hno, h2]
    · intro e he
      simp only [Array.toList_push, List.mem_append, List.mem_singleton] at he
      rcases he with he | rfl
      · have := h3 e he; omega
      · exact Nat.lt_succ_self _
    · simp only [Array.toList_push, List.map_append, List.map_cons, List.map_nil]
      rw [List.nodup_append]
      refine ⟨h4, by simp, ?_⟩
      intro a ha c hc e
      simp only [List.mem_singleton] at hc
      obtain ⟨y, hy, rfl⟩ := List.mem_map.1 ha
      have := h3 y hy
      omega
    · simp only [mput, hno, Option.isSome_none, Bool.false_eq_true, if_false, List.map_append, List.map_cons, List.map_nil]
      rw [List.nodup_append]
      refine ⟨h5, by simp, ?_⟩
      intro a ha c hc e
      simp only [List.mem_singleton] at hc
      subst hc
      subst e
      obtain ⟨y, hy, rfl⟩ := List.mem_map.1 ha
      have := List.findIdx?_eq_none_iff.1 hj y hy
      simp at this
  | some j =>
    obtain ⟨hlt2, hjx, _⟩ := List.findIdx?_eq_some_iff_getElem.1 hj
    have hsome : (mget M x).isSome = true := by
      rw [mget_idx, hj]; simp [List.getElem?_eq_getElem hlt2]
    have hidx := entries_idx h2 j
    rw [List.getElem?_eq_getElem hlt2] at hidx
    have hlen : es.toList.length = M.length := by have := congrArg List.length h2; simpa using this
    have hej : es.toList[j]? = some es.toList[j] := List.getElem?_eq_getElem (by omega)
    have hx : M[j].1 = x := by simpa using hjx
    have hkey : es.toList[j].key = .int k x := by
      rw [hej] at hidx
      simp only [Option.map_some, Option.some.injEq, Prod.mk.injEq] at hidx
      rw [hidx.1, hx]
    refine ⟨{ w with heap := w.heap.setIfInBounds b (.map (es.modify j fun e => { e with key := .int k x, val := v }) cl) }, ?_, ⟨_, _, setObj_same hlt, ?_, ?_, ?_, ?_⟩, setObj_kept _⟩
    · rw [hj] at hf
      simp only [Option.bind_some, List.getElem?_eq_getElem hlt2, Option.map_some] at hf
      have hk2 : ((es[j]?).map (·.key)).getD (.int k x) = .int k x := by
        rw [← Array.getElem?_toList, hej]; simpa using hkey
      simp only [Instr.mapUpdate, Sem.run_bind, run_underlying hT, Result.andThen_ok, run_getObj_map h1, run_checkKey_int hK, hf, hk2, run_keyStays, run_setObj_map h1]
    · have e1 : ∀ (l : List MapEntry) (M : IMap) (j : Nat), l.map (fun e => (e.key, e.val)) = M.map (fun y => (Value.int k y.1, y.2)) → (M.map (·.1)).Nodup → (hl : j < M.length) → M[j].1 = x →
          (l.modify j fun e => { e with key := .int k x, val := v }).map (fun e => (e.key, e.val)) = (M.map (fun y => if y.1 == x then (x, v) else y)).map (fun y => (Value.int k y.1, y.2)) := by
        intro l
        induction l with
        | nil =>
          intro M j h _ hl
          have := congrArg List.length h
          simp at this
          omega
        | cons e l ih =>
          intro M j h hn hl hx
          cases M with
          | nil => simp at hl
          | cons y M =>
            simp only [List.map_cons, List.cons.injEq] at h
            simp only [List.map_cons, List.nodup_cons] at hn
            cases j with
            | zero =>
              simp only [List.getElem_cons_zero] at hx
              simp only [List.modify_zero_cons, List.map_cons, hx, beq_self_eq_true, if_true, h.2, List.cons.injEq, true_and]
              refine (List.map_congr_left ?_ : List.map (fun y => (Value.int k y.1, y.2)) M = List.map (fun y => (Value.int k (if y.1 == x then (x, v) else y).1, (if y.1 == x then (x, v) else y).2)) M).trans ?_
              · intro z hz
                have : (z.1 == x) = false := by
                  simp only [beq_eq_false_iff_ne]
                  intro hzx
                  exact hn.1 (by rw [hx, ← hzx]; exact List.mem_map.2 ⟨z, hz, rfl⟩)
                simp [this]
              · simp [List.map_map, Function.comp_def]
            | succ j =>
              simp only [List.getElem_cons_succ] at hx
              have hne : (y.1 == x) = false := by
                simp only [beq_eq_false_iff_ne]
                intro hyx
                exact hn.1 (by rw [hyx, ← hx]; exact List.mem_map.2 ⟨_, List.getElem_mem _, rfl⟩)
              simp only [List.modify_succ_cons, List.map_cons, hne]
              rw [ih M j h.2 hn.2 (by simpa using hl) hx]
              simp [h.1]
      rw [Array.toList_modify]
      simp only [mput, hsome, if_true]
      exact e1 _ _ _ h2 h5 hlt2 hx
    · intro e he
      rw [Array.toList_modify] at he
      obtain ⟨i, hi⟩ := List.mem_iff_getElem?.1 he
      rw [List.getElem?_modify] at hi
      split at hi
      · cases hy : es.toList[i]? with
        | none => rw [hy] at hi; cases hi
        | some y => rw [hy] at hi; simp at hi; subst hi; exact h3 y (List.mem_of_getElem? hy)
      · cases hy : es.toList[i]? with
        | none => rw [hy] at hi; cases hi
        | some y => rw [hy] at hi; simp at hi; subst hi; exact h3 y (List.mem_of_getElem? hy)
    · rw [Array.toList_modify]
      have : ∀ (l : List MapEntry) (j : Nat), (l.modify j fun e => { e with key := .int k x, val := v }).map (·.born) = l.map (·.born) := by
        intro l
        induction l with
        | nil => intro j; simp
        | cons e l ih => intro j; cases j with
          | zero => simp
          | succ j => simp [ih]
      rw [this]; exact h4
    · simp only [mput, hsome, if_true, List.map_map]
      have : (M.map ((fun y : Int × Value => y.1) ∘ fun y => if y.1 == x then (x, v) else y)) = M.map (·.1) := by
        refine List.map_congr_left fun y hy => ?_
        by_cases hyx : y.1 == x
        · have e : y.1 = x := by simpa using hyx
          simp [e]
        · have e : ¬ y.1 = x := by simpa using hyx
          simp [e]
      rw [this]; exact h5

end
end Go.Proofs.YtemppijblfflgaaDoor.Ev
namespace Go.Proofs.YtemppijblfflgaaDoor.Ev
open Go Go.RowKit

section
variable {S : Nat → Prop} {P : Program} {w : World} {ops : Array Oper} {rest : List Oper} {o : Oper} {a : Act} {Q : Exit → Act → World → Prop}

theorem wp_mapUpdate {b : Nat} {k : IntKind} {M : IMap} {T K E : TypeId} (hT : P.underlying T = some (.map K E)) (hK : P.underlying K = some (.int k)) (h : IsMap w b k M)
    (hg : o.guard = none) (m x v : Operand) (hop : o.op = Op.mapUpdate T m x v) (hm : a.eval m = .map (some b)) (key : Int) (hx : a.eval x = .int k key) (val : Value) (hv : a.eval v = val)
    (hK' : ∀ w', IsMap w' b k (mput M key val) → Kept (fun i => i = b) w w' → wpList P ops Q rest (a.put o.dst undef) w') : wpList P ops Q (o :: rest) a w := by
  refine wpList_plain hg fun K' hK2 => ?_
  obtain ⟨w', hrun, r1, r2⟩ := h.update hT hK key val
  unfold Oper.wp
  simp [execOp, hop, hm, hx, hv, hrun, Result.andThen]
  exact hK2 _ _ (hK' w' r1 r2)

theorem wp_append {e : TypeId} {i : TypeInfo} {z : Value} {size bytes : Nat} {t : TypeId} (ht : P.underlying t = some (.slice e)) (hi : P.info? e = some i) (hz : i.zero = some z)
    (hsize : i.size = size) (hby : i.bytes = bytes) (hzs : z.cells.size = size) (hsz : 0 < size) {v : Value} {n : Nat} {xs : List Value} (h : Sl S w e size v n xs) (hS : S w.heap.size)
    (hgd : o.guard = none) (s x : Operand) (ho : o.op = .call { callee := .builtin .append, args := #[s, x], argTypes := #[t, t] }) (hs : a.eval s = v)
    (ad : Addr) (m c : Nat) (news : List Value) (hx : a.eval x = .slice (some ad) m c) (hl : news.length = m * size) (hnews : ∀ j u, news[j]? = some u → w.cell? (ad.add j) = some u) (h1 : ∀ u ∈ news, u.oneCell' = true)
    (h63 : n + m ≤ maxLen) (hbytes : (n + m) * bytes ≤ 140737488355328)
    (hK : ∀ v' w', Sl S w' e size v' (n + m) (xs ++ news) → Kept (fun b => v.ownBlock = some b ∨ w.heap.size ≤ b) w w' → (v'.ownBlock = v.ownBlock ∨ v'.ownBlock = some w.heap.size) →
      (v' = .slice none 0 0 ↔ v = .slice none 0 0 ∧ m = 0) → wpList P ops Q rest (a.put o.dst v') w') : wpList P ops Q (o :: rest) a w := by
  refine wpList_append_own_at w hgd s x t ho 0 e i z size bytes ht hi hz hsize hby hzs hsz v n xs hs h.1 ad m c news hx hl hnews h1 h63 hbytes (Nat.zero_le _) fun v' w' h2 h3 h4 h5 => ?_
  refine hK v' w' ⟨h2, fun g hg => ?_⟩ ?_ h5 h4
  · rcases h5 with h5 | h5
    · exact h.2 g (h5 ▸ hg)
    · rw [h5] at hg
      injection hg with hg
      exact hg ▸ hS
  · refine ⟨h3.os, h3.tape, h3.output, h3.size, fun k hk => ?_⟩
    rcases Nat.lt_or_ge k w.heap.size with hlt | hge
    · exact h3.block k hlt (fun e => hk (.inl e.symm))
    · exact absurd (.inr hge) hk

theorem wp_append1 {e : TypeId} {i : TypeInfo} {z : Value} {size bytes : Nat} {t : TypeId} (ht : P.underlying t = some (.slice e)) (hi : P.info? e = some i) (hz : i.zero = some z)
    (hsize : i.size = size) (hby : i.bytes = bytes) (hzs : z.cells.size = size) (hsz : 0 < size) {v : Value} {n : Nat} {xs : List Value} (h : Sl S w e size v n xs) (hS : S w.heap.size)
    (hgd : o.guard = none) (s x : Operand) (ho : o.op = .call { callee := .builtin .append, args := #[s, x], argTypes := #[t, t] }) (hs : a.eval s = v)
    (ad : Addr) (m c : Nat) (news : List Value) (hx : a.eval x = .slice (some ad) m c) (hl : news.length = m * size) (hnews : ∀ j u, news[j]? = some u → w.cell? (ad.add j) = some u) (h1 : ∀ u ∈ news, u.oneCell' = true)
    (h63 : n + m ≤ maxLen) (hbytes : (n + m) * bytes ≤ 140737488355328) (hpos : 0 < n + m)
    (hK : ∀ g cap w', Sl S w' e size (.slice (some ⟨g, 0, none⟩) (n + m) cap) (n + m) (xs ++ news) → Kept (fun b => v.ownBlock = some b ∨ w.heap.size ≤ b) w w' → (v.ownBlock = some g ∨ g = w.heap.size) →
      wpList P ops Q rest (a.put o.dst (.slice (some ⟨g, 0, none⟩) (n + m) cap)) w') : wpList P ops Q (o :: rest) a w := by
  refine wp_append ht hi hz hsize hby hzs hsz h hS hgd s x ho hs ad m c news hx hl hnews h1 h63 hbytes fun v' w' h2 h3 h4 _ => ?_
  obtain ⟨g, cap, rfl, _⟩ := h2.form hpos
  refine hK g cap w' h2 h3 ?_
  rcases h4 with h4 | h4
  · exact .inl h4.symm
  · injection h4 with h4
    exact .inr h4
end

end Go.Proofs.YtemppijblfflgaaDoor.Ev
namespace Go.Proofs.YtemppijblfflgaaDoor.Ev
open Go Go.RowKit

theorem Sl.shape {S : Nat → Prop} {w : World} {e : TypeId} {size n : Nat} {v : Value} {xs : List Value} (h : Sl S w e size v n xs) : ∃ a c, v = .slice a n c := by
  rcases h.1.2 with ⟨rfl, rfl⟩ | ⟨g, cap, cur, rfl, _⟩
  · exact ⟨none, 0, rfl⟩
  · exact ⟨_, cap, rfl⟩

theorem cells_new (w : World) (l : List Value) (t : TypeId) : ∀ j u, l[j]? = some u → (w.alloc (.cells l.toArray t)).cell? ((⟨w.heap.size, 0, none⟩ : Addr).add j) = some u := by
  intro j u hu
  have := (Row.new w t l).cell j
  rw [hu] at this
  unfold Addr.add
  split
  · rename_i h0
    subst h0
    exact this
  · simpa using this


theorem infoEnds : (Tryd.prog.info? 209).map (fun i => (i.zero, i.size, i.bytes)) = some (some (.agg #[.int .i64 0, .int .i64 0, .int .i64 0]), 3, 24) := by kernel_rfl

theorem flat_len {α : Type} (f : α → List Value) (k : Nat) (hk : ∀ x, (f x).length = k) (l : List α) : (l.flatMap f).length = l.length * k := by
  induction l with
  | nil => simp
  | cons y l ih => simp [List.flatMap_cons, ih, hk, Nat.add_mul, Nat.add_comm]

theorem madeCells_flat {α : Type} (f : α → List Value) (k : Nat) (hk : ∀ x, (f x).length = k) (hpos : 0 < k) (x : α) (n : Nat) : madeCells (f x).toArray (n * k) = ((List.replicate n x).flatMap f).toArray := by
  apply Array.toList_inj.1
  apply List.ext_getElem?
  intro i
  have hsz : (f x).toArray.size = k := by simp [hk]
  by_cases hi : i < n * k
  · have hdiv : i / k < n := Nat.div_lt_of_lt_mul (by rw [Nat.mul_comm]; exact hi)
    have hmod : i % k < k := Nat.mod_lt _ hpos
    have h1 := flat_get f k hk (List.replicate n x) (i / k) (i % k) x (by simp [List.getElem?_replicate, hdiv]) hmod
    have h2 : i / k * k + i % k = i := by rw [Nat.mul_comm]; exact Nat.div_add_mod i k
    rw [h2] at h1
    simp only [List.toList_toArray]
    rw [h1]
    unfold madeCells
    simp only [Array.toList_map, Array.toList_range, List.getElem?_map, List.getElem?_range hi, Option.map_some, hsz]
    have h3 : i % k < (f x).length := by rw [hk]; exact hmod
    rw [List.getElem?_eq_getElem h3]
    simp [h3]
  · have h1 : (madeCells (f x).toArray (n * k)).toList.length = n * k := by simp [size_madeCells]
    rw [List.getElem?_eq_none (by omega), List.getElem?_eq_none (by rw [List.toList_toArray, flat_len f k hk]; simp; omega)]

def Arena.new (n : Nat) : Arena := ⟨[⟨0, 0, 0, 0, 0⟩], [], List.replicate n ⟨0, 0, 0⟩, []⟩

section
variable {S : Nat → Prop} {w : World}

theorem Row.at_new {w : World} {g : Nat} (t : TypeId) (cs : List Value) (hg : g = w.heap.size) : Row (w.alloc (.cells cs.toArray t)) g t cs := by subst hg; exact Row.new w t cs
theorem IsMap.at_new {w : World} {g : Nat} (k : IntKind) (hg : g = w.heap.size) : IsMap (w.alloc (.map #[] 0)) g k [] := by subst hg; exact IsMap.new w k
theorem IsMap.alloc {w : World} {b : Nat} {k : IntKind} {M : IMap} (h : IsMap w b k M) (o : Obj) : IsMap (w.alloc o) b k M := h.of_block (Below.heap_alloc w o b h.lt)
theorem IsMap.drew {w : World} {b : Nat} {k : IntKind} {M : IMap} (h : IsMap w b k M) : IsMap w.drew b k M := h
theorem Sl.of_row {w : World} {e : TypeId} {size n g : Nat} {xs : List Value} (h : Row w g e xs) (hs : S g) (hl : xs.length = n * size) (hn : n ≤ maxLen) : Sl S w e size (.slice (some ⟨g, 0, none⟩) n n) n xs :=
  ⟨⟨hl, .inr ⟨g, n, xs.toArray, rfl, Nat.zero_le _, h, Nat.le_refl _, hn, by simp [hl], by simp only [List.toList_toArray]; rw [← hl, List.take_length]⟩⟩, fun b hb => by injection hb with hb; exact hb ▸ hs⟩

theorem ARep.fresh {W : World} {g gl gq bm n : Nat} (hn : n ≤ 1000000) (hr : Row W g 101 [.slice (some ⟨gl, 0, none⟩) 1 1, .slice none 0 0, .slice (some ⟨gq, 0, none⟩) n n, .map (some bm)])
    (hl : Row W gl 207 (encNode ⟨0, 0, 0, 0, 0⟩)) (hq : Row W gq 209 ((List.replicate n (⟨0, 0, 0⟩ : Ends)).flatMap encEnds)) (hm : IsMap W bm .u64 [])
    (h1 : S g) (h2 : S gl) (h3 : S gq) (h4 : S bm) : ∃ vl vf vq bm, ARep S W g (Arena.new n) vl vf vq bm := by
  have e : (List.replicate n (⟨0, 0, 0⟩ : Ends)).length = n := by simp
  refine ⟨_, _, _, _, hr, Sl.of_row hl h2 rfl (by unfold maxLen; omega), ⟨World.ownsRow_nil _ _ _ _, fun b hb => by cases hb⟩, ?_, hm, h1, h4⟩
  have hq' := Sl.of_row (S := S) hq h3 (size := 3) (n := n) (by rw [flat_len encEnds 3 (fun _ => rfl), e]) (by unfold maxLen; omega)
  show Sl S W _ 3 _ (List.replicate n (⟨0, 0, 0⟩ : Ends)).length _
  rw [e]
  exact hq'

set_option maxRecDepth 100000 in
set_option maxHeartbeats 1000000 in
theorem new_any (hS : Up S w) (n : Nat) (hn : n ≤ 1000000) :
    Calls Tryd.prog 11 #[.int .i64 n] w fun e w' => ∃ g, e = .returned (.pointer (some ⟨g, 0, none⟩)) ∧ Kept S w w' ∧ ∃ vl vf vq bm, ARep S w' g (Arena.new n) vl vf vq bm := by
  have hS' : ∀ k, w.heap.size ≤ k → S k := hS
  obtain ⟨i0, hi0, hz0, hz1, hz2⟩ := info_parts infoEnds
  have hmk : ∀ W : World, (Instr.makeSlice 98 (.int .i64 (n : Int)) (.int .i64 (n : Int))).run Tryd.prog W =
      .ok (.slice (some ⟨W.heap.size, 0, none⟩) n n) (W.alloc (.cells ((List.replicate n (⟨0, 0, 0⟩ : Ends)).flatMap encEnds).toArray 209)) := by
    intro W
    have h := run_make (P := Tryd.prog) W 98 209 i0 _ Tryd.underlying98 hi0 hz0 .i64 .i64 (n : Int) (n : Int) (by omega) (by omega) (by rw [hz2]; omega) (by omega)
    rw [hz1, Int.toNat_natCast] at h
    have e : (Value.agg #[.int .i64 0, .int .i64 0, .int .i64 0]).cells = (encEnds ⟨0, 0, 0⟩).toArray := rfl
    rw [e, madeCells_flat encEnds 3 (fun _ => rfl) (by omega)] at h
    exact h
  have hm1 : ∀ W : World, (Instr.makeSlice 97 (.int .i64 1) (.int .i64 1)).run Tryd.prog W = .ok (.slice (some ⟨W.heap.size, 0, none⟩) 1 1) (W.alloc (.cells (encNode ⟨0, 0, 0, 0, 0⟩).toArray 207)) := fun W => by kernel_rfl
  have hmm := @run_makeMap Tryd.prog
  generalize hE : ((List.replicate n (⟨0, 0, 0⟩ : Ends)).flatMap encEnds) = E at hmk
  generalize hN : encNode ⟨0, 0, 0, 0, 0⟩ = N at hm1
  have HE := Lib.hid hE
  have HN := Lib.hid hN
  clear hE hN hi0 hz0 hz1 hz2
  go_enter Tryd.func11, Tryd.ntmps11
  go_wp2
  go_region
  go_goals
  all_goals
    go_wp2
    go_ret
    refine ⟨_, rfl, ?_, ?_⟩
    · repeat' first | with_reducible exact Kept.refl _ _ | with_reducible refine Kept.drew ?_ | with_reducible refine Kept.alloc ?_ (hS' _ (by simp <;> omega)) _
    · refine ARep.fresh hn (Row.drew (Row.at_new _ _ (by simp))) ?_ ?_ ?_ (hS _ (by omega)) (hS _ (by omega)) (hS _ (by omega)) (hS _ (by omega))
      · rw [HN.out]
        repeat' first | with_reducible exact Row.at_new _ _ (by simp) | with_reducible refine Row.drew ?_ | with_reducible refine Row.alloc ?_ _
      · rw [HE.out]
        repeat' first | with_reducible exact Row.at_new _ _ (by simp) | with_reducible refine Row.drew ?_ | with_reducible refine Row.alloc ?_ _
      · repeat' first | with_reducible exact IsMap.at_new _ (by simp) | with_reducible refine IsMap.drew ?_ | with_reducible refine IsMap.alloc ?_ _
end
end Go.Proofs.YtemppijblfflgaaDoor.Ev
namespace Go.Proofs.YtemppijblfflgaaDoor.Ev
open Go Go.RowKit
abbrev vs (l : Bytes) : Value := .string ⟨l.toArray⟩
end Go.Proofs.YtemppijblfflgaaDoor.Ev
