/- append as a step of a region that draws, in this claim's words. Over any program. How a policy's tree lies in the program's memory. A policy as a program of small steps, and the machine for it: what comes of it is what the tree says. No program in sight. The maker of steps: its call 'put'. How the package's errors and words, a policy, a program of steps lie in memory. Plain facts on tokens: where they lie. No program in sight. The reader of a policy in memory, whole; its small calls: fail, note, want, take. errors.Is over this program's errors: a *Fault that wraps a sentinel, a bare sentinel. After the worked text SentryIs. Conditions: none. -/
import Derived.Deep.AppendLies
import Derived.Deep.RegionHeld3
import Derived.Deep.RegionLaw
import Derived.WalkLawsBesides
import Derived.LaidEql
import Derived.Stop.Asserts
import Derived.RowKitTokens
import Derived.LoopN
import Derived.Test.YtemppijblfflgaaDoorZr01
import Derived.Test.YtemppijblfflgaaDoorZr02
import Derived.Test.YtemppijblfflgaaDoorZr03
set_option linter.all false
namespace Go.Proofs.YtemppijblfflgaaDoor.Ev
open Go Go.RowKit

section
variable {S : Nat → Prop} {P : Program} {w : World} {ops : Array Oper} {o : Oper} {a : Act}

theorem step_append1 {K : Act → World → Prop} {Q : Exit → Act → World → Prop} {E : Prop} {e : TypeId} {i : TypeInfo} {z : Value} {size bytes : Nat} {t : TypeId} (ht : P.underlying t = some (.slice e)) (hi : P.info? e = some i) (hz : i.zero = some z)
    (hsize : i.size = size) (hby : i.bytes = bytes) (hzs : z.cells.size = size) (hsz : 0 < size) {v : Value} {n : Nat} {xs : List Value} (h : Sl S w e size v n xs) (hS : S w.heap.size)
    (hgd : o.guard = none) (s x : Operand) (ho : o.op = .call { callee := .builtin .append, args := #[s, x], argTypes := #[t, t] }) (hs : a.eval s = v)
    (ad : Addr) (m c : Nat) (news : List Value) (hx : a.eval x = .slice (some ad) m c) (hl : news.length = m * size) (hnews : ∀ j u, news[j]? = some u → w.cell? (ad.add j) = some u) (h1 : ∀ u ∈ news, u.oneCell' = true)
    (h63 : n + m ≤ maxLen) (hbytes : (n + m) * bytes ≤ 140737488355328) (hpos : 0 < m)
    (hK : ∀ g cap w', Sl S w' e size (.slice (some ⟨g, 0, none⟩) (n + m) cap) (n + m) (xs ++ news) → Kept (fun b => v.ownBlock = some b ∨ w.heap.size ≤ b) w w' → (v.ownBlock = some g ∨ g = w.heap.size) →
      K (a.put o.dst (.slice (some ⟨g, 0, none⟩) (n + m) cap)) w') : if Region.wanted o (yielded ops a.tmps) = true then Oper.wp P o a w K Q else E := by
  refine step_append_lies w hgd s x t ho 0 e i z size bytes ht hi hz hsize hby hzs hsz v n xs hs h.1 ad m c news hx hl hnews h1 hpos h63 hbytes (Nat.zero_le _) w.heap.size rfl fun g cap w' h2 h3 h4 h5 => ?_
  refine hK g cap w' ⟨h2, fun g' hg' => ?_⟩ ?_ h4
  · injection hg' with hg'
    simp only at hg'
    subst hg'
    rcases h4 with h4 | h4
    · exact h.2 _ h4
    · rw [h4]; exact hS
  · refine ⟨h3.os, h3.tape, h3.output, h3.size, fun k hk => ?_⟩
    rcases Nat.lt_or_ge k w.heap.size with hlt | hge
    · exact h3.block k hlt (fun e => hk (.inl e.symm))
    · exact absurd (.inr hge) hk
end
end Go.Proofs.YtemppijblfflgaaDoor.Ev
namespace Go.Proofs.YtemppijblfflgaaDoor.Ev
open Go Go.RowKit


def valWord : Val → Bytes
  | .num _ => kNumber
  | .var _ => kVar
  | .len _ => kLen
  | .freq => kFreq
def valNum : Val → Int
  | .num n => n
  | .var n => n
  | .len n => n
  | .freq => 0
/-- policy.Value -/
def encVal (v : Val) : List Value := [vs (valWord v), .int .i64 (valNum v)]

abbrev kLessWord : Bytes := [108, 101, 115, 115]
def ckWord : CK → Bytes
  | .full _ => kFull
  | .empty _ => kEmpty
  | .warm _ => kWarm
  | .less _ _ => kLessWord
def ckNum : CK → Int
  | .full n => n
  | .empty n => n
  | .warm n => n
  | .less _ _ => 0
def ckVals : CK → List Value
  | .less a b => encVal a ++ encVal b
  | _ => [vs [], .int .i64 0, vs [], .int .i64 0]
def oddB (n : Nat) : Bool := n % 2 == 1
/-- policy.Cond -/
def encCond (c : Cond) : List Value := [vs (ckWord c.k), .int .i64 (ckNum c.k)] ++ ckVals c.k ++ [.bool (oddB c.nots)]
def noCond : List Value := [vs [], .int .i64 0, vs [], .int .i64 0, vs [], .int .i64 0, .bool false]

def primWord : Prim → Bytes
  | .put _ _ => kPut
  | .evict _ => kEvict
  | .cool _ => kCool
  | .shift _ _ _ => kShift
  | .inc _ => kInc
  | .dec _ => kDec
  | .drop => kDrop
  | .bump => kBump
def primN : Prim → Int
  | .put q _ => q
  | .evict q => q
  | .cool q => q
  | .shift q _ _ => q
  | .inc v => v
  | .dec v => v
  | _ => 0
def primM : Prim → Int
  | .shift _ p _ => p
  | _ => 0
def primTail : Prim → Bool
  | .put _ t => t
  | .shift _ _ t => t
  | _ => false
def vnil : Value := .slice none 0 0
/-- policy.Stmt -/
def encPrim (p : Prim) : List Value := [vs (primWord p), .int .i64 (primN p), .int .i64 (primM p), .bool (primTail p)] ++ noCond ++ [vnil, vnil]
def encIf (c : Cond) (vt ve : Value) : List Value := [vs kIf, .int .i64 0, .int .i64 0, .bool false] ++ encCond c ++ [vt, ve]
def encRep (n : Int) (c : Cond) (vt : Value) : List Value := [vs kRepeat, .int .i64 n, .int .i64 0, .bool false] ++ encCond c ++ [vt, vnil]

theorem ckVals_len (c : CK) : (ckVals c).length = 4 := by cases c <;> rfl
theorem encCond_len (c : Cond) : (encCond c).length = 7 := by simp [encCond, ckVals_len]
/-- A slice of statements, not nil, that owns its row in N. -/
def Sn (N : Nat → Prop) (w : World) (v : Value) (n : Nat) (cs : List Value) : Prop :=
  Sl N w 136 13 v n cs ∧ ∃ g c, v = .slice (some ⟨g, 0, none⟩) n c

/-- The cells of a block's statements; what they lead to lies in N. -/
def StmtsR (N : Nat → Prop) (w : World) : Blk → List Value → Prop
  | .nil, cs => cs = []
  | .prim p r, cs => ∃ rest, cs = encPrim p ++ rest ∧ StmtsR N w r rest
  | .ite c t o e r, cs => ∃ vt ve rest, cs = encIf c vt ve ++ rest ∧ (∃ ct, Sn N w vt t.length ct ∧ StmtsR N w t ct) ∧
      (if o then ∃ ce, Sn N w ve e.length ce ∧ StmtsR N w e ce else ve = vnil ∧ e = .nil) ∧ StmtsR N w r rest
  | .rep n c b r, cs => ∃ vt rest, cs = encRep n c vt ++ rest ∧ (∃ ct, Sn N w vt b.length ct ∧ StmtsR N w b ct) ∧ StmtsR N w r rest

/-- A block. -/
def BlkV (N : Nat → Prop) (w : World) (v : Value) (b : Blk) : Prop := ∃ cs, Sn N w v b.length cs ∧ StmtsR N w b cs

section
variable {N N' : Nat → Prop} {w w' : World}
theorem Sn.kept {v : Value} {n : Nat} {cs : List Value} (h : Sn N w v n cs) (hk : ∀ k cs, N k → Row w k 136 cs → w'.heap[k]? = w.heap[k]?) : Sn N w' v n cs := by
  obtain ⟨⟨⟨h0, h1⟩, h2⟩, h3⟩ := h
  refine ⟨⟨⟨h0, ?_⟩, h2⟩, h3⟩
  rcases h1 with h1 | ⟨g, cap, cur, rfl, hb, hg, h4⟩
  · exact .inl h1
  · exact .inr ⟨g, cap, cur, rfl, hb, (hk g cur.toList (h2 g rfl) (by unfold Row; simpa using hg)).trans hg, h4⟩
theorem Sn.mono {v : Value} {n : Nat} {cs : List Value} (h : Sn N w v n cs) (hN : ∀ k, k < w.heap.size → N k → N' k) : Sn N' w v n cs :=
  ⟨⟨h.1.1, fun g hg => hN g (h.1.lt hg) (h.1.2 g hg)⟩, h.2⟩
theorem StmtsR.kept (hk : ∀ k cs, N k → Row w k 136 cs → w'.heap[k]? = w.heap[k]?) : ∀ (b : Blk) (cs : List Value), StmtsR N w b cs → StmtsR N w' b cs
  | .nil, _, h => h
  | .prim p r, cs, ⟨rest, h1, h2⟩ => ⟨rest, h1, StmtsR.kept hk r rest h2⟩
  | .ite c t o e r, cs, ⟨vt, ve, rest, h1, ⟨ct, h2, h3⟩, h4, h5⟩ => ⟨vt, ve, rest, h1, ⟨ct, h2.kept hk, StmtsR.kept hk t ct h3⟩, by
      cases o with
      | false => exact h4
      | true =>
        obtain ⟨ce, h6, h7⟩ := h4
        exact ⟨ce, h6.kept hk, StmtsR.kept hk e ce h7⟩, StmtsR.kept hk r rest h5⟩
  | .rep n c b r, cs, ⟨vt, rest, h1, ⟨ct, h2, h3⟩, h5⟩ => ⟨vt, rest, h1, ⟨ct, h2.kept hk, StmtsR.kept hk b ct h3⟩, StmtsR.kept hk r rest h5⟩
theorem StmtsR.mono (hN : ∀ k, k < w.heap.size → N k → N' k) : ∀ (b : Blk) (cs : List Value), StmtsR N w b cs → StmtsR N' w b cs
  | .nil, _, h => h
  | .prim p r, cs, ⟨rest, h1, h2⟩ => ⟨rest, h1, StmtsR.mono hN r rest h2⟩
  | .ite c t o e r, cs, ⟨vt, ve, rest, h1, ⟨ct, h2, h3⟩, h4, h5⟩ => ⟨vt, ve, rest, h1, ⟨ct, h2.mono hN, StmtsR.mono hN t ct h3⟩, by
      cases o with
      | false => exact h4
      | true =>
        obtain ⟨ce, h6, h7⟩ := h4
        exact ⟨ce, h6.mono hN, StmtsR.mono hN e ce h7⟩, StmtsR.mono hN r rest h5⟩
  | .rep n c b r, cs, ⟨vt, rest, h1, ⟨ct, h2, h3⟩, h5⟩ => ⟨vt, rest, h1, ⟨ct, h2.mono hN, StmtsR.mono hN b ct h3⟩, StmtsR.mono hN r rest h5⟩
theorem StmtsR.app : ∀ (b : Blk) (cs : List Value) (r : Blk) (rs : List Value), StmtsR N w b cs → StmtsR N w r rs → StmtsR N w (b.app r) (cs ++ rs)
  | .nil, _, r, rs, h, hr => by rw [show _ = [] from h]; exact hr
  | .prim p x, cs, r, rs, ⟨rest, h1, h2⟩, hr => ⟨rest ++ rs, by rw [h1, List.append_assoc], StmtsR.app x rest r rs h2 hr⟩
  | .ite c t o e x, cs, r, rs, ⟨vt, ve, rest, h1, h2, h4, h5⟩, hr => ⟨vt, ve, rest ++ rs, by rw [h1, List.append_assoc], h2, h4, StmtsR.app x rest r rs h5 hr⟩
  | .rep n c b x, cs, r, rs, ⟨vt, rest, h1, h2, h5⟩, hr => ⟨vt, rest ++ rs, by rw [h1, List.append_assoc], h2, StmtsR.app x rest r rs h5 hr⟩
theorem BlkV.kept {v : Value} {b : Blk} (h : BlkV N w v b) (hk : ∀ k cs, N k → Row w k 136 cs → w'.heap[k]? = w.heap[k]?) : BlkV N w' v b := by
  obtain ⟨cs, h1, h2⟩ := h
  exact ⟨cs, h1.kept hk, StmtsR.kept hk b cs h2⟩
theorem BlkV.mono {v : Value} {b : Blk} (h : BlkV N w v b) (hN : ∀ k, k < w.heap.size → N k → N' k) : BlkV N' w v b := by
  obtain ⟨cs, h1, h2⟩ := h
  exact ⟨cs, h1.mono hN, StmtsR.mono hN b cs h2⟩
end
theorem Blk.length_app : ∀ (b r : Blk), (b.app r).length = b.length + r.length
  | .nil, r => by simp [Blk.app, Blk.length]
  | .prim p x, r => by simp [Blk.app, Blk.length, Blk.length_app x r]; omega
  | .ite c t o e x, r => by simp [Blk.app, Blk.length, Blk.length_app x r]; omega
  | .rep n c b x, r => by simp [Blk.app, Blk.length, Blk.length_app x r]; omega
end Go.Proofs.YtemppijblfflgaaDoor.Ev
namespace Go.Proofs.YtemppijblfflgaaDoor.Ev

inductive Ins where
  | prim (x : Prim)
  | num (n : Int)
  | var (n : Int)
  | len (n : Int)
  | freq
  | less
  | full (n : Int)
  | warm (n : Int)
  | not
  | jump (a : Nat)
  | skip (a : Nat)
  | count (c : Nat) (n : Int)
  | again (c a : Nat)
  | fin

def Prim.op : Prim → Nat
  | .put _ false => 0
  | .put _ true => 1
  | .evict _ => 2
  | .shift _ _ false => 3
  | .shift _ _ true => 4
  | .drop => 5
  | .inc _ => 6
  | .dec _ => 6
  | .bump => 7
  | .cool _ => 8
def Prim.a : Prim → Int
  | .put q _ => q
  | .evict q => q
  | .shift q _ _ => q
  | .inc v => v
  | .dec v => v
  | .cool q => q
  | _ => 0
def Prim.b : Prim → Int
  | .shift _ p _ => p
  | .inc _ => 1
  | .dec _ => -1
  | _ => 0

def Ins.op : Ins → Nat
  | .prim x => x.op
  | .num _ => 9
  | .var _ => 10
  | .len _ => 11
  | .freq => 12
  | .less => 13
  | .full _ => 14
  | .warm _ => 15
  | .not => 16
  | .jump _ => 17
  | .skip _ => 18
  | .count _ _ => 19
  | .again _ _ => 20
  | .fin => 21
def Ins.a : Ins → Int
  | .prim x => x.a
  | .num n => n
  | .var n => n
  | .len n => n
  | .full n => n
  | .warm n => n
  | .jump a => a
  | .skip a => a
  | .count c _ => c
  | .again c _ => c
  | _ => 0
def Ins.b : Ins → Int
  | .prim x => x.b
  | .count _ n => n
  | .again _ a => a
  | _ => 0

def compVal : Val → Ins
  | .num n => .num n
  | .var n => .var n
  | .len n => .len n
  | .freq => .freq
def compCK : CK → List Ins
  | .full n => [.full n]
  | .empty n => [.len n, .num 1, .less]
  | .warm n => [.warm n]
  | .less a b => [compVal a, compVal b, .less]
def compCond (c : Cond) : List Ins := compCK c.k ++ if c.nots % 2 == 1 then [.not] else []

def Blk.loops : Blk → Nat
  | .nil => 0
  | .prim _ r => r.loops
  | .ite _ t _ e r => t.loops + e.loops + r.loops
  | .rep _ _ b r => 1 + b.loops + r.loops

/-- The steps of a block that stands at o, whose first loop is loop c. -/
def comp : Nat → Nat → Blk → List Ins
  | _, _, .nil => []
  | c, o, .prim p r => .prim p :: comp c (o + 1) r
  | c, o, .ite k t other e r =>
    let n1 := o + (compCond k).length + 1
    let T := comp c n1 t
    if other then
      let E := comp (c + t.loops) (n1 + T.length + 1) e
      compCond k ++ .skip (n1 + T.length + 1) :: (T ++ .jump (n1 + T.length + 1 + E.length) :: (E ++ comp (c + t.loops + e.loops) (n1 + T.length + 1 + E.length) r))
    else compCond k ++ .skip (n1 + T.length) :: (T ++ comp (c + t.loops) (n1 + T.length) r)
  | c, o, .rep n k b r =>
    let n1 := o + 2 + (compCond k).length + 1
    let B := comp (c + 1) n1 b
    .count c n :: .again c (n1 + B.length + 1) :: (compCond k ++ .skip (n1 + B.length + 1) :: (B ++ .jump (o + 1) :: comp (c + 1 + b.loops) (n1 + B.length + 1) r))

/-- An index of a declaration. -/
def Ix (m : Nat) (n : Int) : Prop := 0 ≤ n ∧ n < m
instance (m : Nat) (n : Int) : Decidable (Ix m n) := by unfold Ix; exact inferInstance

def PrimOk (l : List Decl) : Prim → Prop
  | .put q _ => Ix l.length q ∧ (declAt l q).kind ≠ 2
  | .evict q => Ix l.length q
  | .cool q => Ix l.length q
  | .shift q p _ => Ix l.length q ∧ Ix l.length p ∧ (declAt l p).kind ≠ 2
  | .inc v => Ix l.length v
  | .dec v => Ix l.length v
  | _ => True
instance (l : List Decl) (x : Prim) : Decidable (PrimOk l x) := by cases x <;> unfold PrimOk <;> exact inferInstance
section
variable (p : Policy) (key : Int)

variable {p key}
variable {code : List Ins}
end
end Go.Proofs.YtemppijblfflgaaDoor.Ev
namespace Go.Proofs.YtemppijblfflgaaDoor.Ev
open Go Go.RowKit

/-- code.Step -/
def encStep (i : Ins) : List Value := [.int .u8 i.op, .int .i64 i.a, .int .i64 i.b]

theorem infoStep : (Tryd.prog.info? 96).map (fun i => (i.zero, i.size, i.bytes)) = some (some (.agg #[.int .u8 0, .int .i64 0, .int .i64 0]), 3, 24) := by kernel_rfl

/-- The maker in memory: its block, its program's, its steps; what it may write lies in S. -/
structure MkR (S : Nat → Prop) (w : World) (gm gg gp bm : Nat) (vl : Value) (loops : Nat) (code : List Ins) : Prop where
  row : Row w gm 91 [.pointer (some ⟨gg, 0, none⟩), vl]
  prog : Row w gg 87 [.pointer (some ⟨gp, 0, none⟩), .map (some bm), .int .i64 loops]
  l : Sl S w 96 3 vl code.length (code.flatMap encStep)
  sm : S gm
  sg : S gg

section
variable {S : Nat → Prop} {w : World} {gm gg gp bm loops : Nat} {vl : Value} {code : List Ins}

set_option maxRecDepth 100000 in
set_option maxHeartbeats 1000000 in
theorem put_any (h : MkR S w gm gg gp bm vl loops code) (hS : Up S w) (hn : code.length ≤ 1000000) (i : Ins) :
    Calls Tryd.prog 24 #[.pointer (some ⟨gm, 0, none⟩), .agg (encStep i).toArray] w fun e w' =>
      e = .returned (.int .i64 code.length) ∧ Kept S w w' ∧ ∃ vl, MkR S w' gm gg gp bm vl loops (code ++ [i]) := by
  have c1 := h.row.cell 1
  have hgm := h.row.lt
  have f := fun j => h.row.frozen j
  simp at c1
  obtain ⟨i0, hi0, hz0, hz1, hz2⟩ := info_parts infoStep
  obtain ⟨av, cv, rfl⟩ := h.l.shape
  have W1 := h.l.alloc (.cells (encStep i).toArray 96)
  have H := Lib.hid h
  have HS := Lib.hid hS
  have HW1 := Lib.hid W1
  have hne : ¬ gm = w.heap.size := by omega
  have q3 : ∀ u ∈ encStep i, u.oneCell' = true := by intro u hu; simp [encStep] at hu; rcases hu with rfl | rfl | rfl <;> rfl
  have Q3 := Lib.hid q3
  have q4 : code.length + 1 ≤ maxLen := by unfold maxLen; omega
  have q5 : (code.length + 1) * 24 ≤ 140737488355328 := by omega
  clear h hS W1 q3
  unfold encStep at *
  go_enter Tryd.func24, Tryd.ntmps24
  go_wp2_with fail
  have b0 : (w.alloc (.cells #[.int .u8 i.op, .int .i64 i.a, .int .i64 i.b] 96)).cell? ⟨w.heap.size, 0, none⟩ = some (.int .u8 i.op) := by simp
  have b1 : (w.alloc (.cells #[.int .u8 i.op, .int .i64 i.a, .int .i64 i.b] 96)).cell? ⟨w.heap.size, 1, none⟩ = some (.int .i64 i.a) := by simp
  have b2 : (w.alloc (.cells #[.int .u8 i.op, .int .i64 i.a, .int .i64 i.b] 96)).cell? ⟨w.heap.size, 2, none⟩ = some (.int .i64 i.b) := by simp
  have b3 := (H.out.row.alloc (.cells #[.int .u8 i.op, .int .i64 i.a, .int .i64 i.b] 96)).cell 1
  simp only [List.getElem?_cons_succ, List.getElem?_cons_zero] at b3
  have r1 := H.out.row.alloc (.cells #[.int .u8 i.op, .int .i64 i.a, .int .i64 i.b] 96)
  have r2 := H.out.prog.alloc (.cells #[.int .u8 i.op, .int .i64 i.a, .int .i64 i.b] 96)
  have hsz : (w.alloc (.cells #[.int .u8 i.op, .int .i64 i.a, .int .i64 i.b] 96)).heap.size = w.heap.size + 1 := by simp
  have kw : Kept S w (w.alloc (.cells #[.int .u8 i.op, .int .i64 i.a, .int .i64 i.b] 96)) := (Kept.refl S w).alloc (HS.out _ (Nat.le_refl _)) _
  have f1 := fun j => r1.frozen j
  have hlt : ∀ b, (Value.slice av code.length cv).ownBlock = some b → b < w.heap.size := fun b hb => H.out.l.lt hb
  generalize hw1 : w.alloc (.cells #[.int .u8 i.op, .int .i64 i.a, .int .i64 i.b] 96) = w1 at *
  have p0 : ∀ b, b = gm ∨ b = gg ∨ b = w.heap.size → ¬ ((Value.slice av code.length cv).ownBlock = some b ∨ ((w1.alloc (.cells #[.int .u8 i.op, .int .i64 i.a, .int .i64 i.b] 96)).drew).heap.size ≤ b) := by
    intro b hb
    have hggl := H.out.prog.lt
    have e : ((w1.alloc (.cells #[.int .u8 i.op, .int .i64 i.a, .int .i64 i.b] 96)).drew).heap.size = w1.heap.size + 1 := by simp
    rw [e]
    rintro (h0 | h0)
    · rcases hb with rfl | rfl | rfl
      · exact H.out.l.ne_row H.out.row (by decide) h0
      · exact H.out.l.ne_row H.out.prog (by decide) h0
      · have := hlt _ h0; omega
    · rcases hb with rfl | rfl | rfl <;> omega
  have s1 := (HW1.out.alloc (.cells #[.int .u8 i.op, .int .i64 i.a, .int .i64 i.b] 96)).of_heap (w' := (w1.alloc (.cells #[.int .u8 i.op, .int .i64 i.a, .int .i64 i.b] 96)).drew) rfl
  have fz1 : (w1.alloc (.cells #[.int .u8 i.op, .int .i64 i.a, .int .i64 i.b] 96)).drew.frozen? ⟨gm, 1, none⟩ = false := (r1.alloc _).frozen 1
  have b4 : (w1.alloc (.cells #[.int .u8 i.op, .int .i64 i.a, .int .i64 i.b] 96)).drew.cell? ⟨gm, 1, none⟩ = some (.slice av code.length cv) := (r1.alloc _).cell 1
  have S1 := Lib.hid s1
  have P0 := Lib.hid p0
  have R1 := Lib.hid r1
  have R2 := Lib.hid r2
  have hwn : S ((w1.alloc (.cells #[.int .u8 i.op, .int .i64 i.a, .int .i64 i.b] 96)).drew).heap.size := HS.out _ (by simp; omega)
  have HWN := Lib.hid hwn
  have q2 := cells_new w1 [.int .u8 i.op, .int .i64 i.a, .int .i64 i.b] 96
  have Q2 := Lib.hid q2
  have HL := Lib.hid hlt
  have KW := Lib.hid kw
  have HSZ := Lib.hid hsz
  clear hsz s1 p0 r1 r2 hwn q2 hlt kw hw1
  have hfin : ∀ (g2 cap2 : Nat) (w2 : World), Sl S w2 96 3 (.slice (some ⟨g2, 0, none⟩) (code.length + 1) cap2) (code.length + 1) (code.flatMap encStep ++ encStep i) →
      Kept (fun b => (Value.slice av code.length cv).ownBlock = some b ∨ ((w1.alloc (.cells #[.int .u8 i.op, .int .i64 i.a, .int .i64 i.b] 96)).drew).heap.size ≤ b) ((w1.alloc (.cells #[.int .u8 i.op, .int .i64 i.a, .int .i64 i.b] 96)).drew) w2 →
      Kept S w (w2.setCell ⟨gm, 1, none⟩ (.slice (some ⟨g2, 0, none⟩) (code.length + 1) cap2)) ∧ MkR S (w2.setCell ⟨gm, 1, none⟩ (.slice (some ⟨g2, 0, none⟩) (code.length + 1) cap2)) gm gg gp bm (.slice (some ⟨g2, 0, none⟩) (code.length + 1) cap2) loops (code ++ [i]) := by
    intro g2 cap2 w2 hs2 hk2
    have hS' : Up S w1 := HS.out.kept KW.out
    have k1 : Kept S w ((w1.alloc (.cells #[.int .u8 i.op, .int .i64 i.a, .int .i64 i.b] 96)).drew) := (KW.out.alloc (hS' _ (Nat.le_refl _)) _).drew
    have k2 : Kept S w w2 := k1.trans (hk2.mono (fun b hb => by
      rcases hb with hb | hb
      · exact H.out.l.2 b hb
      · exact hS' b (Nat.le_trans (by simp) hb)))
    have rm := ((R1.out.alloc (.cells #[.int .u8 i.op, .int .i64 i.a, .int .i64 i.b] 96)).drew).kept hk2 (P0.out gm (.inl rfl))
    have rg := ((R2.out.alloc (.cells #[.int .u8 i.op, .int .i64 i.a, .int .i64 i.b] 96)).drew).kept hk2 (P0.out gg (.inr (.inl rfl)))
    have hk3 : Kept (fun b => b = gm) w2 (w2.setCell ⟨gm, 1, none⟩ (.slice (some ⟨g2, 0, none⟩) (code.length + 1) cap2)) := Kept.one w2 ⟨gm, 1, none⟩ _
    have el : (code ++ [i]).length = code.length + 1 := by simp
    have ex : (code ++ [i]).flatMap encStep = code.flatMap encStep ++ encStep i := by simp
    refine ⟨k2.setCell (p := ⟨gm, 1, none⟩) H.out.sm _, rm.set_ 1 _, rg.kept hk3 (fun e => rg.ne_ rm (by decide) e), ?_, H.out.sm, H.out.sg⟩
    rw [el, ex]
    exact hs2.kept hk3 (fun b hb e => hs2.ne_row rm (by decide) (e ▸ hb))
  have HF := Lib.hid hfin
  clear hfin
  go_region_law (first
    | (refine step_append1 Tryd.underlying89 hi0 hz0 hz1 hz2 rfl (by decide) S1.out HWN.out rfl _ _ (by rfl) (by rfl) ⟨w1.heap.size, 0, none⟩ 1 1 [.int .u8 i.op, .int .i64 i.a, .int .i64 i.b] (by rfl) (by rfl) Q2.out Q3.out q4 q5 (by omega) ?_; intro g2 cap2 w2 hs2 hk2 hloc; have e1 := (hk2.cell (p := ⟨gm, 1, none⟩) (P0.out _ (.inl rfl))).trans b4; have e2 := (hk2.frozen (p := ⟨gm, 1, none⟩) (P0.out _ (.inl rfl))).trans fz1; have Hs2 := Lib.hid hs2; have Hk2 := Lib.hid hk2; clear hs2 hk2 hloc))
  all_goals
    go_wp2
    go_ret
    have hf := HF.out g2 cap2 w2 Hs2.out Hk2.out
    exact ⟨rfl, hf.1, _, hf.2⟩
end
end Go.Proofs.YtemppijblfflgaaDoor.Ev
namespace Go.Proofs.YtemppijblfflgaaDoor.Ev
open Go Go.RowKit

def encDecl (d : Decl) : List Value := [.int .i64 d.kind, vs d.name, .int .i64 d.max]

/-- The package-level variable that holds error number k. -/
def errGlobal (k : Nat) : Nat :=
  if k = 1 then 0 else if k = 2 then 7 else if k = 3 then 8 else if k = 4 then 4 else if k = 5 then 9 else if k = 6 then 10
  else if k = 7 then 11 else if k = 8 then 6 else if k = 9 then 5 else if k = 10 then 1 else if k = 11 then 12 else 13

def errV (ea : Nat → Addr) (k : Nat) : Value := .iface 171 (.pointer (some (ea k)))

/-- What the package-level variables hold: errors (at ea k), words; all below block B. -/
structure Env (B : Nat) (ea : Nat → Addr) (w : World) : Prop where
  size : B ≤ w.heap.size
  err : ∀ k, 1 ≤ k → k ≤ 12 → w.cell? ⟨errGlobal k, 0, none⟩ = some (errV ea k)
  lt : ∀ k, 1 ≤ k → k ≤ 12 → errGlobal k < B
  kw : ∀ j, j < 24 → w.cell? ⟨3, j, none⟩ = some (vs (keywords.getD j []))
  kwlt : 3 < B

/-- What was wrong first. -/
def WrongR (B : Nat) (ea : Nat → Addr) (w : World) (wp : Value) : Option (Nat × Nat) → Prop
  | none => wp = .pointer none
  | some (k, pos) => ∃ gf, wp = .pointer (some ⟨gf, 0, none⟩) ∧ B ≤ gf ∧ Row w gf 43 [errV ea k, .int .i64 pos]

/-- The rules. -/
def RulesR (N : Nat → Prop) (w : World) (bm : Nat) (rules : List (Int × Blk)) : Prop :=
  ∃ M : IMap, IsMap w bm .i64 M ∧ M.map (·.1) = rules.map (·.1) ∧ ∀ (i : Nat) (x : Int × Value) (y : Int × Blk), M[i]? = some x → rules[i]? = some y → BlkV N w x.2 y.2

/-- A policy in memory. -/
structure PolR (B : Nat) (w : World) (gp bm : Nat) (vd : Value) (p : Policy) : Prop where
  row : Row w gp 47 [vd, .int .i64 p.freq, .map (some bm)]
  decls : Sl (fun b => B ≤ b) w 110 3 vd p.decls.length (p.decls.flatMap encDecl)
  rules : RulesR (fun b => B ≤ b) w bm p.rules
  gp0 : B ≤ gp
  bm0 : B ≤ bm

/-- A rule's steps, as they stand: from loop c on. -/
def ruleCode (c : Nat) (b : Blk) : List Ins := comp c 0 b ++ [.fin]

/-- A rule's steps in memory. -/
def RuleC (S : Nat → Prop) (w : World) (rules : List (Int × Blk)) (loops : Nat) (k : Int) (v : Value) : Prop :=
  ∃ b c, ruleOf rules k = some b ∧ Sl S w 96 3 v (ruleCode c b).length ((ruleCode c b).flatMap encStep) ∧ c + b.loops ≤ loops

/-- A program in memory. -/
structure CodeR (S : Nat → Prop) (w : World) (gg gp bc loops : Nat) (rules : List (Int × Blk)) : Prop where
  row : Row w gg 87 [.pointer (some ⟨gp, 0, none⟩), .map (some bc), .int .i64 loops]
  map : ∃ M : IMap, IsMap w bc .i64 M ∧ ∀ k, match ruleOf rules k with
    | some _ => ∃ v, mget M k = some v ∧ RuleC S w rules loops k v
    | none => mget M k = none
  lo : loops ≤ 490000
  sg : S gg
  sm : S bc

end Go.Proofs.YtemppijblfflgaaDoor.Ev
namespace Go.Proofs.YtemppijblfflgaaDoor.Ev

theorem skip_bounds (p : UInt8 → Bool) (s : Bytes) (i : Nat) (h : i ≤ s.length) : i ≤ skip p s i ∧ skip p s i ≤ s.length := by
  unfold skip
  have h2 := (List.takeWhile_sublist (p := p) (l := s.drop i)).length_le
  rw [List.length_drop] at h2
  omega

theorem skip_first (p : UInt8 → Bool) (s : Bytes) (i : Nat) (c : UInt8) (h : s[i]? = some c) (hp : p c = true) : i < skip p s i := by
  obtain ⟨hi, hc⟩ := List.getElem?_eq_some_iff.1 h
  unfold skip
  rw [List.drop_eq_getElem_cons hi, hc]
  simp [hp]

/-- A token lies behind the place at which the reading began, and the reading goes on behind it. -/
theorem lex_facts (s : Bytes) (i : Nat) (h : i ≤ s.length) :
    i ≤ (lex s i).1.pos ∧ (lex s i).1.pos ≤ (lex s i).2 ∧ (lex s i).2 ≤ s.length ∧ ((lex s i).1.kind ≠ kEnd → (lex s i).1.kind ≠ kNone → (lex s i).1.pos < (lex s i).2) := by
  obtain ⟨b1, b2⟩ := skip_bounds blank s i h
  cases hc : s[skip blank s i]? with
  | none =>
    have e : lex s i = (⟨kEnd, [], skip blank s i⟩, skip blank s i) := by unfold lex; simp only [hc]
    rw [e]
    exact ⟨b1, Nat.le_refl _, b2, fun h => absurd rfl h⟩
  | some c =>
    have hlt : skip blank s i < s.length := by
      rcases Nat.lt_or_ge (skip blank s i) s.length with h | h
      · exact h
      · rw [List.getElem?_eq_none h] at hc; cases hc
    cases hl : low c with
    | true =>
      obtain ⟨l1, l2⟩ := skip_bounds low s (skip blank s i) b2
      have l3 := skip_first low s _ c hc hl
      by_cases h8 : 8 < skip low s (skip blank s i) - skip blank s i
      · have e : lex s i = (⟨kNone, [], skip blank s i⟩, skip blank s i) := by unfold lex; simp only [hc, hl, if_true, h8]
        rw [e]
        exact ⟨b1, Nat.le_refl _, b2, fun _ h => absurd rfl h⟩
      · have e : (lex s i).1.pos = skip blank s i ∧ (lex s i).2 = skip low s (skip blank s i) := by unfold lex; simp only [hc, hl, if_true, h8, if_false, and_self]
        rw [e.1, e.2]
        exact ⟨b1, l1, l2, fun _ _ => l3⟩
    | false =>
      cases hf : fig c with
      | true =>
        obtain ⟨l1, l2⟩ := skip_bounds fig s (skip blank s i) b2
        have l3 := skip_first fig s _ c hc hf
        by_cases h8 : 3 < skip fig s (skip blank s i) - skip blank s i
        · have e : lex s i = (⟨kNone, [], skip blank s i⟩, skip blank s i) := by unfold lex; simp only [hc, hl, hf, if_true, h8, Bool.false_eq_true, if_false]
          rw [e]
          exact ⟨b1, Nat.le_refl _, b2, fun _ h => absurd rfl h⟩
        · have e : (lex s i).1.pos = skip blank s i ∧ (lex s i).2 = skip fig s (skip blank s i) := by unfold lex; simp only [hc, hl, hf, if_true, h8, if_false, Bool.false_eq_true, and_self]
          rw [e.1, e.2]
          exact ⟨b1, l1, l2, fun _ _ => l3⟩
      | false =>
        cases hp : punct c with
        | true =>
          have e : lex s i = (⟨[c], [c], skip blank s i⟩, skip blank s i + 1) := by unfold lex; simp only [hc, hl, hf, hp, if_true, Bool.false_eq_true, if_false]
          rw [e]
          exact ⟨b1, Nat.le_succ _, hlt, fun _ _ => Nat.lt_succ_self _⟩
        | false =>
          have e : lex s i = (⟨kNone, [], skip blank s i⟩, skip blank s i) := by unfold lex; simp only [hc, hl, hf, hp, Bool.false_eq_true, if_false]
          rw [e]
          exact ⟨b1, Nat.le_refl _, b2, fun _ h => absurd rfl h⟩

/-- A number's text: one to three figures. -/
def NumText (l : Bytes) : Prop := 1 ≤ l.length ∧ l.length ≤ 3 ∧ ∀ c ∈ l, fig c = true

theorem piece_skip (p : UInt8 → Bool) (s : Bytes) (i : Nat) : piece s i (skip p s i) = (s.drop i).takeWhile p := by
  unfold piece skip
  rw [List.drop_take, Nat.add_sub_cancel_left]
  exact (List.prefix_iff_eq_take.1 (List.takeWhile_prefix p)).symm

theorem kw_noNumber : ¬ kNumber ∈ keywords := by decide

theorem all_takeWhile (p : UInt8 → Bool) : ∀ (l : Bytes), ∀ c ∈ l.takeWhile p, p c = true
  | [], c, h => by simp at h
  | x :: l, c, h => by
    by_cases hx : p x = true
    · rw [List.takeWhile_cons_of_pos hx] at h
      rcases List.mem_cons.1 h with rfl | h
      · exact hx
      · exact all_takeWhile p l c h
    · rw [List.takeWhile_cons_of_neg hx] at h
      cases h

theorem lex_num (s : Bytes) (i : Nat) (hk : (lex s i).1.kind = kNumber) : NumText (lex s i).1.text := by
  cases hc : s[skip blank s i]? with
  | none =>
    have e : lex s i = (⟨kEnd, [], skip blank s i⟩, skip blank s i) := by unfold lex; simp only [hc]
    rw [e] at hk; exact absurd (show kEnd = kNumber from hk) (by decide)
  | some c =>
    cases hl : low c with
    | true =>
      by_cases h8 : 8 < skip low s (skip blank s i) - skip blank s i
      · have e : lex s i = (⟨kNone, [], skip blank s i⟩, skip blank s i) := by unfold lex; simp only [hc, hl, if_true, h8]
        rw [e] at hk; exact absurd (show kNone = kNumber from hk) (by decide)
      · have e : (lex s i).1.kind = if keywords.contains (piece s (skip blank s i) (skip low s (skip blank s i))) then piece s (skip blank s i) (skip low s (skip blank s i)) else kName := by unfold lex; simp only [hc, hl, if_true, h8, if_false]
        rw [e] at hk
        by_cases hm : keywords.contains (piece s (skip blank s i) (skip low s (skip blank s i))) = true
        · rw [if_pos hm] at hk
          rw [hk] at hm
          exact absurd (List.contains_iff_mem.1 hm) kw_noNumber
        · rw [if_neg hm] at hk
          exact absurd (show kName = kNumber from hk) (by decide)
    | false =>
      cases hf : fig c with
      | true =>
        by_cases h8 : 3 < skip fig s (skip blank s i) - skip blank s i
        · have e : lex s i = (⟨kNone, [], skip blank s i⟩, skip blank s i) := by unfold lex; simp only [hc, hl, hf, if_true, h8, Bool.false_eq_true, if_false]
          rw [e] at hk; exact absurd (show kNone = kNumber from hk) (by decide)
        · have e : (lex s i).1.text = piece s (skip blank s i) (skip fig s (skip blank s i)) := by unfold lex; simp only [hc, hl, hf, if_true, h8, if_false, Bool.false_eq_true]
          have l3 := skip_first fig s _ c hc hf
          rw [e, piece_skip]
          have e2 : skip fig s (skip blank s i) = skip blank s i + ((s.drop (skip blank s i)).takeWhile fig).length := rfl
          generalize skip fig s (skip blank s i) = x at *
          exact ⟨by omega, by omega, all_takeWhile fig _⟩
      | false =>
        cases hp : punct c with
        | true =>
          have e : lex s i = (⟨[c], [c], skip blank s i⟩, skip blank s i + 1) := by unfold lex; simp only [hc, hl, hf, hp, if_true, Bool.false_eq_true, if_false]
          rw [e] at hk
          have := congrArg List.length (show [c] = kNumber from hk)
          exact absurd this (by simp)
        | false =>
          have e : lex s i = (⟨kNone, [], skip blank s i⟩, skip blank s i) := by unfold lex; simp only [hc, hl, hf, hp, Bool.false_eq_true, if_false]
          rw [e] at hk; exact absurd (show kNone = kNumber from hk) (by decide)

/-- A name's text. -/
def NameT (l : Bytes) : Prop := 1 ≤ l.length ∧ l.length ≤ 8 ∧ (∀ c ∈ l, low c = true) ∧ ¬ l ∈ keywords

theorem kw_noName : ¬ kName ∈ keywords := by decide

theorem lex_name (s : Bytes) (i : Nat) (hk : (lex s i).1.kind = kName) : NameT (lex s i).1.text := by
  cases hc : s[skip blank s i]? with
  | none =>
    have e : lex s i = (⟨kEnd, [], skip blank s i⟩, skip blank s i) := by unfold lex; simp only [hc]
    rw [e] at hk; exact absurd (show kEnd = kName from hk) (by decide)
  | some c =>
    cases hl : low c with
    | true =>
      by_cases h8 : 8 < skip low s (skip blank s i) - skip blank s i
      · have e : lex s i = (⟨kNone, [], skip blank s i⟩, skip blank s i) := by unfold lex; simp only [hc, hl, if_true, h8]
        rw [e] at hk; exact absurd (show kNone = kName from hk) (by decide)
      · have e : (lex s i).1.kind = if keywords.contains (piece s (skip blank s i) (skip low s (skip blank s i))) then piece s (skip blank s i) (skip low s (skip blank s i)) else kName := by unfold lex; simp only [hc, hl, if_true, h8, if_false]
        have e1 : (lex s i).1.text = piece s (skip blank s i) (skip low s (skip blank s i)) := by unfold lex; simp only [hc, hl, if_true, h8, if_false]
        rw [e] at hk
        by_cases hm : keywords.contains (piece s (skip blank s i) (skip low s (skip blank s i))) = true
        · rw [if_pos hm] at hk
          rw [hk] at hm
          exact absurd (List.contains_iff_mem.1 hm) kw_noName
        · have l3 := skip_first low s _ c hc hl
          have hm' : ¬ (s.drop (skip blank s i)).takeWhile low ∈ keywords := by
            rw [← piece_skip]
            exact fun h => hm (List.contains_iff_mem.2 h)
          rw [e1, piece_skip]
          have e2 : skip low s (skip blank s i) = skip blank s i + ((s.drop (skip blank s i)).takeWhile low).length := rfl
          generalize skip low s (skip blank s i) = x at *
          exact ⟨by omega, by omega, all_takeWhile low _, hm'⟩
    | false =>
      cases hf : fig c with
      | true =>
        by_cases h8 : 3 < skip fig s (skip blank s i) - skip blank s i
        · have e : lex s i = (⟨kNone, [], skip blank s i⟩, skip blank s i) := by unfold lex; simp only [hc, hl, hf, if_true, h8, Bool.false_eq_true, if_false]
          rw [e] at hk; exact absurd (show kNone = kName from hk) (by decide)
        · have e : (lex s i).1.kind = kNumber := by unfold lex; simp only [hc, hl, hf, if_true, h8, if_false, Bool.false_eq_true]
          rw [e] at hk; exact absurd (show kNumber = kName from hk) (by decide)
      | false =>
        cases hp : punct c with
        | true =>
          have e : lex s i = (⟨[c], [c], skip blank s i⟩, skip blank s i + 1) := by unfold lex; simp only [hc, hl, hf, hp, if_true, Bool.false_eq_true, if_false]
          rw [e] at hk
          have := congrArg List.length (show [c] = kName from hk)
          exact absurd this (by simp)
        | false =>
          have e : lex s i = (⟨kNone, [], skip blank s i⟩, skip blank s i) := by unfold lex; simp only [hc, hl, hf, hp, Bool.false_eq_true, if_false]
          rw [e] at hk; exact absurd (show kNone = kName from hk) (by decide)

/-- How much is left: the measure of the reader. -/
def left (s : Bytes) (st : PS) : Nat := s.length + 1 - st.t.pos

/-- The reader's places are in order. -/
structure PS.Ok (s : Bytes) (st : PS) : Prop where
  i : st.i ≤ s.length
  pos : st.t.pos ≤ st.i
  more : st.t.kind ≠ kEnd → st.t.kind ≠ kNone → st.t.pos < st.i
  num : st.t.kind = kNumber → NumText st.t.text
  name : st.t.kind = kName → NameT st.t.text

theorem next_ok {s : Bytes} {st : PS} (h : st.Ok s) : (next s st).Ok s := by
  obtain ⟨a, b, c, d⟩ := lex_facts s st.i h.i
  exact ⟨c, b, d, lex_num s st.i, lex_name s st.i⟩

theorem next_left {s : Bytes} {st : PS} (h : st.Ok s) (h1 : st.t.kind ≠ kEnd) (h2 : st.t.kind ≠ kNone) : left s (next s st) < left s st := by
  obtain ⟨a, b, c, d⟩ := lex_facts s st.i h.i
  have := h.more h1 h2
  have := h.i
  unfold left
  show s.length + 1 - (lex s st.i).1.pos < _
  omega

theorem start_ok (s : Bytes) : (start s).Ok s := by
  obtain ⟨a, b, c, d⟩ := lex_facts s 0 (Nat.zero_le _)
  exact ⟨c, b, d, lex_num s 0, lex_name s 0⟩

/-- At 'none' the reading stands still. -/
theorem left_pos {s : Bytes} {st : PS} (h : st.Ok s) : 0 < left s st := by
  have := h.pos
  have := h.i
  unfold left
  omega
end Go.Proofs.YtemppijblfflgaaDoor.Ev
namespace Go.Proofs.YtemppijblfflgaaDoor.Ev
open Go Go.RowKit

theorem Env.kept {B : Nat} {ea : Nat → Addr} {w w' : World} {S : Nat → Prop} (h : Env B ea w) (hk : Kept S w w') (hS : ∀ b, S b → B ≤ b) : Env B ea w' :=
  ⟨Nat.le_trans h.size hk.size, fun k h1 h2 => (hk.cell (p := ⟨errGlobal k, 0, none⟩) (fun hs => by have := hS _ hs; have := h.lt k h1 h2; simp at *; omega)).trans (h.err k h1 h2), h.lt,
    kw_kept h.kw hk (fun hs => by have := hS _ hs; have := h.kwlt; omega), h.kwlt⟩

/-- The reader, whole. -/
structure RdR (B : Nat) (ea : Nat → Addr) (w : World) (g gp bm : Nat) (vd wp : Value) (s : Bytes) (st : PS) : Prop where
  env : Env B ea w
  row : Row w g 64 (rdCells s st gp wp)
  pol : Row w gp 47 [vd, .int .i64 st.freq, .map (some bm)]
  decls : Sl (fun b => B ≤ b ∧ b ≠ g) w 110 3 vd st.decls.length (st.decls.flatMap encDecl)
  rules : RulesR (fun b => B ≤ b ∧ b ≠ g) w bm st.rules
  wrong : WrongR B ea w wp st.wrong
  g0 : B ≤ g
  gp0 : B ≤ gp
  bm0 : B ≤ bm
  i : st.i ≤ s.length
  s : s.length ≤ 700
  dl : st.decls.length ≤ 1000

/-- Only the reader's own block and new ones have turned. -/
abbrev Kg (g : Nat) (w w' : World) : Prop := Kept (fun b => b = g ∨ w.heap.size ≤ b) w w'

theorem Kg.trans {g : Nat} {a b c : World} (h : Kg g a b) (k : Kg g b c) : Kg g a c :=
  Kept.trans h (k.mono fun x hx => hx.elim .inl (fun h1 => .inr (Nat.le_trans h.size h1)))

section
variable {B : Nat} {ea : Nat → Addr} {w w' : World} {g gp bm : Nat} {vd wp : Value} {s : Bytes} {st : PS}

theorem RulesR.kept {N : Nat → Prop} {rules : List (Int × Blk)} (h : RulesR N w bm rules) (hm : w'.heap[bm]? = w.heap[bm]?) (hk : ∀ k cs, N k → Row w k 136 cs → w'.heap[k]? = w.heap[k]?) : RulesR N w' bm rules := by
  obtain ⟨M, h1, h2, h3⟩ := h
  exact ⟨M, h1.of_block hm, h2, fun i x y hx hy => (h3 i x y hx hy).kept hk⟩

theorem RdR.gp_ne (h : RdR B ea w g gp bm vd wp s st) : gp ≠ g := h.pol.ne_ h.row (by decide)
theorem kg_at (hk : Kg g w w') {b : Nat} (hb : b < w.heap.size) (hn : b ≠ g) : w'.heap[b]? = w.heap[b]? := hk.block b (by rintro (h | h); exact hn h; omega)

/-- What lies below B, policies, declarations, statements, faults and maps stand as they stood. -/
structure Quiet (B : Nat) (w w' : World) : Prop where
  os : w'.os = w.os
  tape : w'.tape = w.tape
  output : w'.output = w.output
  size : w.heap.size ≤ w'.heap.size
  low : ∀ b, b < B → w'.heap[b]? = w.heap[b]?
  row : ∀ (b : Nat) t cs, Row w b t cs → (t = 47 ∨ t = 110 ∨ t = 136 ∨ t = 43) → w'.heap[b]? = w.heap[b]?
  maps : ∀ (b : Nat) es c, w.heap[b]? = some (Obj.map es c) → w'.heap[b]? = w.heap[b]?

theorem Quiet.kg (hB : B ≤ w.heap.size) (hg : B ≤ g) {cs : List Value} (hr : Row w g 64 cs) (hk : Kg g w w') : Quiet B w w' :=
  ⟨hk.os, hk.tape, hk.output, hk.size, fun b hb => kg_at hk (by omega) (by omega),
    fun b t cs' h1 ht => kg_at hk h1.lt (h1.ne_ hr (by rcases ht with rfl | rfl | rfl | rfl <;> decide)),
    fun b es c hm => kg_at hk (by
      rcases Nat.lt_or_ge b w.heap.size with hlt | hge
      · exact hlt
      · rw [Array.getElem?_eq_none hge] at hm; cases hm) (by
      rintro rfl
      unfold Row at hr
      rw [hr] at hm
      cases hm)⟩
/-- A store into a row of another type. -/
theorem Quiet.set_ {n : Nat} {t : TypeId} {cs : List Value} (hn : B ≤ n) (hr : Row w n t cs) (ht : t ≠ 47 ∧ t ≠ 110 ∧ t ≠ 136 ∧ t ≠ 43) (i : Nat) (u : Value) : Quiet B w (w.setCell ⟨n, i, none⟩ u) := by
  have hk : Kept (fun b => b = n) w _ := Kept.one w ⟨n, i, none⟩ u
  refine ⟨rfl, rfl, rfl, hk.size, fun b hb => hk.block b (by omega), fun b t' cs' h1 ht' => hk.block b (h1.ne_ hr ?_), fun b es c hm => hk.block b ?_⟩
  · rintro rfl
    rcases ht' with h | h | h | h
    · exact ht.1 h
    · exact ht.2.1 h
    · exact ht.2.2.1 h
    · exact ht.2.2.2 h
  · rintro rfl
    unfold Row at hr
    rw [hr] at hm
    cases hm
theorem Quiet.alloc (o : Obj) (hB : B ≤ w.heap.size) : Quiet B w (w.alloc o) :=
  ⟨rfl, rfl, rfl, by simp, fun b hb => Below.heap_alloc w o b (by omega), fun b t cs h1 _ => Below.heap_alloc w o b h1.lt, fun b es c hm => Below.heap_alloc w o b (by
      rcases Nat.lt_or_ge b w.heap.size with hlt | hge
      · exact hlt
      · rw [Array.getElem?_eq_none hge] at hm; cases hm)⟩
theorem WrongR.quiet {x : Option (Nat × Nat)} (h : WrongR B ea w wp x) (hk : Quiet B w w') : WrongR B ea w' wp x := by
  cases x with
  | none => exact h
  | some y =>
    obtain ⟨gf, h1, h2, h3⟩ := h
    exact ⟨gf, h1, h2, (hk.row gf _ _ h3 (.inr (.inr (.inr rfl)))).trans h3⟩

theorem Sl.of_quiet {S : Nat → Prop} {n : Nat} {v : Value} {xs : List Value} (h : Sl S w 110 3 v n xs) (hk : Quiet B w w') : Sl S w' 110 3 v n xs := by
  obtain ⟨⟨h0, h1⟩, h2⟩ := h
  refine ⟨⟨h0, ?_⟩, h2⟩
  rcases h1 with h1 | ⟨g, cap, cur, rfl, hb, hg, h4⟩
  · exact .inl h1
  · exact .inr ⟨g, cap, cur, rfl, hb, (hk.row g _ cur.toList (by unfold Row; simpa using hg) (.inr (.inl rfl))).trans hg, h4⟩

/-- The reader behind a quiet call. -/
theorem RdR.turn (h : RdR B ea w g gp bm vd wp s st) (hk : Quiet B w w') {st' : PS} {wp' : Value} (hr : Row w' g 64 (rdCells s st' gp wp')) (hd : st'.decls = st.decls) (hf : st'.freq = st.freq) (hru : st'.rules = st.rules)
    (hw : WrongR B ea w' wp' st'.wrong) (hi : st'.i ≤ s.length) : RdR B ea w' g gp bm vd wp' s st' := by
  refine ⟨h.env.kept (S := fun b => B ≤ b) ⟨hk.os, hk.tape, hk.output, hk.size, fun b hb => hk.low b (by omega)⟩ (fun b hb => hb), hr, ?_, ?_, ?_, hw, h.g0, h.gp0, h.bm0, hi, h.s, by rw [hd]; exact h.dl⟩
  · rw [hf]; exact (hk.row gp _ _ h.pol (.inl rfl)).trans h.pol
  · rw [hd]
    exact h.decls.of_quiet hk
  · rw [hru]
    obtain ⟨M, ⟨es, cl, h1, h2⟩, h3, h4⟩ := h.rules
    exact ⟨M, ⟨es, cl, (hk.maps bm es cl h1).trans h1, h2⟩, h3, fun i x y hx hy => (h4 i x y hx hy).kept (fun k cs _ hr => hk.row k _ cs hr (.inr (.inr (.inl rfl))))⟩
theorem RdR.kg (h : RdR B ea w g gp bm vd wp s st) (hk : Kg g w w') : Quiet B w w' := Quiet.kg h.env.size h.g0 h.row hk
theorem RdR.alloc (h : RdR B ea w g gp bm vd wp s st) (o : Obj) : RdR B ea (w.alloc o) g gp bm vd wp s st :=
  h.turn (Quiet.alloc o h.env.size) (h.row.alloc o) rfl rfl rfl (h.wrong.quiet (Quiet.alloc o h.env.size)) h.i
theorem RdR.set_ (h : RdR B ea w g gp bm vd wp s st) {n : Nat} {t : TypeId} {cs : List Value} (hn : B ≤ n) (hr : Row w n t cs) (ht : t ≠ 47 ∧ t ≠ 110 ∧ t ≠ 136 ∧ t ≠ 43) (hng : t ≠ 64) (i : Nat) (u : Value) :
    RdR B ea (w.setCell ⟨n, i, none⟩ u) g gp bm vd wp s st :=
  h.turn (Quiet.set_ hn hr ht i u) (h.row.far (h.row.ne_ hr (fun e => hng e.symm)) u) rfl rfl rfl (h.wrong.quiet (Quiet.set_ hn hr ht i u)) h.i
end

/-- The call has failed: it panics with error k at a place. -/
def Fails (B : Nat) (ea : Nat → Addr) (w : World) (e : Ending) (w' : World) (k pos : Nat) : Prop :=
  ∃ gf, e = .panicked [{ v := .iface 38 (.pointer (some ⟨gf, 0, none⟩)), recovered := false }] ∧ Kept (fun b => B ≤ b) w w' ∧ Row w' gf 43 [errV ea k, .int .i64 pos] ∧ B ≤ gf

section
variable {B : Nat} {ea : Nat → Addr} {w : World} {g gp bm : Nat} {vd wp : Value} {s : Bytes} {st : PS}

set_option maxRecDepth 100000 in
set_option maxHeartbeats 400000 in
theorem fail_any (h : RdR B ea w g gp bm vd wp s st) (k : Nat) : Calls Tryd.prog 33 #[.pointer (some ⟨g, 0, none⟩), errV ea k] w fun e w' => Fails B ea w e w' k st.t.pos := by
  obtain ⟨_, _, _, _, c4, _⟩ := rd_cell h.row
  have hsz := h.env.size
  have hfin : Fails B ea w (.panicked [{ v := .iface 38 (.pointer (some ⟨w.heap.size, 0, none⟩)), recovered := false }]) (w.alloc (.cells #[errV ea k, .int .i64 st.t.pos] 43)) k st.t.pos :=
    ⟨_, rfl, (Kept.refl _ _).alloc hsz _, Row.new w _ _, hsz⟩
  have Hf := Lib.hid hfin
  unfold errV at *
  clear hfin h hsz
  go_enter Tryd.func33, Tryd.ntmps33
  go_wp2
  exact ⟨rfl, Hf.out⟩

theorem wrong_next (h : RdR B ea w g gp bm vd wp s st) {w' : World} (hk : Kept (fun b => b = g) w w') (hr : Row w' g 64 (rdCells s (next s st) gp wp)) : RdR B ea w' g gp bm vd wp s (next s st) := by
  have hkg : Kg g w w' := hk.mono fun b hb => .inl hb
  exact h.turn (h.kg hkg) hr rfl rfl rfl (h.wrong.quiet (h.kg hkg)) (by
    exact (lex_facts s st.i h.i).2.2.1)

/-- 'next', of the whole reader. -/
theorem next_all (h : RdR B ea w g gp bm vd wp s st) :
    Calls Tryd.prog 13 #[.pointer (some ⟨g, 0, none⟩)] w fun e w' => e = .returned (.tuple #[]) ∧ Kg g w w' ∧ RdR B ea w' g gp bm vd wp s (next s st) := by
  refine (next_any g gp wp s st w h.env.kw (fun e => by have := h.env.kwlt; have := h.g0; omega) (by have := h.s; omega) h.i h.row).mono ?_
  rintro e w' ⟨he, hk, hr⟩
  exact ⟨he, hk.mono fun b hb => .inl hb, wrong_next h hk hr⟩

def encTok (t : Tok) : Value := .agg #[vs t.kind, vs t.text, .int .i64 t.pos]

/-- What a call of the reader's comes to, by the plain reader's word. -/
def OutR {α : Type} (B : Nat) (ea : Nat → Addr) (w : World) (g gp bm : Nat) (s : Bytes) (x : Out α) (val : World → α → Value → Prop) (e : Ending) (w' : World) : Prop :=
  match x with
  | .ok a st' => ∃ v, e = .returned v ∧ val w' a v ∧ Kg g w w' ∧ ∃ vd wp, RdR B ea w' g gp bm vd wp s st'
  | .bad k pos => Fails B ea w e w' k pos

set_option maxRecDepth 100000 in
set_option maxHeartbeats 400000 in
theorem take_any (h : RdR B ea w g gp bm vd wp s st) (k : Bytes) :
    Calls Tryd.prog 30 #[.pointer (some ⟨g, 0, none⟩), vs k] w fun e w' => e = .returned (.bool (take s k st).1) ∧ Kg g w w' ∧ RdR B ea w' g gp bm vd wp s (take s k st).2 := by
  obtain ⟨_, _, c2, _⟩ := rd_cell h.row
  have HR := Lib.hid h
  unfold vs at *
  by_cases hk : st.t.kind = k
  · have e1 : (st.t.kind == k) = true := by simpa using hk
    have e2 : take s k st = (true, next s st) := by unfold take; rw [if_pos hk]
    rw [e2]
    clear hk e2 h
    go_enter Tryd.func30, Tryd.ntmps30
    go_wp2_with (go_at_call 13; refine (next_all HR.out).mono ?_; rintro e w' ⟨rfl, hk1, h1⟩; have HK1 := Lib.hid hk1; have H1 := Lib.hid h1; clear hk1 h1)
    go_ret
    exact ⟨rfl, HK1.out, H1.out⟩
  · have e1 : (st.t.kind == k) = false := by simpa using hk
    have e2 : take s k st = (false, st) := by unfold take; rw [if_neg hk]
    rw [e2]
    clear hk e2 h
    go_enter Tryd.func30, Tryd.ntmps30
    go_wp2
    go_ret
    exact ⟨rfl, Kept.refl _ _, HR.out⟩

set_option maxRecDepth 100000 in
set_option maxHeartbeats 400000 in
theorem want_any (h : RdR B ea w g gp bm vd wp s st) (k : Bytes) :
    Calls Tryd.prog 16 #[.pointer (some ⟨g, 0, none⟩), vs k] w fun e w' => OutR B ea w g gp bm s (want s k st) (fun _ t v => v = encTok t) e w' := by
  obtain ⟨_, _, c2, c3, c4, _⟩ := rd_cell h.row
  have hlt := h.row.lt
  have herr : w.cell? ⟨7, 0, none⟩ = some (.iface 171 (.pointer (some (ea 2)))) := h.env.err 2 (by omega) (by omega)
  have hel : 7 < w.heap.size := Nat.lt_of_lt_of_le (h.env.lt 2 (by omega) (by omega)) h.env.size
  have HR := Lib.hid h
  unfold vs at *
  by_cases hk : st.t.kind = k
  · have e1 : (st.t.kind == k) = true := by simpa using hk
    have e2 : want s k st = .ok st.t (next s st) := by unfold want; rw [if_pos hk]
    rw [e2]
    clear hk e2 h herr hel
    have HA := Lib.hid ((HR.out.alloc (.cells #[.string ⟨#[]⟩, .string ⟨#[]⟩, .int .i64 0] 62)).alloc (.cells #[.string ⟨st.t.kind.toArray⟩, .string ⟨st.t.text.toArray⟩, .int .i64 st.t.pos] 62))
    have hB := HR.out.env.size
    have hgl := HR.out.row.lt
    go_enter Tryd.func16, Tryd.ntmps16
    go_wp2_with fail
    refine (next_all HA.out).mono ?_
    rintro e w1 ⟨rfl, hk1, h1⟩
    have hr0 : Row ((w.alloc (.cells #[.string ⟨#[]⟩, .string ⟨#[]⟩, .int .i64 0] 62)).alloc (.cells #[.string ⟨st.t.kind.toArray⟩, .string ⟨st.t.text.toArray⟩, .int .i64 st.t.pos] 62)) w.heap.size 62 [vs [], vs [], .int .i64 0] := (Row.new w _ _).alloc _
    have hr1 : Row ((w.alloc (.cells #[.string ⟨#[]⟩, .string ⟨#[]⟩, .int .i64 0] 62)).alloc (.cells #[.string ⟨st.t.kind.toArray⟩, .string ⟨st.t.text.toArray⟩, .int .i64 st.t.pos] 62)) (w.heap.size + 1) 62 [vs st.t.kind, vs st.t.text, .int .i64 st.t.pos] := by
      have := Row.new (w.alloc (.cells #[.string ⟨#[]⟩, .string ⟨#[]⟩, .int .i64 0] 62)) 62 [vs st.t.kind, vs st.t.text, .int .i64 st.t.pos]
      simpa using this
    have x0 : Row w1 w.heap.size 62 _ := (kg_at hk1 hr0.lt (by omega)).trans hr0
    have x1 : Row w1 (w.heap.size + 1) 62 _ := (kg_at hk1 hr1.lt (by omega)).trans hr1
    have d0 := x0.cell 0
    have d1 := x0.cell 1
    have d2 := x0.cell 2
    have e0 := x1.cell 0
    have e1' := x1.cell 1
    have e2' := x1.cell 2
    have fz := fun j => x0.frozen j
    have X0 := Lib.hid x0
    have H1 := Lib.hid h1
    have HK1 := Lib.hid hk1
    clear x0 x1 hr0 hr1 h1 hk1
    simp at d0 d1 d2 e0 e1' e2'
    go_wp2
    have q1 := X0.out
    have h1 := H1.out
    have b0 : B ≤ w.heap.size := hB
    have g1 := h1.set_ b0 q1 (by decide) (by decide) 0 (.string ⟨st.t.kind.toArray⟩)
    have q2 := q1.set_ 0 (.string ⟨st.t.kind.toArray⟩)
    have g2 := g1.set_ b0 q2 (by decide) (by decide) 1 (.string ⟨st.t.text.toArray⟩)
    have q3 := q2.set_ 1 (.string ⟨st.t.text.toArray⟩)
    have g3 := g2.set_ b0 q3 (by decide) (by decide) 2 (.int .i64 st.t.pos)
    have q4 := q3.set_ 2 (.int .i64 st.t.pos)
    have hk4 : Kg g w _ := ((((Kept.refl (fun b => b = g ∨ w.heap.size ≤ b) w).alloc (.inr (Nat.le_refl _)) _).alloc (.inr (by simp)) _).trans (HK1.out.mono (fun b hb => hb.elim .inl (fun h => .inr (Nat.le_trans (by simp; omega) h))))).setCell (p := ⟨w.heap.size, 0, none⟩) (.inr (Nat.le_refl _)) (.string ⟨st.t.kind.toArray⟩) |>.setCell (p := ⟨w.heap.size, 1, none⟩) (.inr (Nat.le_refl _)) (.string ⟨st.t.text.toArray⟩) |>.setCell (p := ⟨w.heap.size, 2, none⟩) (.inr (Nat.le_refl _)) (.int .i64 st.t.pos)
    have G3 := Lib.hid g3
    have HK4 := Lib.hid hk4
    have z0 := q4.cell 0
    have z1 := q4.cell 1
    have z2 := q4.cell 2
    have zf := fun j => q4.frozen j
    simp at z0 z1 z2
    clear g3 hk4 g1 g2 h1 q1 q2 q3 q4 d0 d1 d2 e0 e1' e2' fz
    generalize hw2 : ((w1.setCell ⟨w.heap.size, 0, none⟩ _).setCell ⟨w.heap.size, 1, none⟩ _).setCell ⟨w.heap.size, 2, none⟩ _ = w2 at *
    refine bodyPost_ret (v := encTok st.t) (by simp [results, Tryd.results16, go_sem, z0, z1, z2, zf, encTok, vs]) rfl ?_
    exact ⟨_, rfl, rfl, HK4.out, _, _, G3.out⟩
  · have e1 : (st.t.kind == k) = false := by simpa using hk
    have e2 : want s k st = .bad eSyntax st.t.pos := by unfold want fail; rw [if_neg hk]
    rw [e2]
    clear hk e2 h
    have HA := Lib.hid (HR.out.alloc (.cells #[.string ⟨#[]⟩, .string ⟨#[]⟩, .int .i64 0] 62))
    have hB := HR.out.env.size
    go_enter Tryd.func16, Tryd.ntmps16
    go_wp2_with fail
    refine (fail_any HA.out 2).mono ?_
    rintro e w1 ⟨gf, rfl, hk, hr, hgf⟩
    have hk2 : Kept (fun b => B ≤ b) w w1 := ((Kept.refl _ w).alloc hB _).trans hk
    go_wp2
    exact ⟨rfl, gf, rfl, hk2, hr, hgf⟩

set_option maxRecDepth 100000 in
set_option maxHeartbeats 400000 in
theorem note_any (h : RdR B ea w g gp bm vd wp s st) (k pos : Nat) :
    Calls Tryd.prog 27 #[.pointer (some ⟨g, 0, none⟩), errV ea k, .int .i64 pos] w fun e w' => e = .returned (.tuple #[]) ∧ Kg g w w' ∧ ∃ wp', RdR B ea w' g gp bm vd wp' s (note k pos st) := by
  obtain ⟨_, _, _, _, _, _, _, _, _, c9⟩ := rd_cell h.row
  have hlt := h.row.lt
  have f := fun j => h.row.frozen j
  have HR := Lib.hid h
  have hw := h.wrong
  cases hwr : st.wrong with
  | none =>
    rw [hwr] at hw
    have hwp : wp = .pointer none := hw
    subst hwp
    have e2 : note k pos st = { st with wrong := some (k, pos) } := by unfold note; rw [hwr]
    rw [e2]
    clear hw hwr e2 h
    unfold errV
    go_enter Tryd.func27, Tryd.ntmps27
    go_wp2
    go_end0
    have r0 := HR.out
    have k1 : Kg g w (w.setCell ⟨g, 9, none⟩ (.pointer (some ⟨w.heap.size, 0, none⟩))) := Kept.setCell (p := ⟨g, 9, none⟩) (Kept.refl _ _) (.inl rfl) _
    have k2 := k1.alloc (.inr (by simp)) (.cells #[errV ea k, .int .i64 pos] 43)
    have n1 := (Row.new (w.setCell ⟨g, 9, none⟩ (.pointer (some ⟨w.heap.size, 0, none⟩))) 43 [errV ea k, .int .i64 pos])
    refine ⟨rfl, k2, .pointer (some ⟨w.heap.size, 0, none⟩), r0.turn (st' := { st with wrong := some (k, pos) }) (r0.kg k2) ?_ rfl rfl rfl ?_ r0.i⟩
    · have := (r0.row.set_ 9 (.pointer (some ⟨w.heap.size, 0, none⟩))).alloc (.cells #[errV ea k, .int .i64 pos] 43)
      exact this
    · exact ⟨_, rfl, r0.env.size, by simpa using n1⟩
  | some y =>
    rw [hwr] at hw
    obtain ⟨gf, rfl, _, _⟩ := hw
    have e2 : note k pos st = st := by unfold note; rw [hwr]
    rw [e2]
    clear hwr e2 h
    unfold errV
    go_enter Tryd.func27, Tryd.ntmps27
    go_wp2
    go_end0
    exact ⟨rfl, Kept.refl _ _, _, HR.out⟩
end
end Go.Proofs.YtemppijblfflgaaDoor.Ev
namespace Go.Proofs.YtemppijblfflgaaDoor.Ev
open Go Go.RowKit Go.Extern.Stop Go.Stop Go.Extern

theorem isTypeOf (v : Value) (w : World) : (Extern.ReflectliteType.typeOf #[.iface 171 v]).run Tryd.prog w = .ok (.iface 117 (.agg #[.pointer (some ⟨20, 171, none⟩)])) w := by kernel_rfl
theorem isComparable (w : World) : ((Extern.ReflectliteType.method fun t => do Extern.Rtype.noPackHeld "Comparable" t; Functor.map (fun a => Value.bool a.comparable) (typeInfo t)) #[.agg #[.pointer (some ⟨20, 171, none⟩)]]).run Tryd.prog w = .ok (.bool true) w := by kernel_rfl
theorem isMethodComparable (v : Value) (w : World) : (Go.method 322 117 v "Comparable").run Tryd.prog w = .ok (105, v) w := by kernel_rfl
theorem isComp : (Tryd.prog.info? 171).map (·.comparable) = some true := by kernel_rfl
theorem isSize : (Tryd.prog.info? 173).map (·.size) = some 1 := by kernel_rfl
theorem noIsE (v : Value) (xT : TypeId) (w : World) : (Instr.typeAssert (.iface 171 v) xT 144 true).run Tryd.prog w = .ok (.tuple #[.nilIface, .bool false]) w := run_typeAssert_lacksB Tryd.underlying144 (by kernel_rfl) (by kernel_rfl) v xT w
theorem noUnwrapE (v : Value) (xT : TypeId) (w : World) : (Instr.typeAssert (.iface 171 v) xT 125 true).run Tryd.prog w = .ok (.tuple #[.nilIface, .bool false]) w := run_typeAssert_lacksB Tryd.underlying125 (by kernel_rfl) (by kernel_rfl) v xT w
theorem noUnwrapsE (v : Value) (xT : TypeId) (w : World) : (Instr.typeAssert (.iface 171 v) xT 127 true).run Tryd.prog w = .ok (.tuple #[.nilIface, .bool false]) w := run_typeAssert_lacksB Tryd.underlying127 (by kernel_rfl) (by kernel_rfl) v xT w
theorem noIsF (v : Value) (xT : TypeId) (w : World) : (Instr.typeAssert (.iface 38 v) xT 144 true).run Tryd.prog w = .ok (.tuple #[.nilIface, .bool false]) w := run_typeAssert_lacksB Tryd.underlying144 (by kernel_rfl) (by kernel_rfl) v xT w
theorem hasUnwrapF (v : Value) (xT : TypeId) (w : World) : (Instr.typeAssert (.iface 38 v) xT 125 true).run Tryd.prog w = .ok (.tuple #[.iface 38 v, .bool true]) w := run_typeAssert_hasB Tryd.underlying125 (by kernel_rfl) v xT w

set_option maxRecDepth 100000 in
theorem unwrap_any (gf : Nat) (a b : Value) (w : World) (h : Row w gf 43 [a, b]) : Calls Tryd.prog 97 #[.pointer (some ⟨gf, 0, none⟩)] w fun e w' => e = .returned a ∧ w' = w := by
  have c0 := h.cell 0
  simp at c0
  clear h
  go_enter Tryd.func97, Tryd.ntmps97
  go_wp2
  go_ret
  exact ⟨rfl, rfl⟩

theorem methodUnwrap (v : Value) (w : World) : (Go.method 322 38 v "Unwrap").run Tryd.prog w = .ok (97, v) w := by kernel_rfl

set_option maxRecDepth 100000 in
theorem is_fault_same (gf : Nat) (x : Value) (b : Addr) (w : World) (h : Row w gf 43 [.iface 171 (.pointer (some b)), x]) :
    Calls Tryd.prog 22 #[.iface 38 (.pointer (some ⟨gf, 0, none⟩)), .iface 171 (.pointer (some b))] w fun e w' => e = .returned (.bool true) ∧ w' = w := by
  obtain ⟨i, hi, hcmp⟩ := Option.map_eq_some_iff.1 isComp
  obtain ⟨j, hj, hjs⟩ := Option.map_eq_some_iff.1 isSize
  have tT := isTypeOf
  have cT := isComparable
  have mR := isMethodComparable
  have nE := noIsE
  have uE := noUnwrapE
  have vE := noUnwrapsE
  have nW := noIsF
  have uW := hasUnwrapF
  have mU := methodUnwrap
  have heq := run_eql_iface_ptr_same (P := Tryd.prog) w b Tryd.underlying35 Tryd.underlying171 hi hcmp hj
  have hty := run_eql_iface_types (P := Tryd.prog) 38 171 (.pointer (some ⟨gf, 0, none⟩)) (.pointer (some b)) Tryd.underlying35 (by decide) w
  have h8 := @run_callFunc_extern Tryd.prog 34 _ Extern.ReflectliteType.typeOf Tryd.func34 (by kernel_rfl) (by kernel_rfl) (by kernel_rfl) (by kernel_rfl)
  have h32 := @run_callFunc_extern Tryd.prog 105 _ (Extern.ReflectliteType.method fun t => do Extern.Rtype.noPackHeld "Comparable" t; pure (.bool (← typeInfo t).comparable)) Tryd.func105 (by kernel_rfl) (by kernel_rfl) (by kernel_rfl) (by kernel_rfl)
  have HR := Lib.hid h
  clear h
  go_enter Tryd.func22, Tryd.ntmps22
  go_wp2
  refine wp_loop_rounds 2 ?_
  rw [rounds_succ]
  go_wp2_with (go_at_call 97; refine (unwrap_any gf _ x w HR.out).mono ?_; rintro e w' ⟨rfl, rfl⟩)
  rw [rounds_succ]
  go_wp2
  go_ret
  exact ⟨rfl, rfl⟩

set_option maxRecDepth 100000 in
theorem is_fault_other (gf : Nat) (x : Value) (a b : Addr) (ca cb : Array Value) (ta tb : TypeId) (w : World) (h : Row w gf 43 [.iface 171 (.pointer (some a)), x]) (hne : a ≠ b) (ha : w.heap[a.block]? = some (.cells ca ta (0, 0))) (hb : w.heap[b.block]? = some (.cells cb tb (0, 0))) :
    Calls Tryd.prog 22 #[.iface 38 (.pointer (some ⟨gf, 0, none⟩)), .iface 171 (.pointer (some b))] w fun e w' => e = .returned (.bool false) ∧ w' = w := by
  obtain ⟨i, hi, hcmp⟩ := Option.map_eq_some_iff.1 isComp
  obtain ⟨j, hj, hjs⟩ := Option.map_eq_some_iff.1 isSize
  have tT := isTypeOf
  have cT := isComparable
  have mR := isMethodComparable
  have nE := noIsE
  have uE := noUnwrapE
  have vE := noUnwrapsE
  have nW := noIsF
  have uW := hasUnwrapF
  have mU := methodUnwrap
  have heq := run_eql_iface_ptr_other (P := Tryd.prog) w Tryd.underlying35 Tryd.underlying171 hi hcmp hj (by rw [hjs]; decide) hne ha hb
  have hty := run_eql_iface_types (P := Tryd.prog) 38 171 (.pointer (some ⟨gf, 0, none⟩)) (.pointer (some b)) Tryd.underlying35 (by decide) w
  have h8 := @run_callFunc_extern Tryd.prog 34 _ Extern.ReflectliteType.typeOf Tryd.func34 (by kernel_rfl) (by kernel_rfl) (by kernel_rfl) (by kernel_rfl)
  have h32 := @run_callFunc_extern Tryd.prog 105 _ (Extern.ReflectliteType.method fun t => do Extern.Rtype.noPackHeld "Comparable" t; pure (.bool (← typeInfo t).comparable)) Tryd.func105 (by kernel_rfl) (by kernel_rfl) (by kernel_rfl) (by kernel_rfl)
  have HR := Lib.hid h
  clear h
  go_enter Tryd.func22, Tryd.ntmps22
  go_wp2
  refine wp_loop_rounds 2 ?_
  rw [rounds_succ]
  go_wp2_with (go_at_call 97; refine (unwrap_any gf _ x w HR.out).mono ?_; rintro e w' ⟨rfl, rfl⟩)
  rw [rounds_succ]
  go_wp2
  go_ret
  exact ⟨rfl, rfl⟩
end Go.Proofs.YtemppijblfflgaaDoor.Ev
