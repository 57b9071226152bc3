/- A policy's tokens, read. No program in sight. The one text of a policy is read as that policy, put in order; which does and says the same. No program in sight. The names that a policy's text declares, found by its words. No program in sight. What holds of an engine at all times; what its calls make of who stands where. No program in sight. An arena whose table of places stands in another order. No program in sight. Conditions: none. -/
import Derived.Test.YtemppijblfflgaaGreatDoorZc03
import Derived.Test.YtemppijblfflgaaGreatDoorZc05
set_option linter.all false
set_option linter.unusedSimpArgs false
set_option linter.unusedVariables false
namespace Go.Proofs.YtemppijblfflgaaGreatDoor.Ev

structure Same (st st' : PS) : Prop where
  decls : st'.decls = st.decls
  freq : st'.freq = st.freq
  fseen : st'.fseen = st.fseen
  rules : st'.rules = st.rules
  depth : st'.depth = st.depth
  loops : st'.loops = st.loops
  wrong : st'.wrong = st.wrong
theorem Same.refl (st : PS) : Same st st := ⟨rfl, rfl, rfl, rfl, rfl, rfl, rfl⟩
theorem Same.trans {a b c : PS} (h : Same a b) (k : Same b c) : Same a c :=
  ⟨k.decls.trans h.decls, k.freq.trans h.freq, k.fseen.trans h.fseen, k.rules.trans h.rules, k.depth.trans h.depth, k.loops.trans h.loops, k.wrong.trans h.wrong⟩
theorem Same.next (s : Bytes) (st : PS) : Same st (next s st) := ⟨rfl, rfl, rfl, rfl, rfl, rfl, rfl⟩

def normC (c : Cond) : Cond := ⟨c.k, c.nots % 2⟩
def normB : Blk → Blk
  | .nil => .nil
  | .prim p r => .prim p (normB r)
  | .ite c t o e r => .ite (normC c) (normB t) o (normB e) (normB r)
  | .rep n c b r => .rep n (normC c) (normB b) (normB r)

/-- How much fuel the reader of a block's statements asks. -/
def need : Blk → Nat
  | .nil => 1
  | .prim _ r => 2 + need r
  | .ite _ t _ e r => 3 + need t + need e + need r
  | .rep _ _ b r => 3 + need b + need r

theorem need_pos : ∀ (b : Blk), 1 ≤ need b
  | .nil => Nat.le_refl _
  | .prim _ _ => by simp only [need]; omega
  | .ite _ _ _ _ _ => by simp only [need]; omega
  | .rep _ _ _ _ => by simp only [need]; omega

section
variable {s : Bytes} {st : PS} {t2 : T2} {ts : List T2} {d : Bytes}

theorem want_parse {k x : Bytes} (h : Sees s st ((k, x) :: t2 :: ts) d) : want s k st = .ok st.t (next s st) := by
  unfold want; rw [if_pos h.1]

theorem number_parse {n least most : Int} (h : Sees s st (tI n :: t2 :: ts) d) (h0 : 0 ≤ n) (h9 : n ≤ 999) (h1 : least ≤ n) (h2 : n ≤ most) : number s least most st = .ok n (next s st) := by
  unfold number
  rw [want_parse h]
  have e : atoi st.t.text = n := by rw [h.2.1]; exact (digits_ok h0 h9).2.2.2
  unfold Out.bind
  simp only [e]
  rw [if_neg (by omega)]

theorem find_at {l : List Decl} (hn : (l.map (·.name)).Nodup) {k : Nat} {x : Decl} (hk : l[k]? = some x) : find l x.name = (k : Int) := by
  have : ∀ (l : List Decl) (j k : Nat), (l.map (·.name)).Nodup → l[k]? = some x → findFrom x.name l j = ((j + k : Nat) : Int) := by
    intro l
    induction l with
    | nil => intro j k _ h; simp at h
    | cons y l ih =>
      intro j k hn hk
      have hn' := List.nodup_cons.1 hn
      cases k with
      | zero => simp at hk; subst hk; rw [findFrom, if_pos rfl]; rfl
      | succ k =>
        have hk' : l[k]? = some x := by simpa using hk
        have hne : y.name ≠ x.name := by
          intro e
          refine hn'.1 ?_
          show y.name ∈ _
          rw [e]
          exact List.mem_map.2 ⟨x, List.mem_of_getElem? hk', rfl⟩
        rw [findFrom, if_neg hne, ih (j + 1) k hn'.2 hk']
        congr 1; omega
  have := this l 0 k hn hk
  unfold find
  rw [this]
  simp

theorem name_parse {l : List Decl} (hl : DeclsW l) (hd : st.decls = l) {v : Bool} {k : Int} (hk : NameW l v k) (h : Sees s st (tN (nameOf l k) :: t2 :: ts) d) : name s v st = .ok k (next s st) := by
  unfold name
  rw [want_parse h]
  obtain ⟨⟨a, b⟩, c⟩ := hk
  have hlt : k.toNat < l.length := by omega
  have hx := List.getElem?_eq_getElem hlt
  have e : declAt l k = l[k.toNat] := by unfold declAt; rw [hx]; rfl
  have hf : find l st.t.text = k := by
    have e1 : st.t.text = nameOf l k := h.2.1
    rw [e1]
    unfold nameOf
    rw [e, find_at hl.nodup hx]
    omega
  unfold Out.bind nameNote
  have hd' : (next s st).decls = l := hd
  simp only [hd', hf]
  rw [if_neg (by omega), c]
  simp

theorem value_parse {l : List Decl} (hl : DeclsW l) (hd : st.decls = l) {v : Val} (hv : ValW l v) (h : Sees s st (tVal l v ++ t2 :: ts) d) : ∃ st', value s st = .ok v st' ∧ Sees s st' (t2 :: ts) d ∧ Same st st' := by
  unfold value
  cases v with
  | num n =>
    have h' : Sees s st (tI n :: t2 :: ts) d := h
    rw [if_pos (show st.t.kind = kNumber from h'.1), number_parse h' hv.1 (by have := hv.2; omega) hv.1 hv.2]
    exact ⟨_, rfl, h'.next, Same.next _ _⟩
  | var k =>
    have h' : Sees s st (tN (nameOf l k) :: t2 :: ts) d := h
    have hk : st.t.kind = kName := h'.1
    rw [hk, if_neg (by decide), if_neg (by decide), if_neg (by decide), name_parse hl hd hv h']
    exact ⟨_, rfl, h'.next, Same.next _ _⟩
  | len k =>
    have h' : Sees s st (tk kLen :: tN (nameOf l k) :: t2 :: ts) d := h
    have hk : st.t.kind = kLen := h'.1
    rw [hk, if_neg (by decide), if_pos rfl, name_parse (st := next s st) hl hd hv h'.next]
    exact ⟨_, rfl, h'.next.next, (Same.next _ _).trans (Same.next _ _)⟩
  | freq =>
    have h' : Sees s st (tk kFreq :: t2 :: ts) d := h
    have hk : st.t.kind = kFreq := h'.1
    rw [hk, if_neg (by decide), if_neg (by decide), if_pos rfl]
    exact ⟨_, rfl, h'.next, Same.next _ _⟩

theorem val_head (l : List Decl) (v : Val) : ∃ x r, tVal l v = x :: r ∧ x.1 ≠ kFull ∧ x.1 ≠ kEmpty ∧ x.1 ≠ kWarm ∧ x.1 ≠ kNot := by
  cases v with
  | num n => exact ⟨_, _, rfl, by show kNumber ≠ kFull; decide, by show kNumber ≠ kEmpty; decide, by show kNumber ≠ kWarm; decide, by show kNumber ≠ kNot; decide⟩
  | var n => exact ⟨_, _, rfl, by show kName ≠ kFull; decide, by show kName ≠ kEmpty; decide, by show kName ≠ kWarm; decide, by show kName ≠ kNot; decide⟩
  | len n => exact ⟨_, _, rfl, by show kLen ≠ kFull; decide, by show kLen ≠ kEmpty; decide, by show kLen ≠ kWarm; decide, by show kLen ≠ kNot; decide⟩
  | freq => exact ⟨_, _, rfl, by show kFreq ≠ kFull; decide, by show kFreq ≠ kEmpty; decide, by show kFreq ≠ kWarm; decide, by show kFreq ≠ kNot; decide⟩

theorem base_parse {l : List Decl} (hl : DeclsW l) (hd : st.decls = l) {c : CK} (hc : CKW l c) (h : Sees s st (tCK l c ++ t2 :: ts) d) :
    st.t.kind ≠ kNot ∧ ∃ st', condBase s st = .ok ⟨c, 0⟩ st' ∧ Sees s st' (t2 :: ts) d ∧ Same st st' := by
  unfold condBase
  cases c with
  | full k =>
    have h' : Sees s st (tk kFull :: tN (nameOf l k) :: t2 :: ts) d := h
    have hk : st.t.kind = kFull := h'.1
    rw [hk, if_pos rfl, name_parse (st := next s st) hl hd hc h'.next]
    exact ⟨by decide, _, rfl, h'.next.next, (Same.next _ _).trans (Same.next _ _)⟩
  | empty k =>
    have h' : Sees s st (tk kEmpty :: tN (nameOf l k) :: t2 :: ts) d := h
    have hk : st.t.kind = kEmpty := h'.1
    rw [hk, if_neg (by decide), if_pos rfl, name_parse (st := next s st) hl hd hc h'.next]
    exact ⟨by decide, _, rfl, h'.next.next, (Same.next _ _).trans (Same.next _ _)⟩
  | warm k =>
    have h' : Sees s st (tk kWarm :: tN (nameOf l k) :: t2 :: ts) d := h
    have hk : st.t.kind = kWarm := h'.1
    rw [hk, if_neg (by decide), if_neg (by decide), if_pos rfl, name_parse (st := next s st) hl hd hc h'.next]
    exact ⟨by decide, _, rfl, h'.next.next, (Same.next _ _).trans (Same.next _ _)⟩
  | less a b =>
    have h' : Sees s st (tVal l a ++ (tk kLess :: (tVal l b ++ t2 :: ts))) d := by
      have h0 : Sees s st ((tVal l a ++ tk kLess :: tVal l b) ++ t2 :: ts) d := h
      rw [List.append_assoc, List.cons_append] at h0; exact h0
    obtain ⟨x, r, e, n1, n2, n3, n4⟩ := val_head l a
    have hk : st.t.kind = x.1 := by rw [e] at h'; exact h'.1
    obtain ⟨y, r2, e2, _⟩ := val_head l b
    obtain ⟨st1, v1, v2, v3⟩ := value_parse hl hd hc.1 h'
    rw [e2] at v2
    have v4 : Sees s (next s st1) (tVal l b ++ t2 :: ts) d := by rw [e2]; exact Sees.next v2
    obtain ⟨st2, w1, w2, w3⟩ := value_parse (st := next s st1) hl (v3.decls.trans hd) hc.2 v4
    refine ⟨by rw [hk]; exact n4, st2, ?_, w2, (v3.trans (Same.next _ _)).trans w3⟩
    rw [hk, if_neg n1, if_neg n2, if_neg n3, v1]
    show (want s kLess st1).bind _ = _
    rw [want_parse v2]
    show (value s (next s st1)).map _ = _
    rw [w1]
    rfl

theorem cond_parse {l : List Decl} (hl : DeclsW l) (hd : st.decls = l) {c : Cond} (hc : CKW l c.k) {n : Nat} (h : Sees s st (tCond l c ++ t2 :: ts) d) : ∃ st', cond s (n + 2) st = .ok (normC c) st' ∧ Sees s st' (t2 :: ts) d ∧ Same st st' := by
  unfold tCond at h
  by_cases ho : c.nots % 2 = 1
  · rw [if_pos ho] at h
    have hk : st.t.kind = kNot := h.1
    have hne : ∃ x r, tCK l c.k = x :: r := by
      cases hx : tCK l c.k with
      | nil => exact absurd hx (ck_ne _)
      | cons x r => exact ⟨x, r, rfl⟩
    obtain ⟨x, r, e⟩ := hne
    have h1 : Sees s (next s st) (tCK l c.k ++ t2 :: ts) d := by
      rw [e] at h ⊢
      exact Sees.next (t := tk kNot) h
    obtain ⟨a, st1, b1, b2, b3⟩ := base_parse (st := next s st) hl hd hc h1
    refine ⟨st1, ?_, b2, (Same.next _ _).trans b3⟩
    rw [cond, if_pos hk, cond, if_neg a, b1]
    unfold normC
    rw [ho]
    rfl
  · rw [if_neg ho] at h
    obtain ⟨a, st1, b1, b2, b3⟩ := base_parse hl hd hc h
    refine ⟨st1, ?_, b2, b3⟩
    rw [cond, if_neg a, b1]
    have : c.nots % 2 = 0 := by omega
    unfold normC
    rw [this]

theorem take_parse (t : Bool) (h : Sees s st (tTail t ++ tk kSemi :: t2 :: ts) d) : (take s kTail st).1 = t ∧ Sees s (take s kTail st).2 (tk kSemi :: t2 :: ts) d ∧ Same st (take s kTail st).2 := by
  unfold take
  cases t with
  | true =>
    have h' : Sees s st (tk kTail :: tk kSemi :: t2 :: ts) d := h
    rw [if_pos (show st.t.kind = kTail from h'.1)]
    exact ⟨rfl, h'.next, Same.next _ _⟩
  | false =>
    have h' : Sees s st (tk kSemi :: t2 :: ts) d := h
    have hk : st.t.kind = kSemi := h'.1
    rw [if_neg (by rw [hk]; decide)]
    exact ⟨rfl, h', Same.refl _⟩

/-- A block, from what holds of its statements. -/
theorem block_of {l : List Decl} {b : Blk} {n : Nat} (h : Sees s st (tk kOpen :: (tStmts l b ++ (tk kClose :: t2 :: ts))) d) (hd : st.decls = l) (h8 : st.depth + 1 + b.deep ≤ 8)
    (hs : ∀ st1 : PS, st1.decls = l → st1.depth + b.deep ≤ 8 → st1.loops = st.loops → Sees s st1 (tStmts l b ++ (tk kClose :: t2 :: ts)) d → ∃ st', stmts s n st1 = .ok (normB b) st' ∧ Sees s st' (tk kClose :: t2 :: ts) d ∧ Same st1 st') :
    ∃ st', block s (n + 1) st = .ok (normB b) st' ∧ Sees s st' (t2 :: ts) d ∧ Same st st' := by
  have hne : ∃ x r, tStmts l b ++ (tk kClose :: t2 :: ts) = x :: r := by
    cases hx : tStmts l b ++ (tk kClose :: t2 :: ts) with
    | nil => simp at hx
    | cons x r => exact ⟨x, r, rfl⟩
  obtain ⟨x, r, e⟩ := hne
  have hw : want s kOpen st = .ok st.t (next s st) := by unfold want; rw [if_pos (show st.t.kind = kOpen from h.1)]
  have h1 : Sees s (next s st) (tStmts l b ++ (tk kClose :: t2 :: ts)) d := by
    rw [e] at h ⊢
    exact Sees.next h
  obtain ⟨st2, a, b', c⟩ := hs { next s st with depth := (next s st).depth + 1 } hd (by show st.depth + 1 + b.deep ≤ 8; exact h8) rfl (by
    rw [e] at h1 ⊢
    exact ⟨h1.1, h1.2.1, h1.2.2⟩)
  have h2 : Sees s ({ st2 with depth := st2.depth - 1 } : PS) (tk kClose :: t2 :: ts) d := ⟨b'.1, b'.2.1, b'.2.2⟩
  refine ⟨next s { st2 with depth := st2.depth - 1 }, ?_, h2.next, ?_⟩
  · rw [block, if_neg (by rintro ⟨_, x8⟩; omega), hw]
    show (stmts s n { next s st with depth := (next s st).depth + 1 }).bind _ = _
    rw [a]
    rfl
  · have hdp : st2.depth = st.depth + 1 := c.depth
    exact ⟨c.decls, c.freq, c.fseen, c.rules, by show st2.depth - 1 = st.depth; omega, c.loops, c.wrong⟩

theorem semi_parse {x : Prim} (h : Sees s st (tk kSemi :: t2 :: ts) d) : ((want s kSemi st).bind fun _ st => .ok (.prim x .nil) st) = Out.ok (Blk.prim x .nil) (next s st) := by
  rw [want_parse h]
  rfl

theorem prim_parse {l : List Decl} (hl : DeclsW l) (hd : st.decls = l) {p : Prim} (hp : PrimW l p) {n : Nat} (h : Sees s st (tPrim l p ++ t2 :: ts) d) :
    st.t.kind ≠ kClose ∧ ∃ st', stmt s (n + 1) st = .ok (.prim p .nil) st' ∧ Sees s st' (t2 :: ts) d ∧ Same st st' := by
  have one : ∀ {w : Bytes} {v : Bool} {k : Int}, NameW l v k → Sees s st (tk w :: tN (nameOf l k) :: tk kSemi :: t2 :: ts) d →
      name s v (next s st) = .ok k (next s (next s st)) ∧ Sees s (next s (next s st)) (tk kSemi :: t2 :: ts) d ∧ Same st (next s (next s st)) :=
    fun hk h => ⟨name_parse (st := next s st) hl hd hk h.next, h.next.next, (Same.next _ _).trans (Same.next _ _)⟩
  cases p with
  | put q t =>
    have h' : Sees s st (tk kPut :: tN (nameOf l q) :: (tTail t ++ tk kSemi :: t2 :: ts)) d := by simpa [tPrim, List.append_assoc] using h
    have hk : st.t.kind = kPut := h'.1
    have hne : ∃ x r, tTail t ++ tk kSemi :: t2 :: ts = x :: r := by cases t <;> exact ⟨_, _, rfl⟩
    obtain ⟨x, r, e⟩ := hne
    rw [e] at h'
    have a := name_parse (st := next s st) hl hd hp h'.next
    have b := h'.next.next
    rw [← e] at b
    obtain ⟨c1, c2, c3⟩ := take_parse t b
    refine ⟨by rw [hk]; decide, _, ?_, c2.next, (((Same.next _ _).trans (Same.next _ _)).trans c3).trans (Same.next _ _)⟩
    rw [stmt]
    rw [if_pos hk, a]
    show (want s kSemi _).bind _ = _
    rw [semi_parse c2, c1]
  | evict q =>
    have h' : Sees s st (tk kEvict :: tN (nameOf l q) :: tk kSemi :: t2 :: ts) d := h
    have hk : st.t.kind = kEvict := h'.1
    obtain ⟨a, b, c⟩ := one hp h'
    refine ⟨by rw [hk]; decide, _, ?_, b.next, c.trans (Same.next _ _)⟩
    rw [stmt]
    rw [hk, if_neg (by decide), if_pos rfl, a]
    exact semi_parse b
  | cool q =>
    have h' : Sees s st (tk kCool :: tN (nameOf l q) :: tk kSemi :: t2 :: ts) d := h
    have hk : st.t.kind = kCool := h'.1
    obtain ⟨a, b, c⟩ := one hp h'
    refine ⟨by rw [hk]; decide, _, ?_, b.next, c.trans (Same.next _ _)⟩
    rw [stmt]
    rw [hk, if_neg (by decide), if_neg (by decide), if_pos rfl, a]
    exact semi_parse b
  | shift q q' t =>
    have h' : Sees s st (tk kShift :: tN (nameOf l q) :: tN (nameOf l q') :: (tTail t ++ tk kSemi :: t2 :: ts)) d := by simpa [tPrim, List.append_assoc] using h
    have hk : st.t.kind = kShift := h'.1
    have hne : ∃ x r, tTail t ++ tk kSemi :: t2 :: ts = x :: r := by cases t <;> exact ⟨_, _, rfl⟩
    obtain ⟨x, r, e⟩ := hne
    rw [e] at h'
    have a := name_parse (st := next s st) hl hd hp.1 h'.next
    have a2 := name_parse (st := next s (next s st)) hl hd hp.2 h'.next.next
    have b := h'.next.next.next
    rw [← e] at b
    obtain ⟨c1, c2, c3⟩ := take_parse t b
    refine ⟨by rw [hk]; decide, _, ?_, c2.next, ((((Same.next _ _).trans (Same.next _ _)).trans (Same.next _ _)).trans c3).trans (Same.next _ _)⟩
    rw [stmt]
    rw [hk, if_neg (by decide), if_neg (by decide), if_neg (by decide), if_pos rfl, a]
    show (name s false _).bind _ = _
    rw [a2]
    show (want s kSemi _).bind _ = _
    rw [semi_parse c2, c1]
  | inc q =>
    have h' : Sees s st (tk kInc :: tN (nameOf l q) :: tk kSemi :: t2 :: ts) d := h
    have hk : st.t.kind = kInc := h'.1
    obtain ⟨a, b, c⟩ := one hp h'
    refine ⟨by rw [hk]; decide, _, ?_, b.next, c.trans (Same.next _ _)⟩
    rw [stmt]
    rw [hk, if_neg (by decide), if_neg (by decide), if_neg (by decide), if_neg (by decide), if_pos rfl, a]
    exact semi_parse b
  | dec q =>
    have h' : Sees s st (tk kDec :: tN (nameOf l q) :: tk kSemi :: t2 :: ts) d := h
    have hk : st.t.kind = kDec := h'.1
    obtain ⟨a, b, c⟩ := one hp h'
    refine ⟨by rw [hk]; decide, _, ?_, b.next, c.trans (Same.next _ _)⟩
    rw [stmt]
    rw [hk, if_neg (by decide), if_neg (by decide), if_neg (by decide), if_neg (by decide), if_neg (by decide), if_pos rfl, a]
    exact semi_parse b
  | drop =>
    have h' : Sees s st (tk kDrop :: tk kSemi :: t2 :: ts) d := h
    have hk : st.t.kind = kDrop := h'.1
    refine ⟨by rw [hk]; decide, _, ?_, h'.next.next, (Same.next _ _).trans (Same.next _ _)⟩
    rw [stmt]
    rw [hk, if_neg (by decide), if_neg (by decide), if_neg (by decide), if_neg (by decide), if_neg (by decide), if_neg (by decide), if_pos rfl]
    exact semi_parse h'.next
  | bump =>
    have h' : Sees s st (tk kBump :: tk kSemi :: t2 :: ts) d := h
    have hk : st.t.kind = kBump := h'.1
    refine ⟨by rw [hk]; decide, _, ?_, h'.next.next, (Same.next _ _).trans (Same.next _ _)⟩
    rw [stmt]
    rw [hk, if_neg (by decide), if_neg (by decide), if_neg (by decide), if_neg (by decide), if_neg (by decide), if_neg (by decide), if_neg (by decide), if_pos rfl]
    exact semi_parse h'.next

theorem stmts_parse {l : List Decl} (hl : DeclsW l) : ∀ (b : Blk) {st : PS} {n : Nat} {t2 : T2} {ts : List T2}, st.decls = l → BlkW l b → b.Form → st.depth + b.deep ≤ 8 → st.loops + b.nest ≤ 2 → need b ≤ n →
    Sees s st (tStmts l b ++ (tk kClose :: t2 :: ts)) d → ∃ st', stmts s n st = .ok (normB b) st' ∧ Sees s st' (tk kClose :: t2 :: ts) d ∧ Same st st'
  | .nil, st, n, t2, ts, hd, _, _, _, _, hn, h => by
    obtain ⟨n, rfl⟩ : ∃ k, n = k + 1 := ⟨n - 1, by have : 1 ≤ n := hn; omega⟩
    have h' : Sees s st (tk kClose :: t2 :: ts) d := h
    refine ⟨st, ?_, h', Same.refl _⟩
    rw [stmts, if_pos (show st.t.kind = kClose from h'.1)]
    rfl
  | .prim p r, st, n, t2, ts, hd, hw, hf, h8, h2, hn, h => by
    have hn' : 2 + need r ≤ n := hn
    obtain ⟨n, rfl⟩ : ∃ k, n = k + 2 := ⟨n - 2, by omega⟩
    have h' : Sees s st (tPrim l p ++ (tStmts l r ++ (tk kClose :: t2 :: ts))) d := by simpa [tStmts, List.append_assoc] using h
    have hne : ∃ x y, tStmts l r ++ (tk kClose :: t2 :: ts) = x :: y := by
      cases hx : tStmts l r ++ (tk kClose :: t2 :: ts) with
      | nil => simp at hx
      | cons x y => exact ⟨x, y, rfl⟩
    obtain ⟨x, y, e⟩ := hne
    rw [e] at h'
    obtain ⟨a, st1, b1, b2, b3⟩ := prim_parse (n := n) hl hd hw.1 h'
    rw [← e] at b2
    obtain ⟨st2, c1, c2, c3⟩ := stmts_parse hl r (n := n + 1) (b3.decls.trans hd) hw.2 hf (by rw [b3.depth]; exact h8) (by rw [b3.loops]; exact h2) (by omega) b2
    refine ⟨st2, ?_, c2, b3.trans c3⟩
    rw [stmts, if_neg a, b1]
    show (stmts s (n + 1) st1).map _ = _
    rw [c1]
    rfl
  | .ite c t o e r, st, n, t2, ts, hd, ⟨w1, w2, w3, w4⟩, ⟨f1, f2, f3, f4⟩, h8, h2, hn, h => by
    have hn' : 3 + need t + need e + need r ≤ n := hn
    have np := need_pos t
    have nq := need_pos e
    obtain ⟨n, rfl⟩ : ∃ k, n = k + 3 := ⟨n - 3, by omega⟩
    have h8' : st.depth + max (1 + t.deep) (max (if o then 1 + e.deep else 0) r.deep) ≤ 8 := h8
    have h2' : st.loops + max t.nest (max e.nest r.nest) ≤ 2 := h2
    have hA : Sees s st (tk kIf :: (tCond l c ++ (tk kOpen :: (tStmts l t ++ (tk kClose :: ((if o then tk kElse :: tk kOpen :: (tStmts l e ++ [tk kClose]) else []) ++ (tStmts l r ++ (tk kClose :: t2 :: ts)))))))) d := by
      simpa [tStmts, List.append_assoc] using h
    have hk : st.t.kind = kIf := hA.1
    have hce : ∃ x y, tCond l c ++ (tk kOpen :: (tStmts l t ++ (tk kClose :: ((if o then tk kElse :: tk kOpen :: (tStmts l e ++ [tk kClose]) else []) ++ (tStmts l r ++ (tk kClose :: t2 :: ts)))))) = x :: y := by
      cases hx : tCond l c with
      | nil => exact absurd hx (cond_ne _)
      | cons x y => exact ⟨x, _, rfl⟩
    obtain ⟨x, y, ex⟩ := hce
    have hA1 : Sees s (next s st) (tCond l c ++ (tk kOpen :: (tStmts l t ++ (tk kClose :: ((if o then tk kElse :: tk kOpen :: (tStmts l e ++ [tk kClose]) else []) ++ (tStmts l r ++ (tk kClose :: t2 :: ts))))))) d := by
      rw [ex] at hA ⊢; exact hA.next
    obtain ⟨st1, a1, a2, a3⟩ := cond_parse (n := n) (st := next s st) hl hd w1 hA1
    have d1 : st1.decls = l := a3.decls.trans hd
    have p1 : st1.depth = st.depth := a3.depth
    have q1 : st1.loops = st.loops := a3.loops
    have hre : ∃ x y, tStmts l r ++ (tk kClose :: t2 :: ts) = x :: y ∧ (x.1 ≠ kElse) := by
      cases r with
      | nil => exact ⟨_, _, rfl, by show kClose ≠ kElse; decide⟩
      | prim p r' => cases p <;> exact ⟨_, _, rfl, by first | (show kPut ≠ kElse; decide) | (show kEvict ≠ kElse; decide) | (show kCool ≠ kElse; decide) | (show kShift ≠ kElse; decide) | (show kInc ≠ kElse; decide) | (show kDec ≠ kElse; decide) | (show kDrop ≠ kElse; decide) | (show kBump ≠ kElse; decide)⟩
      | ite _ _ _ _ _ => exact ⟨_, _, rfl, by show kIf ≠ kElse; decide⟩
      | rep _ _ _ _ => exact ⟨_, _, rfl, by show kRepeat ≠ kElse; decide⟩
    obtain ⟨xr, yr, er, ner⟩ := hre
    cases o with
    | false =>
      have a2' : Sees s st1 (tk kOpen :: (tStmts l t ++ (tk kClose :: xr :: yr))) d := by rw [← er]; exact a2
      simp only [Bool.false_eq_true, if_false] at h8'
      obtain ⟨st2, b1, b2, b3⟩ := block_of (n := n) a2' d1 (by omega) (fun st0 x1 x2 x3 x4 => stmts_parse hl t x1 w2 f1 x2 (by omega) (by omega) x4)
      have hk2 : st2.t.kind ≠ kElse := by rw [b2.1]; exact ner
      have b2' := b2
      rw [← er] at b2
      obtain ⟨st3, c1, c2, c3⟩ := stmts_parse hl r (n := n + 2) (b3.decls.trans d1) w4 f3 (by rw [b3.depth, p1]; omega) (by rw [b3.loops, q1]; omega) (by omega) b2
      have he := f4 rfl
      subst he
      refine ⟨st3, ?_, c2, (((Same.next _ _).trans a3).trans b3).trans c3⟩
      rw [stmts, if_neg (by rw [hk]; decide), stmt]
      rw [hk, if_neg (by decide), if_neg (by decide), if_neg (by decide), if_neg (by decide), if_neg (by decide), if_neg (by decide), if_neg (by decide), if_neg (by decide), if_pos rfl, a1]
      show ((block s (n + 1) st1).bind _).bind _ = _
      rw [b1]
      show (if st2.t.kind = kElse then _ else _ : Out Blk).bind _ = _
      rw [if_neg hk2]
      show (stmts s (n + 2) st2).map _ = _
      rw [c1]
      rfl
    | true =>
      simp only [if_true] at h8' a2
      have a2' : Sees s st1 (tk kOpen :: (tStmts l t ++ (tk kClose :: tk kElse :: (tk kOpen :: (tStmts l e ++ (tk kClose :: xr :: yr)))))) d := by
        rw [← er]; simpa [List.append_assoc] using a2
      obtain ⟨st2, b1, b2, b3⟩ := block_of (n := n) a2' d1 (by omega) (fun st0 x1 x2 x3 x4 => stmts_parse hl t x1 w2 f1 x2 (by omega) (by omega) x4)
      have hk2 : st2.t.kind = kElse := b2.1
      have p2 : st2.depth = st.depth := b3.depth.trans p1
      have q2 : st2.loops = st.loops := b3.loops.trans q1
      obtain ⟨st3, g1, g2, g3⟩ := block_of (n := n) (st := next s st2) b2.next (b3.decls.trans d1) (by show st2.depth + 1 + e.deep ≤ 8; omega) (fun st0 x1 x2 x3 x4 => stmts_parse hl e x1 w3 f2 x2 (by have : st0.loops = st2.loops := x3; omega) (by omega) x4)
      rw [← er] at g2
      have p3 : st3.depth = st2.depth := g3.depth
      have q3 : st3.loops = st2.loops := g3.loops
      obtain ⟨st4, c1, c2, c3⟩ := stmts_parse hl r (n := n + 2) (g3.decls.trans (b3.decls.trans d1)) w4 f3 (by omega) (by omega) (by omega) g2
      refine ⟨st4, ?_, c2, ((((Same.next _ _).trans a3).trans b3).trans ((Same.next _ _).trans g3)).trans c3⟩
      rw [stmts, if_neg (by rw [hk]; decide), stmt]
      rw [hk, if_neg (by decide), if_neg (by decide), if_neg (by decide), if_neg (by decide), if_neg (by decide), if_neg (by decide), if_neg (by decide), if_neg (by decide), if_pos rfl, a1]
      show ((block s (n + 1) st1).bind _).bind _ = _
      rw [b1]
      show (if st2.t.kind = kElse then _ else _ : Out Blk).bind _ = _
      rw [if_pos hk2]
      show ((block s (n + 1) (next s st2)).bind _).bind _ = _
      rw [g1]
      show (stmts s (n + 2) st3).map _ = _
      rw [c1]
      rfl
  | .rep k c b r, st, n, t2, ts, hd, ⟨w1, w2, w3, w4, w5⟩, ⟨f1, f2⟩, h8, h2, hn, h => by
    have hn' : 3 + need b + need r ≤ n := hn
    have np := need_pos b
    have nq := need_pos r
    obtain ⟨n, rfl⟩ : ∃ k, n = k + 3 := ⟨n - 3, by omega⟩
    have h8' : st.depth + max (1 + b.deep) r.deep ≤ 8 := h8
    have h2' : st.loops + max (1 + b.nest) r.nest ≤ 2 := h2
    have hA : Sees s st (tk kRepeat :: tI k :: tk kWhile :: (tCond l c ++ (tk kOpen :: (tStmts l b ++ (tk kClose :: (tStmts l r ++ (tk kClose :: t2 :: ts))))))) d := by
      simpa [tStmts, List.append_assoc] using h
    have hk : st.t.kind = kRepeat := hA.1
    have hce : ∃ x y, tCond l c ++ (tk kOpen :: (tStmts l b ++ (tk kClose :: (tStmts l r ++ (tk kClose :: t2 :: ts))))) = x :: y := by
      cases hx : tCond l c with
      | nil => exact absurd hx (cond_ne _)
      | cons x y => exact ⟨x, _, rfl⟩
    obtain ⟨x, y, ex⟩ := hce
    rw [ex] at hA
    have n1 := number_parse (least := 1) (most := 50) hA.next (by omega) (by omega) w4 w5
    have n2 := want_parse hA.next.next
    have hA1 := hA.next.next.next
    rw [← ex] at hA1
    obtain ⟨st1, a1, a2, a3⟩ := cond_parse (n := n) hl (st := next s (next s (next s st))) hd w1 hA1
    have d1 : st1.decls = l := a3.decls.trans hd
    have p1 : st1.depth = st.depth := a3.depth
    have q1 : st1.loops = st.loops := a3.loops
    have hre : ∃ x y, tStmts l r ++ (tk kClose :: t2 :: ts) = x :: y := by
      cases hx : tStmts l r ++ (tk kClose :: t2 :: ts) with
      | nil => simp at hx
      | cons x y => exact ⟨x, y, rfl⟩
    obtain ⟨xr, yr, er⟩ := hre
    rw [er] at a2
    have a2' : Sees s ({ st1 with loops := st1.loops + 1 } : PS) (tk kOpen :: (tStmts l b ++ (tk kClose :: xr :: yr))) d := ⟨a2.1, a2.2.1, a2.2.2⟩
    obtain ⟨st2, b1, b2, b3⟩ := block_of (n := n) a2' d1 (by show st1.depth + 1 + b.deep ≤ 8; omega) (fun st0 x1 x2 x3 x4 => stmts_parse hl b x1 w2 f1 x2 (by have : st0.loops = st1.loops + 1 := x3; omega) (by omega) x4)
    rw [← er] at b2
    have b2' : Sees s ({ st2 with loops := st2.loops - 1 } : PS) (tStmts l r ++ (tk kClose :: t2 :: ts)) d := by rw [er] at b2 ⊢; exact ⟨b2.1, b2.2.1, b2.2.2⟩
    have q2 : st2.loops = st1.loops + 1 := b3.loops
    have p2 : st2.depth = st1.depth := b3.depth
    obtain ⟨st3, c1, c2, c3⟩ := stmts_parse hl r (n := n + 2) (st := { st2 with loops := st2.loops - 1 }) (b3.decls.trans d1) w3 f2 (by show st2.depth + r.deep ≤ 8; omega) (by show st2.loops - 1 + r.nest ≤ 2; omega) (by omega) b2'
    refine ⟨st3, ?_, c2, ?_⟩
    · rw [stmts, if_neg (by rw [hk]; decide), stmt]
      rw [hk, if_neg (by decide), if_neg (by decide), if_neg (by decide), if_neg (by decide), if_neg (by decide), if_neg (by decide), if_neg (by decide), if_neg (by decide), if_neg (by decide), if_pos rfl, if_neg (by omega), n1]
      show ((want s kWhile (next s (next s st))).bind _).bind _ = _
      rw [n2]
      show ((cond s (n + 2) (next s (next s (next s st)))).bind _).bind _ = _
      rw [a1]
      show ((block s (n + 1) { st1 with loops := st1.loops + 1 }).bind _).bind _ = _
      rw [b1]
      show (stmts s (n + 2) { st2 with loops := st2.loops - 1 }).map _ = _
      rw [c1]
      rfl
    · have s1 : Same st st1 := ((Same.next _ _).trans ((Same.next _ _).trans (Same.next _ _))).trans a3
      have s2 : Same st1 ({ st2 with loops := st2.loops - 1 } : PS) := ⟨b3.decls, b3.freq, b3.fseen, b3.rules, b3.depth, by show st2.loops - 1 = st1.loops; omega, b3.wrong⟩
      exact (s1.trans s2).trans c3
end
end Go.Proofs.YtemppijblfflgaaGreatDoor.Ev
namespace Go.Proofs.YtemppijblfflgaaGreatDoor.Ev

/-- The rules in the order of the declarations; the miss last. -/
def ordRules (p : Policy) : Nat → List (Int × Blk)
  | 0 => []
  | k + 1 => ordRules p k ++ (match ruleOf p.rules (k : Int) with
    | some b => [((k : Int), normB b)]
    | none => [])
def normP (p : Policy) : Policy := ⟨p.decls, p.freq, ordRules p p.decls.length ++ [(-1, normB ((missOf p.rules).getD .nil))]⟩

def tDecl (d : Decl) : List T2 := [tk (kindWord d.kind), tN d.name, tI d.max, tk kSemi]
def tDecls : List Decl → List T2
  | [] => []
  | d :: l => tDecl d ++ tDecls l
def tFreq (f : Int) : List T2 := if 0 < f then [tk kFreq, tI f, tk kSemi] else []
def tBlock (l : List Decl) (b : Blk) : List T2 := tk kOpen :: (tStmts l b ++ [tk kClose])
def tRule (p : Policy) (k : Nat) : List T2 :=
  match ruleOf p.rules (k : Int) with
  | some b => tk kOn :: tN (nameOf p.decls (k : Int)) :: tBlock p.decls b
  | none => []
def tRules (p : Policy) : Nat → List T2
  | 0 => []
  | k + 1 => tRules p k ++ tRule p k
def tEnd : T2 := (kEnd, [])
def tMiss (p : Policy) : List T2 := tk kOn :: tk kMiss :: (tBlock p.decls ((missOf p.rules).getD .nil))
def tAll (p : Policy) : List T2 := tDecls p.decls ++ (tFreq p.freq ++ (tRules p p.decls.length ++ (tMiss p ++ [tEnd])))

theorem ruleOf_mem {r : List (Int × Blk)} {k : Int} {b : Blk} (h : ruleOf r k = some b) : (k, b) ∈ r := by
  unfold ruleOf at h
  cases hf : r.find? (fun x => x.1 == k) with
  | none => rw [hf] at h; cases h
  | some x =>
    rw [hf] at h
    have h1 := List.mem_of_find?_eq_some hf
    have h2 := List.find?_some hf
    simp at h h2
    obtain ⟨a, c⟩ := x
    simp at h h2
    subst h h2
    exact h1

section
variable {p : Policy} (hp : PolW p)
include hp

theorem miss_W : RuleW p.decls (-1, (missOf p.rules).getD .nil) := by
  have hm := hp.miss
  unfold missOf at hm ⊢
  cases hr : ruleOf p.rules (-1) with
  | none => rw [hr] at hm; cases hm
  | some b => exact hp.rules.each _ (ruleOf_mem hr)

end

/-! ## Read again -/
theorem kind_of (k : Nat) (h : k ≤ 2) : declKind (kindWord k) = k ∧ declMost (kindWord k) = (if k = 2 then 99 else 50) ∧ isDecl (kindWord k) = true ∧ kindWord k ≠ kFreq := by
  obtain rfl | rfl | rfl : k = 0 ∨ k = 1 ∨ k = 2 := by omega
  · exact ⟨rfl, rfl, rfl, by decide⟩
  · exact ⟨rfl, rfl, rfl, by decide⟩
  · exact ⟨rfl, rfl, rfl, by decide⟩

theorem find_new {l : List Decl} {name : Bytes} (h : name ∉ l.map (·.name)) : find l name = -1 := by
  rcases findFrom_range name l 0 with h1 | ⟨i, d, h1, h2, _⟩
  · exact h1
  · exact absurd (List.mem_map.2 ⟨d, List.mem_of_getElem? h1, h2⟩) h

section
variable {s : Bytes} {t2 : T2} {ts : List T2} {d : Bytes}

theorem decl_parse {st : PS} {x : Decl} (hx : DeclW x) (hn : x.name ∉ st.decls.map (·.name)) (h8 : st.decls.length < 8) (h : Sees s st (tDecl x ++ t2 :: ts) d) :
    isDecl st.t.kind = true ∧ ∃ st', decl s st = .ok () st' ∧ Sees s st' (t2 :: ts) d ∧ Same { st with decls := st.decls ++ [x] } st' := by
  obtain ⟨k1, k2, k3, k4⟩ := kind_of x.kind hx.kind
  have h' : Sees s st (tk (kindWord x.kind) :: tN x.name :: tI x.max :: tk kSemi :: t2 :: ts) d := h
  have hk : st.t.kind = kindWord x.kind := h'.1
  have hx99 : x.max ≤ 999 := by have := hx.hi; split at this <;> omega
  have hlo := hx.lo
  refine ⟨by rw [hk]; exact k3, ?_⟩
  have w1 := want_parse h'.next
  have w2 : declNote (next s st).t (next s (next s st)) = next s (next s st) := by
    unfold declNote
    have e1 : (next s st).t.text = x.name := h'.next.2.1
    have e2 : (next s (next s st)).decls = st.decls := rfl
    simp only [e1, e2]
    rw [find_new hn, if_neg (by omega : ¬ ((0 : Int) ≤ -1)), if_neg (show ¬ (next s (next s st)).decls.length = 8 by rw [e2]; omega)]
  have w3 := number_parse (least := 1) (most := declMost st.t.kind) h'.next.next (by omega) hx99 hlo (by rw [hk, k2]; exact hx.hi)
  have w4 := want_parse h'.next.next.next
  have h4 := h'.next.next.next.next
  have e1 : (next s st).t.text = x.name := h'.next.2.1
  refine ⟨{ next s (next s (next s (next s st))) with decls := (next s (next s (next s (next s st)))).decls ++ [x] }, ?_, ⟨h4.1, h4.2.1, h4.2.2⟩, ⟨rfl, rfl, rfl, rfl, rfl, rfl, rfl⟩⟩
  unfold decl
  simp only
  rw [if_neg (by rw [hk]; exact k4), w1]
  show (number s 1 (declMost st.t.kind) (declNote (next s st).t (next s (next s st)))).bind _ = _
  rw [w2, w3]
  show (want s kSemi _).bind _ = _
  rw [w4]
  show Out.ok () _ = _
  rw [hk, k1, e1]

theorem decls_parse : ∀ (l : List Decl) {st : PS} {n : Nat} {t2 : T2} {ts : List T2}, (∀ x ∈ l, DeclW x) → (st.decls.map (·.name) ++ l.map (·.name)).Nodup → st.decls.length + l.length ≤ 8 → l.length ≤ n →
    Sees s st (tDecls l ++ t2 :: ts) d → ∃ st', declsR s (n + 1) st = declsR s (n + 1 - l.length) st' ∧ Sees s st' (t2 :: ts) d ∧ Same { st with decls := st.decls ++ l } st'
  | [], st, n, t2, ts, _, _, _, _, h => ⟨st, rfl, h, by simp; exact Same.refl st⟩
  | x :: l, st, n, t2, ts, hw, hn, h8, hl, h => by
    have h' : Sees s st (tDecl x ++ (tDecls l ++ t2 :: ts)) d := by simpa [tDecls, List.append_assoc] using h
    have hne : ∃ a b, tDecls l ++ t2 :: ts = a :: b := by
      cases hx : tDecls l ++ t2 :: ts with
      | nil => simp at hx
      | cons a b => exact ⟨a, b, rfl⟩
    obtain ⟨a, b, e⟩ := hne
    rw [e] at h'
    have hnod := List.nodup_append.1 hn
    have hlen : st.decls.length + (l.length + 1) ≤ 8 := h8
    obtain ⟨i1, st1, i2, i3, i4⟩ := decl_parse (hw x (by simp)) (fun hm => hnod.2.2 _ hm _ (by simp) rfl) (by omega) h'
    rw [← e] at i3
    have d1 : st1.decls = st.decls ++ [x] := i4.decls
    have hl' : l.length + 1 ≤ n := hl
    obtain ⟨n, rfl⟩ : ∃ k, n = k + 1 := ⟨n - 1, by omega⟩
    obtain ⟨st2, j1, j2, j3⟩ := decls_parse l (st := st1) (n := n) (fun y hy => hw y (by simp [hy])) (by rw [d1]; simpa using hn) (by rw [d1]; simp; omega) (by omega) i3
    refine ⟨st2, ?_, j2, ?_⟩
    · rw [declsR, if_pos i1, i2]
      show declsR s (n + 1) st1 = _
      rw [j1]
      congr 1
      simp
    · refine Same.trans ?_ j3
      exact ⟨by show st1.decls ++ l = st.decls ++ x :: l; rw [d1]; simp, i4.freq, i4.fseen, i4.rules, i4.depth, i4.loops, i4.wrong⟩

theorem freq_parse {st : PS} {f : Int} (h1 : 1 ≤ f) (h99 : f ≤ 99) (hs : st.fseen = false) (h : Sees s st (tk kFreq :: tI f :: tk kSemi :: t2 :: ts) d) :
    isDecl st.t.kind = true ∧ ∃ st', decl s st = .ok () st' ∧ Sees s st' (t2 :: ts) d ∧ Same { st with freq := f, fseen := true } st' := by
  have hk : st.t.kind = kFreq := h.1
  refine ⟨by rw [hk]; rfl, ?_⟩
  have h1' : Sees s ({ next s st with fseen := true } : PS) (tI f :: tk kSemi :: t2 :: ts) d := ⟨h.next.1, h.next.2.1, h.next.2.2⟩
  have w3 := number_parse (least := 1) (most := 99) h1' (by omega) (by omega) h1 h99
  have h2' : Sees s ({ next s { next s st with fseen := true } with freq := f } : PS) (tk kSemi :: t2 :: ts) d := ⟨h1'.next.1, h1'.next.2.1, h1'.next.2.2⟩
  have w4 := want_parse h2'
  refine ⟨_, ?_, h2'.next, ⟨rfl, rfl, rfl, rfl, rfl, rfl, rfl⟩⟩
  unfold decl
  simp only
  rw [if_pos hk]
  have e : (if (next s st).fseen = true then note eTwice st.t.pos (next s st) else next s st) = next s st := by
    have : (next s st).fseen = false := hs
    rw [this]; rfl
  rw [e, w3]
  show (want s kSemi _).bind _ = _
  rw [w4]
  rfl

theorem block_parse {l : List Decl} (hl : DeclsW l) {st : PS} {b : Blk} (hd : st.decls = l) (hw : BlkW l b) (hf : b.Form) (h8 : st.depth + 1 + b.deep ≤ 8) (h2 : st.loops + b.nest ≤ 2) {n : Nat} (hn : need b ≤ n)
    (h : Sees s st (tBlock l b ++ t2 :: ts) d) : ∃ st', block s (n + 1) st = .ok (normB b) st' ∧ Sees s st' (t2 :: ts) d ∧ Same st st' := by
  have h' : Sees s st (tk kOpen :: (tStmts l b ++ (tk kClose :: t2 :: ts))) d := by simpa [tBlock, List.append_assoc] using h
  exact block_of (n := n) h' hd h8 (fun st0 x1 x2 x3 x4 => stmts_parse hl b x1 hw hf x2 (by omega) hn x4)

theorem block_ne (l : List Decl) (b : Blk) : ∃ r, tBlock l b ++ t2 :: ts = tk kOpen :: r := ⟨_, rfl⟩

/-- A rule. -/
theorem rule_parse {l : List Decl} (hl : DeclsW l) {st : PS} {k : Int} {b : Blk} (hr : RuleW l (k, b)) (hd : st.decls = l) (hdp : st.depth = 0) (hlp : st.loops = 0) (hwr : st.wrong = none) (hru : (ruleOf st.rules k).isSome = false)
    (hn : need b ≤ 1499) (h : Sees s st (tk kOn :: (if k = -1 then tk kMiss else tN (nameOf l k)) :: (tBlock l b ++ t2 :: ts)) d) :
    st.t.kind = kOn ∧ ∃ st', rule s 1500 st = .ok () st' ∧ Sees s st' (t2 :: ts) d ∧ Same { st with rules := st.rules ++ [(k, normB b)] } st' := by
  refine ⟨h.1, ?_⟩
  obtain ⟨r, er⟩ := block_ne (t2 := t2) (ts := ts) l b
  have h1 := h.next
  have hh : ruleHead s st = .ok k (next s (next s st)) := by
    unfold ruleHead
    simp only
    have e : (if (next s st).t.kind = kMiss then Out.ok (-1) (next s (next s st)) else name s false (next s st)) = Out.ok k (next s (next s st)) := by
      by_cases hk : k = -1
      · subst hk
        rw [if_pos rfl] at h1
        rw [if_pos (show (next s st).t.kind = kMiss from h1.1)]
      · rw [if_neg hk] at h1
        have hkk : (next s st).t.kind = kName := h1.1
        rw [if_neg (by rw [hkk]; decide)]
        rw [er] at h1
        exact name_parse (st := next s st) hl hd (hr.key.resolve_left hk) h1
    rw [e]
    show Out.ok k _ = _
    have e2 : ((ruleOf (next s (next s st)).rules k).isSome && (next s (next s st)).wrong.isNone) = false := by
      have : (ruleOf (next s (next s st)).rules k).isSome = false := hru
      rw [this]; rfl
    rw [e2]
    rfl
  have h2 : Sees s (next s (next s st)) (tBlock l b ++ t2 :: ts) d := by rw [er] at h1 ⊢; exact h1.next
  have hdeep := hr.deep
  have hnest := hr.nest
  obtain ⟨st1, b1, b2, b3⟩ := block_parse (n := 1499) (st := next s (next s st)) hl hd hr.w hr.form (by show st.depth + 1 + b.deep ≤ 8; rw [hdp]; show 0 + 1 + b.deep ≤ 8; simp only at hdeep; omega) (by show st.loops + b.nest ≤ 2; rw [hlp]; simp only at hnest; omega) hn h2
  refine ⟨{ st1 with rules := st1.rules ++ [(k, normB b)] }, ?_, ⟨b2.1, b2.2.1, b2.2.2⟩, ⟨b3.decls, b3.freq, b3.fseen, by show st1.rules ++ _ = st.rules ++ _; rw [b3.rules]; rfl, b3.depth, b3.loops, b3.wrong⟩⟩
  unfold rule
  rw [hh]
  show (block s 1500 (next s (next s st))).bind _ = _
  rw [b1]
  show Out.ok () (if st1.wrong.isNone then _ else _) = _
  have : st1.wrong = none := b3.wrong.trans hwr
  rw [this]
  rfl

theorem ruleOf_ord (p : Policy) : ∀ (n : Nat) (k : Int), ruleOf (ordRules p n) k = if 0 ≤ k ∧ k < n then (ruleOf p.rules k).map normB else none
  | 0, k => by
    rw [if_neg (by omega)]; rfl
  | n + 1, k => by
    have ih := ruleOf_ord p n k
    show ruleOf (ordRules p n ++ _) k = _
    have ap : ∀ (a b : List (Int × Blk)), ruleOf (a ++ b) k = (ruleOf a k).or (ruleOf b k) := by
      intro a b
      unfold ruleOf
      rw [List.find?_append]
      cases a.find? (fun x => x.1 == k) <;> rfl
    rw [ap, ih]
    by_cases h1 : 0 ≤ k ∧ k < n
    · rw [if_pos h1, if_pos (by omega)]
      have hne : k ≠ (n : Int) := by omega
      have : ruleOf (match ruleOf p.rules (n : Int) with | some b => [((n : Int), normB b)] | none => []) k = none := by
        cases ruleOf p.rules (n : Int) with
        | none => rfl
        | some b =>
          unfold ruleOf
          simp; omega
      rw [this]
      cases (ruleOf p.rules k).map normB <;> rfl
    · rw [if_neg h1, Option.none_or]
      by_cases h2 : k = (n : Int)
      · subst h2
        rw [if_pos (by omega)]
        cases hr : ruleOf p.rules (n : Int) with
        | none => rfl
        | some b =>
          unfold ruleOf
          simp
      · rw [if_neg (by omega)]
        cases ruleOf p.rules (n : Int) with
        | none => rfl
        | some b =>
          unfold ruleOf
          simp; omega

theorem rules_parse {p : Policy} (hp : PolW p) (hneed : ∀ x ∈ p.rules, need x.2 ≤ 1499) : ∀ (n : Nat) {st : PS} {m : Nat} {t2 : T2} {ts : List T2}, st.decls = p.decls → st.depth = 0 → st.loops = 0 → st.wrong = none → st.rules = [] → n ≤ m → n ≤ p.decls.length →
    Sees s st (tRules p n ++ t2 :: ts) d → ∃ st' j, rulesR s 1500 (m + 1) st = rulesR s 1500 (m + 1 - j) st' ∧ j ≤ n ∧ Sees s st' (t2 :: ts) d ∧ Same { st with rules := ordRules p n } st'
  | 0, st, m, t2, ts, _, _, _, _, hr, _, _, h => ⟨st, 0, rfl, Nat.le_refl _, h, ⟨rfl, rfl, rfl, hr, rfl, rfl, rfl⟩⟩
  | n + 1, st, m, t2, ts, hd, hdp, hlp, hwr, hr, hm, hnl, h => by
    have h' : Sees s st (tRules p n ++ (tRule p n ++ t2 :: ts)) d := by simpa [tRules, List.append_assoc] using h
    cases hru : ruleOf p.rules (n : Int) with
    | none =>
      have e : tRule p n = [] := by unfold tRule; rw [hru]
      rw [e] at h'
      obtain ⟨st', j, a, b, c, f⟩ := rules_parse hp hneed n (m := m) hd hdp hlp hwr hr (by omega) (by omega) h'
      refine ⟨st', j, a, by omega, c, f.decls, f.freq, f.fseen, ?_, f.depth, f.loops, f.wrong⟩
      rw [f.rules]
      show ordRules p n = ordRules p n ++ _
      rw [hru]
      simp
    | some b =>
      have hmem := ruleOf_mem hru
      have hW := hp.rules.each _ hmem
      have e : tRule p n = tk kOn :: tN (nameOf p.decls (n : Int)) :: tBlock p.decls b := by unfold tRule; rw [hru]
      rw [e] at h'
      obtain ⟨st', j, a, hj, c, f⟩ := rules_parse hp hneed n (m := m) hd hdp hlp hwr hr (by omega) (by omega) h'
      have hne : ¬ ((n : Int) = -1) := by omega
      have f4 : st'.rules = ordRules p n := f.rules
      obtain ⟨x1, st2, x2, x3, x4⟩ := rule_parse (k := (n : Int)) (b := b) hp.decls hW (f.decls.trans hd) (f.depth.trans hdp) (f.loops.trans hlp) (f.wrong.trans hwr) (by rw [f4, ruleOf_ord, if_neg (by omega)]; rfl) (hneed _ hmem) (by
        rw [if_neg hne]; exact c)
      refine ⟨st2, j + 1, ?_, by omega, x3, ?_⟩
      · rw [a]
        obtain ⟨m', hm'⟩ : ∃ k, m + 1 - j = k + 1 := ⟨m - j, by omega⟩
        rw [hm', rulesR, if_pos x1, x2]
        show rulesR s 1500 m' st2 = _
        congr 1
        omega
      · refine ⟨x4.decls.trans f.decls, x4.freq.trans f.freq, x4.fseen.trans f.fseen, ?_, x4.depth.trans f.depth, x4.loops.trans f.loops, x4.wrong.trans f.wrong⟩
        rw [x4.rules]
        show st'.rules ++ _ = ordRules p n ++ _
        rw [f4, hru]
end

theorem normP_miss {p : Policy} (hp : PolW p) : missOf (normP p).rules = (missOf p.rules).map normB := by
  unfold missOf normP ruleOf
  rw [List.find?_append]
  have h1 := ruleOf_ord p p.decls.length (-1)
  rw [if_neg (by omega)] at h1
  have h2 : (ordRules p p.decls.length).find? (fun x => x.1 == -1) = none := by
    unfold ruleOf at h1
    cases hx : (ordRules p p.decls.length).find? (fun x => x.1 == -1) with
    | none => rfl
    | some y => rw [hx] at h1; cases h1
  rw [h2]
  have hm := hp.miss
  unfold missOf ruleOf at hm
  cases hx : p.rules.find? (fun x => x.1 == -1) with
  | none => rw [hx] at hm; cases hm
  | some y => simp [missOf, ruleOf, hx]

/-- A text of these tokens, read. -/
theorem read_toks {p : Policy} {s : Bytes} (hp : PolW p) (h700 : s.length ≤ 700) (hneed : ∀ x ∈ p.rules, need x.2 ≤ 1499) (ht : Toks s (tAll p) []) : read s = .ok (normP p) := by
  unfold read
  rw [if_neg (by omega)]
  have hall : ∃ x y, tAll p = x :: y := by
    cases hx : tAll p with
    | nil => simp [tAll, tMiss] at hx
    | cons x y => exact ⟨x, y, rfl⟩
  obtain ⟨x, y, e⟩ := hall
  rw [e] at ht
  have s0 := Sees.start ht
  rw [← e] at s0
  -- the declarations
  have hr0 : ∃ a b, tFreq p.freq ++ (tRules p p.decls.length ++ (tMiss p ++ [tEnd])) = a :: b := by
    cases hx : tFreq p.freq ++ (tRules p p.decls.length ++ (tMiss p ++ [tEnd])) with
    | nil => simp [tMiss] at hx
    | cons a b => exact ⟨a, b, rfl⟩
  obtain ⟨a0, b0, e0⟩ := hr0
  have hr1 : ∃ a b, tRules p p.decls.length ++ (tMiss p ++ [tEnd]) = a :: b ∧ a = tk kOn := by
    have : ∀ n, ∃ a b, tRules p n ++ (tMiss p ++ [tEnd]) = a :: b ∧ a = tk kOn := by
      intro n
      induction n with
      | zero => exact ⟨_, _, rfl, rfl⟩
      | succ n ih =>
        show ∃ a b, (tRules p n ++ tRule p n) ++ (tMiss p ++ [tEnd]) = a :: b ∧ a = tk kOn
        cases hx : tRules p n with
        | nil =>
          rw [List.nil_append]
          unfold tRule
          cases ruleOf p.rules (n : Int) with
          | none => exact ⟨_, _, rfl, rfl⟩
          | some b => exact ⟨_, _, rfl, rfl⟩
        | cons a b =>
          rw [hx] at ih
          obtain ⟨a', b', h1, h2⟩ := ih
          injection h1 with h1 _
          exact ⟨a, _, rfl, h1.trans h2⟩
    exact this _
  obtain ⟨a1, b1, e1, ea1⟩ := hr1
  unfold tAll at s0
  rw [e0] at s0
  have hl8 := hp.decls.len
  obtain ⟨st1, c1, c2, c3⟩ := decls_parse p.decls (n := 701) hp.decls.each (by simpa [start] using hp.decls.nodup) (by simpa [start] using hl8) (by omega) s0
  -- the frequency
  have hfr : ∃ st2 m, declsR s (701 + 1 - p.decls.length) st1 = .ok () st2 ∧ Sees s st2 (tRules p p.decls.length ++ (tMiss p ++ [tEnd])) [] ∧ st2.decls = p.decls ∧ st2.freq = p.freq ∧ st2.rules = [] ∧ st2.depth = 0 ∧ st2.loops = 0 ∧ st2.wrong = none ∧ m = 0 := by
    have cd : st1.decls = p.decls := by rw [c3.decls]; rfl
    have cr : st1.rules = [] := c3.rules
    have cp : st1.depth = 0 := c3.depth
    have cl : st1.loops = 0 := c3.loops
    have cw : st1.wrong = none := c3.wrong
    obtain ⟨m, hm⟩ : ∃ k, 701 + 1 - p.decls.length = k + 2 := ⟨700 - p.decls.length, by omega⟩
    rw [hm]
    unfold tFreq at e0
    by_cases hf : 0 < p.freq
    · rw [if_pos hf] at e0
      rw [← e0, e1] at c2
      obtain ⟨f1, st2, f2, f3, f4⟩ := freq_parse (by omega) hp.freq.2 c3.fseen c2
      refine ⟨st2, 0, ?_, by rw [e1]; exact f3, f4.decls.trans cd, f4.freq, f4.rules.trans cr, f4.depth.trans cp, f4.loops.trans cl, f4.wrong.trans cw, rfl⟩
      rw [declsR, if_pos f1, f2]
      show declsR s (m + 1) st2 = _
      have hk : st2.t.kind = kOn := by rw [f3.1, ea1]; rfl
      rw [declsR, if_neg (by rw [hk]; decide)]
    · rw [if_neg hf, List.nil_append] at e0
      rw [← e0] at c2
      have c2' := c2
      rw [e1] at c2
      refine ⟨st1, 0, ?_, c2', cd, ?_, cr, cp, cl, cw, rfl⟩
      · have hk : st1.t.kind = kOn := by rw [c2.1, ea1]; rfl
        rw [declsR, if_neg (by rw [hk]; decide)]
      · rw [c3.freq]
        have := hp.freq.1
        show (0 : Int) = p.freq
        omega
  obtain ⟨st2, _, g1, g2, g3, g4, g5, g6, g7, g8, _⟩ := hfr
  -- the rules
  have g2' : Sees s st2 (tRules p p.decls.length ++ (tk kOn :: tk kMiss :: (tBlock p.decls ((missOf p.rules).getD .nil) ++ [tEnd]))) [] := by simpa [tMiss, List.append_assoc] using g2
  obtain ⟨st3, j, h1, h2, h3, h4⟩ := rules_parse hp hneed p.decls.length (m := 701) g3 g6 g7 g8 g5 (by omega) (Nat.le_refl _) g2'
  have hmW := miss_W hp
  have hmn : need ((missOf p.rules).getD .nil) ≤ 1499 := by
    have hm := hp.miss
    unfold missOf at hm ⊢
    cases hr : ruleOf p.rules (-1) with
    | none => rw [hr] at hm; cases hm
    | some b => exact hneed _ (ruleOf_mem hr)
  have h43 : st3.rules = ordRules p p.decls.length := h4.rules
  obtain ⟨k1, st4, k2, k3, k4⟩ := rule_parse (k := -1) hp.decls hmW (h4.decls.trans g3) (h4.depth.trans g6) (h4.loops.trans g7) (h4.wrong.trans g8) (by rw [h43, ruleOf_ord, if_neg (by omega)]; rfl) hmn (by rw [if_pos rfl]; exact h3)
  have hrr : rulesR s 1500 702 st2 = .ok () st4 := by
    rw [h1]
    obtain ⟨m, hm⟩ : ∃ k, 701 + 1 - j = k + 2 := ⟨700 - j, by omega⟩
    rw [hm, rulesR, if_pos k1, k2]
    show rulesR s 1500 (m + 1) st4 = _
    have hk : st4.t.kind = kEnd := k3.1
    rw [rulesR, if_neg (by rw [hk]; decide)]
  have hall : readAll s = .ok st4.t (next s st4) := by
    unfold readAll
    rw [show declsR s 702 (start s) = .ok () st2 from c1.trans g1]
    show (rulesR s 1500 702 st2).bind _ = _
    rw [hrr]
    show want s kEnd st4 = _
    unfold want
    rw [if_pos (show st4.t.kind = kEnd from k3.1)]
  rw [hall]
  have w4 : (next s st4).wrong = none := k4.wrong.trans (h4.wrong.trans g8)
  have r4 : (next s st4).rules = (normP p).rules := by
    show st4.rules = _
    rw [k4.rules]
    show st3.rules ++ _ = _
    rw [h43]
    rfl
  have d4 : (next s st4).decls = p.decls := k4.decls.trans (h4.decls.trans g3)
  have f4 : (next s st4).freq = p.freq := k4.freq.trans (h4.freq.trans g4)
  have hm := normP_miss hp
  simp only [w4, r4, d4, f4, hm]
  have hm2 := hp.miss
  cases hr : missOf p.rules with
  | none => rw [hr] at hm2; cases hm2
  | some b => rfl

/-! ## What is put in order does and says the same -/
end Go.Proofs.YtemppijblfflgaaGreatDoor.Ev
namespace Go.Proofs.YtemppijblfflgaaGreatDoor.Ev

def alnum (c : UInt8) : Bool := low c || fig c
def addIf (k last w : Bytes) (q : List Bytes) : List Bytes := if last = k then q ++ [w] else q

/-- What the loop makes of the rest of a text: the word so far; the word before it; the names. -/
def nm : Bytes → Bytes → Bytes → List Bytes → List Bytes → List Bytes × List Bytes
  | [], cur, last, q, g => if cur = [] then (q, g) else (addIf kQueue last cur q, addIf kGhost last cur g)
  | c :: r, cur, last, q, g =>
    if alnum c then nm r (cur ++ [c]) last q g
    else if cur = [] then nm r [] last q g
    else if cur = kOn then (addIf kQueue last cur q, addIf kGhost last cur g)
    else nm r [] cur (addIf kQueue last cur q) (addIf kGhost last cur g)

def declQ (l : List Decl) (k : Nat) : List Bytes := (l.filter (fun d => d.kind == k)).map (·.name)

end Go.Proofs.YtemppijblfflgaaGreatDoor.Ev
namespace Go.Proofs.YtemppijblfflgaaGreatDoor.Ev

/-- An engine's state, at all times. -/
structure EInv (p : Policy) (s : St) : Prop where
  si : SInv p s
  nov : ∀ (j : Nat) x, AtQ s j x → (declAt p.decls (j : Int)).kind ≠ 2
  inv : ∃ A ns, AInv A ns s.q

/-- The keys of some queues, one behind the other. -/
def everyP (e : Eng) (l : List Bytes) : List Int := l.flatMap fun n => (e.keys n).getD []

theorem declAt_some {l : List Decl} {i : Nat} {d : Decl} (h : l[i]? = some d) : declAt l (i : Int) = d := by
  unfold declAt; rw [Int.toNat_natCast, h]; rfl

section
variable {p : Policy} {s : St} {c : Cnt}

theorem EInv.keys_at (hp : PolW p) (h : EInv p s) {i : Nat} {d : Decl} (hd : p.decls[i]? = some d) (hk : d.kind ≠ 2) :
    (⟨p, s, c⟩ : Eng).keys d.name = some ((s.queue (i : Int)).map (·.key)) ∧ (s.queue (i : Int)).length ≤ 50 := by
  have hf := find_at hp.decls.nodup hd
  refine ⟨?_, ?_⟩
  · unfold Eng.keys
    simp only [hf]
    rw [if_neg]
    rintro (h1 | h1)
    · omega
    · rw [declAt_some hd] at h1; exact hk h1
  · obtain ⟨A, ns, hA⟩ := h.inv
    unfold St.queue
    rw [Int.toNat_natCast]
    cases hq : s.q[i]? with
    | none => simp
    | some l =>
      simp only [Option.getD_some]
      rw [hA.ent, List.getElem?_map] at hq
      cases hn : ns[i]? with
      | none => rw [hn] at hq; cases hq
      | some m =>
        rw [hn] at hq
        injection hq with hq
        rw [← hq, List.length_map]
        exact hA.fifty i m hn

theorem mem_declQ {l : List Decl} {k : Nat} {n : Bytes} : n ∈ declQ l k ↔ ∃ (i : Nat) (d : Decl), l[i]? = some d ∧ d.kind = k ∧ d.name = n := by
  unfold declQ
  constructor
  · intro h
    obtain ⟨d, h1, h2⟩ := List.mem_map.1 h
    obtain ⟨h3, h4⟩ := List.mem_filter.1 h1
    obtain ⟨i, hi⟩ := List.getElem?_of_mem h3
    exact ⟨i, d, hi, by simpa using h4, h2⟩
  · rintro ⟨i, d, h1, h2, h3⟩
    exact List.mem_map.2 ⟨d, List.mem_filter.2 ⟨List.mem_of_getElem? h1, by simpa using h2⟩, h3⟩

theorem atQ_queue {i : Nat} {x : Int} : AtQ s i x ↔ x ∈ (s.queue (i : Int)).map (·.key) := by
  unfold AtQ St.queue
  rw [Int.toNat_natCast]
  constructor
  · rintro ⟨l, h1, h2⟩
    rw [h1]; exact h2
  · intro h
    cases hq : s.q[i]? with
    | none => rw [hq] at h; simp at h
    | some l => rw [hq] at h; exact ⟨l, rfl, h⟩

theorem mem_every (hp : PolW p) (h : EInv p s) {k : Nat} (hk : k ≠ 2) (x : Int) : x ∈ everyP ⟨p, s, c⟩ (declQ p.decls k) ↔ ∃ (i : Nat) (d : Decl), p.decls[i]? = some d ∧ d.kind = k ∧ AtQ s i x := by
  unfold everyP
  rw [List.mem_flatMap]
  constructor
  · rintro ⟨n, h1, h2⟩
    obtain ⟨i, d, a, b, rfl⟩ := mem_declQ.1 h1
    rw [(h.keys_at hp a (by rw [b]; exact hk)).1] at h2
    exact ⟨i, d, a, b, atQ_queue.2 h2⟩
  · rintro ⟨i, d, a, b, h2⟩
    refine ⟨d.name, mem_declQ.2 ⟨i, d, a, b, rfl⟩, ?_⟩
    rw [(h.keys_at hp a (by rw [b]; exact hk)).1]
    exact atQ_queue.1 h2

theorem at_once {α : Type} {l : List α} (h : l.Nodup) {i j : Nat} {x : α} (hi : l[i]? = some x) (hj : l[j]? = some x) : i = j := by
  obtain ⟨h1, e1⟩ := List.getElem?_eq_some_iff.1 hi
  obtain ⟨h2, e2⟩ := List.getElem?_eq_some_iff.1 hj
  exact (List.getElem_inj h).1 (e1.trans e2.symm)

theorem EInv.once (h : EInv p s) : Once s := by
  obtain ⟨A, ns, hA⟩ := h.inv
  exact hA.once

/-- All that stand in queues and ghosts. -/
def wholeP (e : Eng) : List Int := everyP e (declQ e.p.decls 0) ++ everyP e (declQ e.p.decls 1)

theorem res_iff {l : List Decl} {i : Nat} {d : Decl} (hd : l[i]? = some d) : resident l (i : Int) = true ↔ d.kind = 0 := by
  unfold resident
  rw [declAt_some hd]
  simp

theorem AtQ.decl (h : EInv p s) {i : Nat} {x : Int} (hx : AtQ s i x) : ∃ d, p.decls[i]? = some d := by
  obtain ⟨l, h1, _⟩ := hx
  have := (List.getElem?_eq_some_iff.1 h1).1
  rw [h.si.q] at this
  exact ⟨_, List.getElem?_eq_getElem this⟩

theorem mem_whole (hp : PolW p) (h : EInv p s) (x : Int) : x ∈ wholeP ⟨p, s, c⟩ ↔ ∃ i, AtQ s i x := by
  unfold wholeP
  rw [List.mem_append, mem_every hp h (by decide), mem_every hp h (by decide)]
  constructor
  · rintro (⟨i, _, _, _, h1⟩ | ⟨i, _, _, _, h1⟩) <;> exact ⟨i, h1⟩
  · rintro ⟨i, h1⟩
    obtain ⟨d, hd⟩ := h1.decl h
    have hk := (hp.decls.each d (List.mem_of_getElem? hd)).kind
    have hn := h.nov i x h1
    rw [declAt_some hd] at hn
    have : d.kind = 0 ∨ d.kind = 1 := by omega
    rcases this with h2 | h2
    · exact .inl ⟨i, d, hd, h2, h1⟩
    · exact .inr ⟨i, d, hd, h2, h1⟩

theorem rule_blk (hp : PolW p) (k : Int) : BlkOk p.decls (ruleFor p k) := by
  unfold ruleFor
  cases h : ruleOf p.rules k with
  | none => exact trivial
  | some b => exact rule_ok hp h

/-- WHAT COMES OF A KEY, conserved. -/
theorem access_cons (hp : PolW p) (h : EInv p s) {key : Int} {hit : Bool} {gone : List Int} {e' : Eng} (ha : (⟨p, s, c⟩ : Eng).access key = .ok hit gone e') :
    e'.p = p ∧ EInv p e'.s ∧ hit = resident p.decls (whereQ s key) ∧ e'.n = cntUp c hit gone.length ∧
    (∀ k ∈ everyP ⟨p, s, c⟩ (declQ p.decls 0), k ∈ everyP e' (declQ p.decls 0) ∨ k ∈ gone) ∧
    (∀ k ∈ everyP e' (declQ p.decls 0), k ∈ everyP ⟨p, s, c⟩ (declQ p.decls 0) ∨ k = key ∨ k ∈ everyP ⟨p, s, c⟩ (declQ p.decls 1)) := by
  unfold Eng.access at ha
  simp only at ha
  split at ha
  · cases ha
  · rename_i r hr
    injection ha with h1 h2 h3
    obtain ⟨A, ns, hA⟩ := h.inv
    have hc := exec_cons hp hA h.si h.nov (rule_blk hp _) hr
    have he : EInv p r.s := ⟨hc.si, hc.nov, hc.inv⟩
    subst h3
    refine ⟨rfl, he, h1.symm, ?_, ?_, ?_⟩
    · rw [← h1, ← h2]; rfl
    · intro k hk
      obtain ⟨i, d, a1, a2, a3⟩ := (mem_every hp h (by decide) k).1 hk
      rcases hc.told i k ((res_iff a1).2 a2) a3 with ⟨j, b1, b2⟩ | b
      · left
        obtain ⟨d', hd'⟩ := b2.decl he
        exact (mem_every hp he (by decide) k).2 ⟨j, d', hd', (res_iff hd').1 b1, b2⟩
      · right; rw [← h2]; exact b
    · intro k hk
      obtain ⟨j, d', b1, b2, b3⟩ := (mem_every hp he (by decide) k).1 hk
      rcases hc.old j k b3 with rfl | ⟨i, a⟩
      · exact .inr (.inl rfl)
      · have := (mem_whole (c := c) hp h k).2 ⟨i, a⟩
        rcases List.mem_append.1 this with h5 | h5
        · exact .inl h5
        · exact .inr (.inr h5)

/-- WHO IS REMOVED IS NOWHERE. -/
theorem remove_cons (hp : PolW p) (h : EInv p s) (key : Int) :
    ((⟨p, s, c⟩ : Eng).remove key).1 = decide (key ∈ wholeP ⟨p, s, c⟩) ∧ ((⟨p, s, c⟩ : Eng).remove key).2.p = p ∧ ((⟨p, s, c⟩ : Eng).remove key).2.n = c ∧ EInv p ((⟨p, s, c⟩ : Eng).remove key).2.s ∧ (((⟨p, s, c⟩ : Eng).remove key).2.remove key).1 = false := by
  obtain ⟨A, ns, hA⟩ := h.inv
  unfold Eng.remove
  simp only
  cases hf : s.find key with
  | none =>
    simp only
    refine ⟨?_, (by first | rfl | trivial), (by first | rfl | trivial), h, by rw [hf]⟩
    have : ¬ key ∈ wholeP ⟨p, s, c⟩ := by
      rw [mem_whole hp h]
      rintro ⟨i, hi⟩
      exact find_no hf i hi
    exact (decide_eq_false this).symm
  | some x =>
    obtain ⟨k, i⟩ := x
    simp only
    obtain ⟨l, en, h1, h2, h3, _, _⟩ := find_in hf
    have hk := find_atQ hf
    have hmem : key ∈ wholeP ⟨p, s, c⟩ := (mem_whole hp h key).2 ⟨k, hk⟩
    have hA2 := out_st hA key
    obtain ⟨_, _, _, b⟩ := hA2
    rw [hf] at b
    obtain ⟨⟨ns', o1⟩, _⟩ := b
    have hnot : ∀ j, ¬ AtQ (s.out k i) j key := by
      intro j hj
      have hj' := ((out_at h1 h2 j key).1 hj)
      have := h.once.one j k key hj' hk
      subst this
      obtain ⟨m, m1, m2⟩ := hj
      have ho : s.out j i = { s with q := s.q.set j (l.eraseIdx i) } := by unfold St.out; rw [h1]; rfl
      rw [ho] at m1
      rcases get_set m1 with ⟨_, _, rfl⟩ | ⟨hne, _⟩
      · have hnd := h.once.nd j l h1
        obtain ⟨y, y1, y2⟩ := List.mem_map.1 m2
        obtain ⟨a, ha1, ha2⟩ := List.mem_eraseIdx_iff_getElem?.1 y1
        have := at_once hnd (i := a) (j := i) (x := key) (by rw [List.getElem?_map, ha2]; exact congrArg some y2) (by rw [List.getElem?_map, h2]; exact congrArg some h3)
        exact ha1 this
      · exact hne rfl
    refine ⟨(decide_eq_true hmem).symm, (by first | rfl | trivial), (by first | rfl | trivial), ⟨h.si.out k i, fun j x hx => h.nov j x ((out_at h1 h2 j x).1 hx), _, _, o1⟩, ?_⟩
    cases hf2 : (s.out k i).find key with
    | none => rfl
    | some y =>
      obtain ⟨k', i'⟩ := y
      exact absurd (find_atQ hf2) (hnot k')
end
end Go.Proofs.YtemppijblfflgaaGreatDoor.Ev
namespace Go.Proofs.YtemppijblfflgaaGreatDoor.Ev

/-- The same places, in the order of these keys. -/
def Arena.reord (A : Arena) (sk : List Int) : Arena := { A with at_ := sk.map fun k => (k, (A.idx k).getD 0) }

theorem find_map_key (f : Int → Nat) (key : Int) : ∀ (sk : List Int), ((sk.map fun k => (k, f k)).find? (fun y => y.1 == key)).map (·.2) = if key ∈ sk then some (f key) else none
  | [] => rfl
  | k :: sk => by
    by_cases h : k = key
    · subst h; simp
    · have h1 : (k == key) = false := by simpa using h
      have h2 : ¬ key = k := fun e => h e.symm
      rw [List.map_cons, List.find?_cons]
      simp only [h1]
      rw [find_map_key f key sk]
      simp [h2]

theorem reord_idx {A : Arena} {sk : List Int} (h : ∀ k, k ∈ sk ↔ (A.idx k).isSome = true) (key : Int) : (A.reord sk).idx key = A.idx key := by
  show ((sk.map fun k => (k, (A.idx k).getD 0)).find? (fun y => y.1 == key)).map (·.2) = _
  rw [find_map_key]
  cases hi : A.idx key with
  | none =>
    rw [if_neg]
    intro hm
    have := (h key).1 hm
    rw [hi] at this; cases this
  | some n =>
    rw [if_pos ((h key).2 (by rw [hi]; rfl))]
    rfl

theorem AInv.reord {A : Arena} {ns : List (List Nat)} {qs : List (List Ent)} (h : AInv A ns qs) {sk : List Int} (hs : ∀ k, k ∈ sk ↔ (A.idx k).isSome = true) (hn : sk.Nodup) : AInv (A.reord sk) ns qs := by
  have hb : (A.reord sk).Bd := ⟨h.bd.node, h.bd.ends⟩
  refine ⟨hb, h.len, h.q8, h.ends, h.dll, h.mem, h.nodup, h.fifty, h.ent, fun key n => ?_, ?_, h.free, h.freen, h.cnt, h.lb⟩
  · rw [reord_idx hs]
    exact h.idx key n
  · show ((sk.map fun k => (k, (A.idx k).getD 0)).map (·.1)).Nodup
    rw [List.map_map]
    have : ((fun x : Int × Nat => x.1) ∘ fun k => (k, (A.idx k).getD 0)) = id := by funext k; rfl
    rw [this, List.map_id]
    exact hn
end Go.Proofs.YtemppijblfflgaaGreatDoor.Ev
