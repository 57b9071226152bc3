/- Two engines in a law's loop; single calls of one. Lru, and a greater cache beside a smaller one; a variable between its bounds. No program in sight. Lru: walked. Lru: for every input the law returns true. Conditions: none. -/
import Derived.SevenTiedAt
import Derived.Test.YtemppijblfflgaaGreatDoorZb16
import Derived.Test.YtemppijblfflgaaGreatDoorZb17
set_option linter.all false
set_option linter.unusedSimpArgs false
set_option linter.unusedVariables false
namespace Go.Proofs.YtemppijblfflgaaGreatDoor.Ev
open Go Go.RowKit

theorem cat_ok {P : Program} {a b : ByteArray} (h : a.size + b.size ≤ 9223372036854775807) : ∀ W : World, (Op.stringOp .add a b).run P W = .ok (.string (a ++ b)) W := fun W => run_string_add_sum W _ _ h
theorem dig_len {n : Int} (h0 : 0 ≤ n) (h : n ≤ 99) : (digits n).length ≤ 3 := (digits_ok (n := n) h0 (by omega)).2.1

/-- The first keys of a list. -/
theorem Sl.lr_take {N : Nat → Prop} {w : World} {g cap : Nat} {m : List Int} (h : Sl N w 27 1 (.slice (some ⟨g, 0, none⟩) m.length cap) m.length (m.map encU)) {k : Nat} (hk : k ≤ m.length) : LR w (.slice (some ⟨g, 0, none⟩) k cap) (m.take k) := by
  have hl := h.lr
  rcases hl with ⟨h0, hn⟩ | ⟨g', off, c', e, a1, a2, a3, a4⟩
  · injection h0 with h0; cases h0
  · injection e with e1 e2 e3
    injection e1 with e1
    injection e1 with e1 e4 e5
    subst e1 e4 e3
    refine .inr ⟨g, 0, cap, by rw [List.length_take, Nat.min_eq_left hk], by rw [List.length_take]; omega, a2, a3, fun i x hx => ?_⟩
    have hik : i < k := by
      have := (List.getElem?_eq_some_iff.1 hx).1
      rw [List.length_take] at this
      omega
    rw [List.getElem?_take_of_lt hik] at hx
    exact a4 i x hx

section
variable {B : Nat} {ea : Nat → Addr} {S S2 : Nat → Prop} {w wr w' w1 : World} {ge g2 : Nat} {e e1 e2 : Eng} {m m2 : Nat} {v : Value} {l : List Int} {p : Policy}

theorem LoopE.of_load {x : Ending} (hk : Kept (fun b => w.heap.size ≤ b) w w1) (h : OutKL w1 p x w') : ∃ ge S, x = .returned (.pointer (some ⟨ge, 0, none⟩)) ∧ LoopE w w' S ge (Eng.new p) 0 ∧ Kept (fun b => w1.heap.size ≤ b) w1 w' ∧ ∀ b, S b → w1.heap.size ≤ b := by
  obtain ⟨ge, rfl, hk2, hE⟩ := h
  have h := LoopE.start (p := p) (hk.trans (hk2.mono (fun b hb => Nat.le_trans hk.size hb))) (hE.mono (fun b hb => ⟨Nat.le_trans hk.size hb.1, hb.2⟩))
  exact ⟨ge, _, rfl, ⟨h.kept, hE, fun b hb => ⟨Nat.le_trans hk.size hb.1, hb.2⟩, h.cnt⟩, hk2, fun b hb => hb.1⟩
theorem LoopE.mine (h : LoopE w wr S ge e m) : S ge := h.eng.mine
theorem LoopE.ge_lo (h : LoopE w wr S ge e m) : w.heap.size ≤ ge := (h.lo _ h.mine).1
/-- Another engine has turned. -/
theorem LoopE.beside (h : LoopE w wr S ge e m) (hk : Kept (fun b => b = g2 ∨ wr.heap.size ≤ b) wr w') (hn : ¬ S g2) (hg : w.heap.size ≤ g2) : LoopE w w' S ge e m :=
  ⟨h.kept.trans (hk.mono (fun b hb => hb.elim (fun e => e ▸ hg) (fun h2 => Nat.le_trans h.kept.size h2))), h.eng.kept hk (fun b hb hl h2 => h2.elim (fun e => hn (e ▸ hb)) (fun h3 => by omega)), fun b hb => ⟨(h.lo b hb).1, Nat.lt_of_lt_of_le (h.lo b hb).2 hk.size⟩, h.cnt⟩
theorem OwnL.beside (h : OwnL wr S v l) (hk : Kept (fun b => b = g2 ∨ wr.heap.size ≤ b) wr w') (hn : ∀ b, v.ownBlock = some b → b ≠ g2) : OwnL w' S v l := by
  obtain ⟨N, hs⟩ := h.sl
  exact ⟨⟨N, hs.kept hk (fun b hb h2 => h2.elim (fun e => hn b hb e) (fun h3 => by have := hs.lt hb; omega))⟩, h.far⟩

/-- The engine has turned, and what is new; it goes on with blocks of its own and new ones. -/
structure Went (w wr : World) (S S' : Nat → Prop) (ge : Nat) (e1 : Eng) (m : Nat) (w' : World) : Prop where
  loop : LoopE w w' S' ge e1 m
  kept : Kept (fun b => b = ge ∨ wr.heap.size ≤ b) wr w'
  sub : ∀ b, S' b → S b ∨ wr.heap.size ≤ b
theorem Went.own {S' : Nat → Prop} (hw : Went w wr S S' ge e1 m w') (h : OwnL wr S v l) (hm : S ge) : OwnL w' S' v l := by
  obtain ⟨N, hs⟩ := h.sl
  exact ⟨⟨N, hs.kept hw.kept (fun b hb h2 => h2.elim (fun e => h.far b hb (e ▸ hm)) (fun h3 => by have := hs.lt hb; omega))⟩, fun b hb h2 => (hw.sub b h2).elim (h.far b hb) (fun h3 => by have := hs.lt hb; omega)⟩
/-- Another engine, and a list of another's. -/
theorem Went.other {S' : Nat → Prop} (hw : Went w wr S S' ge e1 m w') (h2 : LoopE w wr S2 g2 e2 m2) (hm : S ge) (hlo : w.heap.size ≤ ge) (hd : ∀ b, S b → ¬ S2 b) : LoopE w w' S2 g2 e2 m2 ∧ ∀ b, S' b → ¬ S2 b :=
  ⟨h2.beside hw.kept (hd ge hm) hlo, fun b hb hb2 => (hw.sub b hb).elim (fun h3 => hd b h3 hb2) (fun h3 => by have := (h2.lo b hb2).2; omega)⟩

def OutTL2 (w wr : World) (S : Nat → Prop) (ge : Nat) (e1 : Eng) (m : Nat) (x : Ending) (w' : World) : Prop :=
  x = .returned (.bool true) ∧ ∃ S', Went w wr S S' ge e1 m w'

theorem ltold2_any (he : Env B ea w) (ho : ErrObj B ea w) (h : LoopE w wr S ge e m) (hm : m ≤ 4000000) {key : Int} {hit : Bool} {gone l : List Int} {q : Bytes} {vo vl : Value}
    (ha : e.access key = .ok hit gone e1) (hk : e1.keys q = some l) (hvo : LR wr vo gone) (no : ∀ b, vo.ownBlock = some b → ¬ S b) (hvl : OwnL wr S vl l) (gl : l.length ≤ 1000000000) :
    Calls Tryz.prog 19 #[.pointer (some ⟨ge, 0, none⟩), .int .u64 key, .bool hit, vo, vs q, vl] wr (OutTL2 w wr S ge e1 (m + 1)) := by
  have hmine := h.eng.mine
  obtain ⟨c1, c2, c3⟩ := access_cnt h.eng.inv.1 ha
  refine (told_any (h.env he) (h.err he ho) h.eng (fun b hb => (h.lo b hb).2) hm h.cnt ha hk hvo hvl.lr (fun b hb e => no b hb (e ▸ hmine)) (fun b hb e => hvl.far b hb (e ▸ hmine)) (by omega) gl).mono ?_
  rintro x w' ⟨rfl, hkk, S', hE, hS'⟩
  exact ⟨rfl, S', ⟨h.kept.trans (hkk.mono (fun b hb => hb.elim (fun e => e ▸ (h.lo _ hmine).1) (fun h2 => Nat.le_trans h.kept.size h2))), hE, fun b hb => ⟨(hS' b hb).1.elim (fun h2 => (h.lo b h2).1) (fun h2 => Nat.le_trans h.kept.size h2), (hS' b hb).2⟩, by rw [c1]; exact h.cnt.up hit c2⟩, hkk, fun b hb => (hS' b hb).1⟩

/-- A key has been asked for. -/
def OutLA (w wr : World) (S : Nat → Prop) (ge : Nat) (hit : Bool) (gone : List Int) (e1 : Eng) (m : Nat) (x : Ending) (w' : World) : Prop :=
  ∃ v, x = .returned (.tuple #[.bool hit, v, .int .i64 0]) ∧ ∃ S', Went w wr S S' ge e1 m w' ∧ OwnL w' S' v gone

theorem lacc_any (he : Env B ea w) (ho : ErrObj B ea w) (h : LoopE w wr S ge e m) (hm : m ≤ 4000000) {key : Int} {hit : Bool} {gone : List Int} (ha : e.access key = .ok hit gone e1) :
    Calls Tryz.prog 20 #[.pointer (some ⟨ge, 0, none⟩), .int .u64 key] wr (OutLA w wr S ge hit gone e1 (m + 1)) := by
  have hmine := h.eng.mine
  obtain ⟨c1, c2, c3⟩ := access_cnt h.eng.inv.1 ha
  have hacc := eaccess_any (h.env he) (h.err he ho) h.eng (fun b hb => (h.lo b hb).2) hm h.cnt key
  rw [ha] at hacc
  refine hacc.mono ?_
  rintro x w' ⟨hkk, v, rfl, hs, hE⟩
  refine ⟨v, rfl, _, ⟨⟨h.kept.trans (hkk.mono (fun b hb => hb.elim (fun e => e ▸ (h.lo _ hmine).1) (fun h2 => Nat.le_trans h.kept.size h2))), hE.shrink, fun b hb => ⟨hb.1.1.elim (fun h2 => (h.lo b h2).1) (fun h2 => Nat.le_trans h.kept.size h2), hb.2⟩, by rw [c1]; exact h.cnt.up hit c2⟩, hkk, fun b hb => hb.1.1⟩, ⟨⟨_, hs⟩, fun b hb h2 => h2.1.2 hb⟩⟩

/-- An error: nothing has turned. -/
def OutLE (w wr : World) (S : Nat → Prop) (ge : Nat) (k : Nat) (e : Eng) (m : Nat) (x : Ending) (w' : World) : Prop :=
  x = .returned (.tuple #[.bool false, .slice none 0 0, .int .i64 k]) ∧ ∃ S', Went w wr S S' ge e m w'

theorem lerr_any (he : Env B ea w) (ho : ErrObj B ea w) (h : LoopE w wr S ge e m) (hm : m ≤ 4000000) {key : Int} {k : Nat} (ha : e.access key = .err k) :
    Calls Tryz.prog 20 #[.pointer (some ⟨ge, 0, none⟩), .int .u64 key] wr (OutLE w wr S ge k e m) := by
  have hmine := h.eng.mine
  have hacc := eaccess_any (h.env he) (h.err he ho) h.eng (fun b hb => (h.lo b hb).2) hm h.cnt key
  rw [ha] at hacc
  refine hacc.mono ?_
  rintro x w' ⟨hkk, rfl, hE⟩
  exact ⟨rfl, S, ⟨h.kept.trans (hkk.mono (fun b hb => hb.elim (fun e => e ▸ (h.lo _ hmine).1) (fun h2 => Nat.le_trans h.kept.size h2))), hE, fun b hb => ⟨(h.lo b hb).1, Nat.lt_of_lt_of_le (h.lo b hb).2 hkk.size⟩, h.cnt⟩, hkk, fun b hb => .inl hb⟩

/-- The keys of a queue are handed out. -/
def OutLK (wr : World) (l : List Int) (x : Ending) (w' : World) : Prop :=
  ∃ v, x = .returned (.tuple #[v, .int .i64 0]) ∧ Kept (fun b => wr.heap.size ≤ b) wr w' ∧ Sl (fun b => wr.heap.size ≤ b) w' 27 1 v l.length (l.map encU)

theorem lkeys_any (h : LoopE w wr S ge e m) {q : Bytes} (hk : e.keys q = some l) : Calls Tryz.prog 21 #[.pointer (some ⟨ge, 0, none⟩), vs q] wr (OutLK wr l) := by
  have hkeys := ekeys_any h.eng q
  rw [hk] at hkeys
  refine hkeys.mono ?_
  rintro x w' ⟨h1, v, rfl, h2⟩
  exact ⟨v, rfl, h1, h2⟩
end
end Go.Proofs.YtemppijblfflgaaGreatDoor.Ev
namespace Go.Proofs.YtemppijblfflgaaGreatDoor.Ev

theorem isSome_place {l : List Int} {k : Int} : (place l k).isSome = true ↔ k ∈ l := by
  cases h : place l k with
  | none => simpa using place_none.1 h
  | some i => simpa using place_mem h

def lruOut (n : Nat) (l : List Int) (key : Int) : List Int := if (place l key).isSome then [] else missOut n l
def lruNext (n : Nat) (l : List Int) (key : Int) : List Int :=
  match place l key with
  | some i => key :: l.eraseIdx i
  | none => missNext n l key
def lruEng (n : Nat) (l : List Int) (c : Cnt) : Eng := ⟨lruPol n, ⟨[z l], [0]⟩, c⟩

theorem entAt_z {l : List Int} {i : Nat} {key : Int} (h : l[i]? = some key) : entAt (z l) i = ⟨key, 0⟩ := by
  unfold entAt z
  rw [List.getElem?_map, h]; rfl

theorem lru_access {n : Nat} (hn : 1 ≤ n) {l : List Int} (hl : l.length ≤ n) (c : Cnt) (key : Int) :
    (lruEng n l c).access key = .ok (place l key).isSome (lruOut n l key) (lruEng n (lruNext n l key) (cntUp c (place l key).isSome (lruOut n l key).length)) := by
  have hw : whereQ (lruEng n l c).s key = if (place l key).isSome then 0 else -1 := by
    unfold whereQ lruEng
    simp only [find1, z_keys]
    cases place l key <;> rfl
  cases hp : place l key with
  | some i =>
    obtain ⟨hi, hk⟩ := place_get hp
    have hx : exec (lruPol n) key (.prim (.put 0 false) .nil) ⟨⟨[z l], [0]⟩, []⟩ = .ok ⟨⟨[z (key :: l.eraseIdx i)], [0]⟩, []⟩ := by
      have hput : prim (lruPol n) key (.put 0 false) ⟨⟨[z l], [0]⟩, []⟩ = .ok ⟨⟨[z (key :: l.eraseIdx i)], [0]⟩, []⟩ := by
        unfold prim
        simp only [find1, z_keys, hp, Option.map_some]
        have e1 : entAt ((⟨[z l], [0]⟩ : St).queue ((0 : Nat) : Int)) i = ⟨key, 0⟩ := entAt_z hk
        have e2 : (⟨[z l], [0]⟩ : St).out 0 i = ⟨[z (l.eraseIdx i)], [0]⟩ := by
          show (⟨[(z l).eraseIdx i], [0]⟩ : St) = _
          rw [z_erase]
        rw [e1, e2]
        unfold comes
        rw [if_neg]
        · rfl
        · show ¬ (n : Int) ≤ ((z (l.eraseIdx i)).length : Int)
          rw [z_len, List.length_eraseIdx, if_pos hi]; omega
      unfold exec
      rw [hput]; rfl
    have e := access_eq (lruEng n l c) key _ (by rw [hw, hp]; exact hx)
    rw [hw, hp] at e
    simp only [lruOut, lruNext, hp, Option.isSome_some, if_true] at e ⊢
    exact e
  | none =>
    have hx := exec_fullEv (p := lruPol n) (l := l) hn rfl rfl hl [0] [] (fun _ => find1_none) hp
    have e := access_eq (lruEng n l c) key _ (by rw [hw, hp]; exact hx)
    rw [hw, hp] at e
    simp only [lruOut, lruNext, hp, Option.isSome_none, Bool.false_eq_true, if_false] at e ⊢
    exact e

theorem lruNext_len {n : Nat} {l : List Int} (hn : 1 ≤ n) (hl : l.length ≤ n) (key : Int) : (lruNext n l key).length ≤ n := by
  unfold lruNext
  split
  · rename_i i h
    have := (place_get h).1
    rw [List.length_cons, List.length_eraseIdx, if_pos this]; omega
  · exact missNext_len hn hl key
theorem lru_keys (n : Nat) (l : List Int) (c : Cnt) : (lruEng n l c).keys [114] = some l := by
  unfold Eng.keys lruEng
  have e : find (lruPol n).decls [114] = 0 := rfl
  simp only [e]
  rw [if_neg (by rintro (h | h) <;> simp [lruPol, declAt] at h)]
  show some ((z l).map (·.key)) = _
  rw [z_keys]
theorem lru_new (n : Nat) : Eng.new (lruPol n) = lruEng n [] ⟨0, 0, 0⟩ := rfl

theorem take_eraseIdx {l : List Int} {i n : Nat} (h : i < n) : (l.eraseIdx i).take (n - 1) = (l.take n).eraseIdx i := by
  induction l generalizing i n with
  | nil => simp
  | cons x l ih =>
    obtain ⟨n, rfl⟩ : ∃ k, n = k + 1 := ⟨n - 1, by omega⟩
    cases i with
    | zero => simp
    | succ i =>
      obtain ⟨n, rfl⟩ : ∃ k, n = k + 1 := ⟨n - 1, by omega⟩
      have := ih (i := i) (n := n + 1) (by omega)
      simp only [List.eraseIdx_cons_succ, List.take_succ_cons, Nat.add_sub_cancel] at this ⊢
      rw [this]

theorem place_take_some {l : List Int} {key : Int} {i n : Nat} (h : place l key = some i) (hi : i < n) : place (l.take n) key = some i := by
  unfold place at *
  obtain ⟨h1, h2, h3⟩ := List.findIdx?_eq_some_iff_getElem.1 h
  refine List.findIdx?_eq_some_iff_getElem.2 ⟨by rw [List.length_take]; omega, by rw [List.getElem_take]; exact h2, fun j hj => ?_⟩
  rw [List.getElem_take]
  exact h3 j hj
theorem place_take_none {l : List Int} {key : Int} {n : Nat} (h : ∀ i, place l key = some i → n ≤ i) : place (l.take n) key = none := by
  cases hx : place (l.take n) key with
  | none => rfl
  | some i =>
    exfalso
    obtain ⟨h1, h2⟩ := place_get hx
    rw [List.length_take] at h1
    unfold place at hx
    obtain ⟨g1, g2, g3⟩ := List.findIdx?_eq_some_iff_getElem.1 hx
    have : place l key = some i := by
      unfold place
      refine List.findIdx?_eq_some_iff_getElem.2 ⟨by omega, by rw [List.getElem_take] at g2; exact g2, fun j hj => ?_⟩
      have := g3 j hj
      rw [List.getElem_take] at this
      exact this
    have := h i this
    omega

/-- A greater cache holds all that a smaller one does. -/
theorem lru_incl {n : Nat} (hn : 1 ≤ n) {l m : List Int} (h : l = m.take n) (hm : m.length ≤ n + 1) (key : Int) :
    lruNext n l key = (lruNext (n + 1) m key).take n := by
  have hl : l.length = min n m.length := by rw [h, List.length_take]
  unfold lruNext
  cases hp : place m key with
  | some i =>
    obtain ⟨hi, hk⟩ := place_get hp
    by_cases hin : i < n
    · rw [h, place_take_some hp hin]
      simp only
      obtain ⟨n, rfl⟩ : ∃ k, n = k + 1 := ⟨n - 1, by omega⟩
      rw [List.take_succ_cons]
      have := take_eraseIdx (l := m) hin
      simp only [Nat.add_sub_cancel] at this
      rw [this]
    · have hie : i = n := by omega
      have hpl : place l key = none := by rw [h]; exact place_take_none (fun j hj => by rw [hp] at hj; injection hj with hj; omega)
      rw [hpl]
      simp only
      unfold missNext
      rw [if_pos (by omega)]
      obtain ⟨n, rfl⟩ : ∃ k, n = k + 1 := ⟨n - 1, by omega⟩
      rw [List.take_succ_cons, h, Nat.add_sub_cancel]
      congr 1
      have e2 : (m.take (n + 1)).eraseIdx n = m.take n := by
        rw [List.eraseIdx_eq_take_drop_succ, List.take_take, List.drop_eq_nil_of_le (by rw [List.length_take]; omega), List.append_nil]
        congr 1
        omega
      have e1 : m.eraseIdx (n + 1) = m.take (n + 1) := by
        rw [List.eraseIdx_eq_take_drop_succ, List.drop_eq_nil_of_le (by omega), List.append_nil]
      rw [e2, hie, e1, List.take_take]
      congr 1
      omega
  | none =>
    have hpl : place l key = none := by rw [h]; exact place_take_none (fun j hj => by rw [hp] at hj; cases hj)
    rw [hpl]
    simp only
    unfold missNext
    obtain ⟨n, rfl⟩ : ∃ k, n = k + 1 := ⟨n - 1, by omega⟩
    rw [List.take_succ_cons]
    congr 1
    simp only [Nat.add_sub_cancel]
    by_cases h1 : l.length = n + 1
    · rw [if_pos h1, h]
      have e2 : (m.take (n + 1)).eraseIdx n = m.take n := by
        rw [List.eraseIdx_eq_take_drop_succ, List.take_take, List.drop_eq_nil_of_le (by rw [List.length_take]; omega), List.append_nil]
        congr 1
        omega
      rw [e2]
      by_cases h2 : m.length = n + 1 + 1
      · rw [if_pos h2]
        have e1 : m.eraseIdx (n + 1) = m.take (n + 1) := by
          rw [List.eraseIdx_eq_take_drop_succ, List.drop_eq_nil_of_le (by omega), List.append_nil]
        rw [e1, List.take_take]
        congr 1
        omega
      · rw [if_neg h2]
    · rw [if_neg h1]
      have h3 : m.length ≤ n := by omega
      rw [if_neg (by omega), h, List.take_of_length_le (by omega), List.take_of_length_le h3]

/-! ## A variable between its bounds -/
def satEng (m : Nat) (l : List Int) (v : Int) (c : Cnt) : Eng := ⟨satPol m, ⟨[z l, []], [0, v]⟩, c⟩
def satNext (m : Nat) (l : List Int) (v : Int) (key : Int) : List Int × Int :=
  if (place l key).isSome then (l, max (v - 1) 0) else (missNext 50 l key, min (v + 1) m)

theorem find_sat {l v : List Int} {key : Int} : (⟨[z l, []], v⟩ : St).find key = (place l key).map (fun i => (0, i)) := by
  unfold St.find
  simp only [whereFrom, place_z]
  cases place l key <;> rfl

theorem sat_access {m : Nat} {l : List Int} {v : Int} (hl : l.length ≤ 50) (hv : 0 ≤ v ∧ v ≤ m) (c : Cnt) (key : Int) :
    ∃ hit out c', (satEng m l v c).access key = .ok hit out (satEng m (satNext m l v key).1 (satNext m l v key).2 c') := by
  have hw : whereQ (satEng m l v c).s key = if (place l key).isSome then 0 else -1 := by
    unfold whereQ satEng
    simp only [find_sat]
    cases place l key <;> rfl
  cases hp : place l key with
  | some i =>
    have hx : exec (satPol m) key (.prim (.dec 1) .nil) ⟨⟨[z l, []], [0, v]⟩, []⟩ = .ok ⟨⟨[z l, []], [0, max (v - 1) 0]⟩, []⟩ := by
      have hd : prim (satPol m) key (.dec 1) ⟨⟨[z l, []], [0, v]⟩, []⟩ = .ok ⟨⟨[z l, []], [0, max (v - 1) 0]⟩, []⟩ := by
        unfold prim
        have e0 : (⟨[z l, []], [0, v]⟩ : St).var 1 = v := rfl
        simp only [e0]
        by_cases h : 0 < v
        · rw [if_pos h]
          have : max (v - 1) 0 = v - 1 := by omega
          rw [this]; rfl
        · rw [if_neg h]
          have : max (v - 1) 0 = v := by omega
          rw [this]
      unfold exec
      rw [hd]; rfl
    have e := access_eq (satEng m l v c) key _ (by rw [hw, hp]; exact hx)
    have en : satNext m l v key = (l, max (v - 1) 0) := by unfold satNext; rw [hp]; rfl
    rw [en]
    exact ⟨_, _, _, e⟩
  | none =>
    have hx : exec (satPol m) key (.prim (.inc 1) fullEv) ⟨⟨[z l, []], [0, v]⟩, []⟩ = .ok ⟨⟨[z (missNext 50 l key), []], [0, min (v + 1) m]⟩, missOut 50 l⟩ := by
      have hd : prim (satPol m) key (.inc 1) ⟨⟨[z l, []], [0, v]⟩, []⟩ = .ok ⟨⟨[z l, []], [0, min (v + 1) m]⟩, []⟩ := by
        unfold prim
        have e0 : (⟨[z l, []], [0, v]⟩ : St).var 1 = v := rfl
        have e1 : (declAt (satPol m).decls 1).max = (m : Int) := rfl
        simp only [e0, e1]
        by_cases h : v < m
        · rw [if_pos h]
          have : min (v + 1) (m : Int) = v + 1 := by omega
          rw [this]; rfl
        · rw [if_neg h]
          have : min (v + 1) (m : Int) = v := by omega
          rw [this]
      rw [exec, hd]
      exact exec_fullEv (p := satPol m) (n := 50) (by decide) rfl rfl hl _ [[]] (fun l hl => by rw [find_sat, hl]; rfl) hp
    have e := access_eq (satEng m l v c) key _ (by rw [hw, hp]; exact hx)
    have en : satNext m l v key = (missNext 50 l key, min (v + 1) m) := by unfold satNext; rw [hp]; rfl
    rw [en]
    exact ⟨_, _, _, e⟩

theorem sat_value (m : Nat) (l : List Int) (v : Int) (c : Cnt) : (satEng m l v c).value [118] = some v := by
  unfold Eng.value satEng
  have e : find (satPol m).decls [118] = 1 := rfl
  simp only [e]
  rw [if_neg (by rintro (h | h) <;> simp [satPol, declAt] at h)]
  rfl
theorem sat_new (m : Nat) : Eng.new (satPol m) = satEng m [] 0 ⟨0, 0, 0⟩ := rfl
theorem sat_keys0 (m : Nat) (c : Cnt) : (satEng m [] 0 c).keys [114] = some [] := by
  unfold Eng.keys satEng
  have e : find (satPol m).decls [114] = 0 := rfl
  simp only [e]
  rw [if_neg (by rintro (h | h) <;> simp [satPol, declAt] at h)]
  rfl

/-- The keys so far are numbers up to i; the last that came stands first. -/
structure SatL (i : Nat) (last : Int) (l : List Int) : Prop where
  le : ∀ x ∈ l, 1 ≤ x ∧ x ≤ i
  len : l.length ≤ 50
  head : last = 0 ∨ l.head? = some last

theorem SatL.fresh {i : Nat} {last : Int} {l : List Int} (h : SatL i last l) (m : Nat) (v : Int) : satNext m l v ((i : Int) + 1) = (missNext 50 l ((i : Int) + 1), min (v + 1) m) ∧ SatL (i + 1) ((i : Int) + 1) (missNext 50 l ((i : Int) + 1)) := by
  have hp : place l ((i : Int) + 1) = none := place_none.2 (fun hx => by have := h.le _ hx; omega)
  refine ⟨by unfold satNext; rw [hp]; rfl, ?_, missNext_len (by decide) h.len _, .inr rfl⟩
  intro x hx
  unfold missNext at hx
  rcases List.mem_cons.1 hx with rfl | hx
  · omega
  · have hxl : x ∈ l := by
      split at hx
      · exact List.mem_of_mem_eraseIdx hx
      · exact hx
    have := h.le x hxl
    omega
theorem SatL.again {i : Nat} {last : Int} {l : List Int} (h : SatL i last l) (h0 : 0 < last) (m : Nat) (v : Int) : satNext m l v last = (l, max (v - 1) 0) ∧ SatL (i + 1) last l := by
  have hh : l.head? = some last := h.head.resolve_left (by omega)
  have hm : last ∈ l := List.mem_of_mem_head? hh
  refine ⟨by unfold satNext; rw [isSome_place.2 hm]; rfl, fun x hx => ?_, h.len, .inr hh⟩
  have := h.le x hx
  omega
end Go.Proofs.YtemppijblfflgaaGreatDoor.Ev
namespace Go.Proofs.YtemppijblfflgaaGreatDoor.Ev
open Go Go.RowKit

section
variable {B : Nat} {ea : Nat → Addr} {w : World}

theorem lruText (n : Int) : (⟨#[113, 117, 101, 117, 101, 32, 114, 32]⟩ : ByteArray) ++ ⟨(digits n).toArray⟩ ++ ⟨#[59, 32, 111, 110, 32, 114, 32, 123, 32, 112, 117, 116, 32, 114, 59, 32, 125, 32, 111, 110, 32, 109, 105, 115, 115, 32, 123, 32, 105, 102, 32, 102, 117, 108, 108, 32, 114, 32, 123, 32, 101, 118, 105, 99, 116, 32, 114, 59, 32, 125, 32, 112, 117, 116, 32, 114, 59, 32, 125]⟩ = ⟨(lruTxt n).toArray⟩ := by
  rw [vs_app, vs_app]
  unfold lruTxt lruT0 lruT1
  simp only [List.cons_append, List.nil_append, List.append_assoc]
theorem lruCat1 {n : Int} (h0 : 0 ≤ n) (h : n ≤ 99) : ∀ W : World, (Op.stringOp .add (⟨#[113, 117, 101, 117, 101, 32, 114, 32]⟩ : ByteArray) ⟨(digits n).toArray⟩).run Tryz.prog W = .ok (.string (⟨#[113, 117, 101, 117, 101, 32, 114, 32]⟩ ++ ⟨(digits n).toArray⟩)) W := by
  have := dig_len h0 h
  exact cat_ok (by simp only [size_vs, List.length_cons, List.length_nil]; omega)
theorem lruCat2 {n : Int} (h0 : 0 ≤ n) (h : n ≤ 99) : ∀ W : World, (Op.stringOp .add ((⟨#[113, 117, 101, 117, 101, 32, 114, 32]⟩ : ByteArray) ++ ⟨(digits n).toArray⟩) ⟨#[59, 32, 111, 110, 32, 114, 32, 123, 32, 112, 117, 116, 32, 114, 59, 32, 125, 32, 111, 110, 32, 109, 105, 115, 115, 32, 123, 32, 105, 102, 32, 102, 117, 108, 108, 32, 114, 32, 123, 32, 101, 118, 105, 99, 116, 32, 114, 59, 32, 125, 32, 112, 117, 116, 32, 114, 59, 32, 125]⟩).run Tryz.prog W = .ok (.string ((⟨#[113, 117, 101, 117, 101, 32, 114, 32]⟩ : ByteArray) ++ ⟨(digits n).toArray⟩ ++ ⟨#[59, 32, 111, 110, 32, 114, 32, 123, 32, 112, 117, 116, 32, 114, 59, 32, 125, 32, 111, 110, 32, 109, 105, 115, 115, 32, 123, 32, 105, 102, 32, 102, 117, 108, 108, 32, 114, 32, 123, 32, 101, 118, 105, 99, 116, 32, 114, 59, 32, 125, 32, 112, 117, 116, 32, 114, 59, 32, 125]⟩)) W := by
  have := dig_len h0 h
  exact cat_ok (by simp only [ByteArray.size_append, size_vs, List.length_cons, List.length_nil]; omega)

set_option maxRecDepth 100000 in
set_option maxHeartbeats 8000000 in
theorem lru_walk (he : Env B ea w) (ho : ErrObj B ea w) {vk : Value} {keys : List Int} (hk : KeysR w vk keys) (c : Int) (h1 : -9223372036854775808 ≤ c) (h2 : c ≤ 9223372036854775807) :
    Calls Tryz.prog 4 #[vk, .int .i64 c] w (TrueK w) := by
  obtain ⟨xk, ck, rfl⟩ := hk.shape
  obtain ⟨k0, hpk, hk0⟩ := pickN_nat c (n := 49) (by omega)
  have hpick := pick_any (w := w) c 49 h1 h2 (by omega) (by omega)
  have hfig := fun W => fig_any (w := W) (n := 1 + (k0 : Int)) (by omega) (by omega)
  have hfig2 := fun W => fig_any (w := W) (n := 1 + (k0 : Int) + 1) (by omega) (by omega)
  rw [hpk] at hpick
  have s1 := lruCat1 (n := 1 + (k0 : Int)) (by omega) (by omega)
  have s2 := lruCat2 (n := 1 + (k0 : Int)) (by omega) (by omega)
  have s3 := lruCat1 (n := 1 + (k0 : Int) + 1) (by omega) (by omega)
  have s4 := lruCat2 (n := 1 + (k0 : Int) + 1) (by omega) (by omega)
  have HE := Lib.hid he
  have HO := Lib.hid ho
  have HK := Lib.hid hk
  have HP := Lib.hid hpick
  have HF := Lib.hid hfig
  have HF2 := Lib.hid hfig2
  clear he ho hk hpick hfig hfig2 hpk h1 h2
  go_enter Tryz.func4, Tryz.ntmps4
  go_wp2_with fail
  refine HP.out.mono ?_
  rintro e w0 ⟨rfl, rfl⟩
  go_wp2_with fail
  refine (HF.out _).mono ?_
  rintro e w1 ⟨rfl, hk1⟩
  have hload := kload_any (HE.out.kept hk1 (fun b hb => Nat.le_trans HE.out.size hb)) (HO.out.kept hk1 (fun b hb => Nat.le_trans HE.out.size hb)) (lruRead (n := 1 + (k0 : Int)) (by omega)) (q := [114]) (lru_keys (1 + k0) [] ⟨0, 0, 0⟩)
  unfold vs at *
  rw [← lruText] at hload
  have HL := Lib.hid hload
  have K1 := Lib.hid hk1
  clear hload hk1
  go_wp2_with fail
  refine HL.out.mono ?_
  rintro e w2 hh
  obtain ⟨gx, Sx, rfl, hLx, hkx, hlx⟩ := LoopE.of_load K1.out hh
  have LX := Lib.hid hLx
  clear hLx hh HL hkx hlx K1
  go_wp2_with fail
  refine (HF2.out _).mono ?_
  rintro e w3 ⟨rfl, hk3⟩
  have hl3 := LX.out.later hk3
  have hload := kload_any (hl3.env HE.out) (hl3.err HE.out HO.out) (lruRead (n := 1 + (k0 : Int) + 1) (by omega)) (q := [114]) (lru_keys (1 + k0 + 1) [] ⟨0, 0, 0⟩)
  unfold vs at *
  rw [← lruText] at hload
  have HL := Lib.hid hload
  have L3 := Lib.hid hl3
  clear hload hk3 hl3 LX
  go_wp2_with fail
  refine HL.out.mono ?_
  rintro e w4 hh
  obtain ⟨gy, Sy, rfl, hLy, hky, hly⟩ := LoopE.of_load L3.out.kept hh
  have hLx := L3.out.later hky
  have hdis : ∀ b, Sx b → ¬ Sy b := fun b h1 h2 => by have := (L3.out.lo b h1).2; have := hly b h2; omega
  have LX := Lib.hid hLx
  have LY := Lib.hid hLy
  have DIS := Lib.hid hdis
  clear hLx hLy hdis hh HL hky hly s1 s2 s3 s4 L3
  go_wp2
  go_loopg [36, 7] keys.length (fun gg s36 s7 wr => ∃ (k : Nat) (Sx Sy : Nat → Prop) (l m : List Int) (cx cy : Cnt), k ≤ keys.length ∧ k ≤ 16384 ∧ keys.length - k ≤ gg ∧ s36 = .int .i64 k ∧ l.length ≤ 1 + k0 ∧ m.length ≤ 1 + k0 + 1 ∧ l = m.take (1 + k0) ∧
    LoopE w0 wr Sx gx (lruEng (1 + k0) l cx) k ∧ LoopE w0 wr Sy gy (lruEng (1 + k0 + 1) m cy) k ∧ (∀ b, Sx b → ¬ Sy b) ∧ OwnL wr Sx s7 l ∧ OwnL wr Sy s7 l)
  case atStart => exact ⟨0, Sx, Sy, [], [], ⟨0, 0, 0⟩, ⟨0, 0, 0⟩, Nat.zero_le _, Nat.zero_le _, by omega, rfl, Nat.zero_le _, Nat.zero_le _, List.take_nil.symm, LX.out, LY.out, DIS.out, OwnL.nil _ _, OwnL.nil _ _⟩
  case round =>
    obtain ⟨k, Sx, Sy, l, m, cx, cy, hk, hk2, hg, rfl, hl, hml, hlm, L, Y, D, O, O2⟩ := hrel
    clear LX LY DIS
    have HL := Lib.hid L
    have HY := Lib.hid Y
    have HD := Lib.hid D
    have HOL := Lib.hid O
    have HOL2 := Lib.hid O2
    have HLM := Lib.hid hlm
    clear hlm Y D O2
    by_cases hlt : k < keys.length
    · obtain ⟨key, hx⟩ : ∃ x, keys[k]? = some x := ⟨_, List.getElem?_eq_getElem hlt⟩
      obtain ⟨gk, ok, rfl, hc0, hgk, hm2⟩ := HK.out.at_ hx
      have hc := (L.kept.cell (p := ⟨gk, ok + k, none⟩) (by simp only; omega)).trans hc0
      unfold maxLen at hm2
      clear hx hc0
      by_cases hb : k = 16384
      · have e1 : ((k : Int) == 16384) = true := by simp; omega
        have e2 : decide ((k : Int) = 16384) = true := by simp; omega
        have hk3 := L.kept
        clear L O hb
        go_wp2
        go_ret
        exact ⟨rfl, hk3⟩
      · have e1 : ((k : Int) == 16384) = false := by simp; omega
        have e2 : decide ((k : Int) = 16384) = false := by simp; omega
        obtain ⟨al, cl, rfl⟩ := O.shape
        have hat := at_any O.lr (by omega) key
        have hax := lru_access (n := 1 + k0) (by omega) hl cx key
        have hln := lruNext_len (n := 1 + k0) (by omega) hl key
        have hincl := lru_incl (n := 1 + k0) (by omega) HLM.out hml key
        have hyx := lru_access (n := 1 + k0 + 1) (by omega) hml cy key
        have hyn := lruNext_len (n := 1 + k0 + 1) (by omega) hml key
        have hyk := lru_keys (1 + k0 + 1) (lruNext (1 + k0 + 1) m key)
        generalize (place m key).isSome = hity at hyx
        generalize lruOut (1 + k0 + 1) m key = outy at hyx
        generalize lruNext (1 + k0 + 1) m key = m' at hyx hyn hyk hincl
        have HYX := Lib.hid hyx
        have HYN := Lib.hid hyn
        have HYK := Lib.hid hyk
        have HINC := Lib.hid hincl
        have HLN := Lib.hid hln
        clear hyx hyn hyk hincl hln
        have HAX := Lib.hid hax
        have HAT := Lib.hid hat
        clear hax hat
        cases hp : place l key with
        | some i =>
          have ea : atI l key = (i : Int) := by unfold atI; rw [hp]
          obtain ⟨hi, _⟩ := place_get hp
          have hi0 : 0 ≤ (i : Int) := by omega
          have hwo := own_without O (by omega) (i := i) hi
          have hnx : lruNext (1 + k0) l key = key :: l.eraseIdx i := by unfold lruNext; rw [hp]
          have ha : (lruEng (1 + k0) l cx).access key = .ok true [] (lruEng (1 + k0) (key :: l.eraseIdx i) (cntUp cx true 0)) := by
            have := HAX.out
            simpa [lruOut, hnx, hp] using this
          have hle : (l.eraseIdx i).length ≤ 1000000 := by rw [List.length_eraseIdx]; split <;> omega
          have HWO := Lib.hid hwo
          have HA := Lib.hid ha
          have HLE := Lib.hid hle
          have HNX := Lib.hid hnx
          have EA := Lib.hid ea
          clear hwo ha hle hnx ea hp L O
          go_wp2_with fail
          refine HAT.out.mono ?_
          rw [EA.out]
          rintro x wx ⟨rfl, rfl⟩
          go_wp2_with fail
          refine HWO.out.mono ?_
          rintro x wy ho
          obtain ⟨vy, rfl, hoy, hLy, hky⟩ := ho.own HL.out
          have hfront := front_any hoy.lr HLE.out key
          have hYy := HY.out.later hky
          have HFRO := Lib.hid hfront
          have HLY := Lib.hid hLy
          have HYY := Lib.hid hYy
          clear ho hoy hLy hfront hky hYy
          go_wp2_with fail
          refine HFRO.out.mono ?_
          rintro x wz ho
          obtain ⟨vz, rfl, hoz, hLz, hkz⟩ := ho.own HLY.out
          obtain ⟨vz', e', hoz2, hYz, _⟩ := ho.own HYY.out
          injection e' with e'
          subst e'
          have htold := ltold2_any HE.out HO.out hLz (by omega) HA.out (lru_keys (1 + k0) _ _) (.inl ⟨rfl, rfl⟩) (fun b hb => by cases hb) hoz (by have := HLN.out; rw [HNX.out] at this; omega)
          have HTO := Lib.hid htold
          have HOZ := Lib.hid hoz
          have HOZ2 := Lib.hid hoz2
          have HLZ := Lib.hid hLz
          have HYZ := Lib.hid hYz
          clear ho hoz hLz hkz htold hYz hoz2
          go_wp2_with fail
          refine HTO.out.mono ?_
          rintro x w' ⟨rfl, S', hW⟩
          have HW := Lib.hid hW
          have hinc2 : key :: l.eraseIdx i = m'.take (1 + k0) := HNX.out.symm.trans HINC.out
          have hlen2 : (key :: l.eraseIdx i).length ≤ 1 + k0 := by have := HLN.out; rw [HNX.out] at this; exact this
          have INC2 := Lib.hid hinc2
          have LEN2 := Lib.hid hlen2
          have NE := Lib.hid (show 0 < (key :: l.eraseIdx i).length by simp)
          clear hW hinc2 hlen2 HNX HLE HWO HFRO HTO HA
          generalize key :: l.eraseIdx i = l' at *
          have hW' := HW.out
          obtain ⟨hY', hD'⟩ := hW'.other HYZ.out HLZ.out.mine HLZ.out.ge_lo HD.out
          have hO' := hW'.own HOZ.out HLZ.out.mine
          have hO2' := HOZ2.out.beside hW'.kept (fun b hb e => HOZ.out.far b hb (e ▸ HLZ.out.mine))
          have hacc := lacc_any HE.out HO.out hY' (by omega) HYX.out
          have LX' := Lib.hid hW'.loop
          have LY' := Lib.hid hY'
          have D' := Lib.hid hD'
          have O' := Lib.hid hO'
          have O2' := Lib.hid hO2'
          have HACC := Lib.hid hacc
          clear hW' hY' hD' hO' hO2' hacc
          go_wp2_with fail
          refine HACC.out.mono ?_
          rintro x w5 ⟨v5, rfl, Sy2, hWy, _⟩
          obtain ⟨hX2, hD2⟩ := hWy.other LX'.out LY'.out.mine LY'.out.ge_lo (fun b h1 h2 => D'.out b h2 h1)
          have hOy2 := hWy.own O2'.out LY'.out.mine
          have hOx2 := O'.out.beside hWy.kept (fun b hb e => O2'.out.far b hb (e ▸ LY'.out.mine))
          have hkeys := lkeys_any hWy.loop (HYK.out _)
          have LX2 := Lib.hid hX2
          have LY2 := Lib.hid hWy.loop
          have D2 := Lib.hid hD2
          have OX2 := Lib.hid hOx2
          have OY2 := Lib.hid hOy2
          have HKEY := Lib.hid hkeys
          clear hWy hX2 hD2 hOy2 hOx2 hkeys
          go_wp2_with fail
          refine HKEY.out.mono ?_
          rintro x w6 ⟨v6, rfl, hk6, hs6⟩
          have hlm : l'.length ≤ m'.length := by rw [INC2.out, List.length_take]; omega
          obtain ⟨g6, c6, rfl, hg6, hc6, hcm6, hg6l⟩ := hs6.form (by have := NE.out; omega)
          have htk : m'.take l'.length = l' := by
            have h1 := INC2.out
            have h2 : l'.length = min (1 + k0) m'.length := by rw [h1, List.length_take]
            rw [h2, ← List.take_take, List.take_length]
            exact h1.symm
          have hlr := hs6.lr_take hlm
          rw [htk] at hlr
          have hlr2 := OX2.out.lr.later hk6 (fun b hb => hb)
          have hsame := same_any hlr hlr2 (by have := LEN2.out; omega) (by have := LEN2.out; omega)
          rw [beq_self_eq_true] at hsame
          have X6 := Lib.hid (LX2.out.later hk6)
          have Y6 := Lib.hid (LY2.out.later hk6)
          have OX6 := Lib.hid (OX2.out.later hk6)
          have OY6 := Lib.hid (OY2.out.later hk6)
          have HSA := Lib.hid hsame
          have f5 : ¬ (m'.length : Int) < (l'.length : Int) := by omega
          have f6 : decide ((m'.length : Int) < (l'.length : Int)) = false := by simpa using hlm
          have f7 : (0 : Int) ≤ (l'.length : Int) := by omega
          have f8 : (l'.length : Int) ≤ (m'.length : Int) := by omega
          have f9 : (l'.length : Int) ≤ (c6 : Int) := by omega
          obtain ⟨az, cz, rfl⟩ := OX2.out.shape
          unfold maxLen at hcm6
          clear hlr hlr2 hsame hs6 hk6 htk hlm hg6
          go_wp2_with fail
          refine HSA.out.mono ?_
          rintro x w7 ⟨rfl, n7, rfl⟩
          go_wp2
          go_roundg (keys.length - (k + 1))
          case measure => omega
          case rel => exact ⟨k + 1, _, _, l', m', _, _, by omega, by omega, by omega, by go_num, LEN2.out, HYN.out, INC2.out, X6.out.drewN _, Y6.out.drewN _, fun b h1 h2 => D2.out b h2 h1, OX6.out.drewN _, OY6.out.drewN _⟩
        | none =>
          have ea : atI l key = -1 := by unfold atI; rw [hp]
          have EA := Lib.hid ea
          have hnx : lruNext (1 + k0) l key = missNext (1 + k0) l key := by unfold lruNext; rw [hp]
          by_cases hfull : l.length = 1 + k0
          · have f1 : ((l.length : Int) == 1 + (k0 : Int)) = true := by simp; omega
            have f2 : decide ((l.length : Int) = 1 + (k0 : Int)) = true := by simp; omega
            obtain ⟨gl, cl', e', hSg, hlc, hcm, hgl⟩ := O.form (by omega)
            injection e' with e3 e4 e5
            subst e3 e5
            have hcap : ¬ cl = k0 := by omega
            have hll : k0 < l.length := by omega
            have hfr := O.from_ (k := k0) (by omega) (c := cl - k0) (by omega) (by unfold maxLen at *; omega)
            have hwo := own_without O (by omega) (i := k0) (by omega)
            have ek : 1 + k0 - 1 = k0 := by omega
            have hnx2 : lruNext (1 + k0) l key = key :: l.eraseIdx k0 := by rw [hnx]; unfold missNext; rw [if_pos hfull, ek]
            have ha : (lruEng (1 + k0) l cx).access key = .ok false (l.drop k0) (lruEng (1 + k0) (key :: l.eraseIdx k0) (cntUp cx false (l.drop k0).length)) := by
              have := HAX.out
              rw [hnx2] at this
              simpa [lruOut, missOut, hp, hfull, ek] using this
            have hle : (l.eraseIdx k0).length = k0 := by rw [List.length_eraseIdx_of_lt (by omega)]; omega
            unfold maxLen at hcm
            have HFR := Lib.hid hfr
            have HWO := Lib.hid hwo
            have HA := Lib.hid ha
            have HLE := Lib.hid hle
            have HNX := Lib.hid hnx2
            clear ea hp L O hfull hfr hwo ek ha hle hnx hnx2
            have e7 : 1 + (k0 : Int) - 1 = (k0 : Int) := by omega
            go_wp2_with fail
            refine HAT.out.mono ?_
            rw [EA.out]
            rintro x wx ⟨rfl, rfl⟩
            go_wp2_with fail
            refine HWO.out.mono ?_
            rintro x wy ho
            obtain ⟨vy, rfl, hoy, hLy, hky⟩ := ho.own HL.out
            have hfront := front_any hoy.lr (by rw [HLE.out]; omega) key
            have hYy := HY.out.later hky
            have HFRO := Lib.hid hfront
            have HLY := Lib.hid hLy
            have HYY := Lib.hid hYy
            have KY := Lib.hid hky
            clear ho hoy hLy hfront hky hYy
            go_wp2_with fail
            refine HFRO.out.mono ?_
            rintro x wz ho
            obtain ⟨vz, rfl, hoz, hLz, hkz⟩ := ho.own HLY.out
            obtain ⟨vz', e', hoz2, hYz, _⟩ := ho.own HYY.out
            injection e' with e'
            subst e'
            have hfz := (HFR.out.later KY.out (fun b hb => hb)).later hkz (fun b hb => hb)
            have htold := ltold2_any HE.out HO.out hLz (by omega) HA.out (lru_keys (1 + k0) _ _) hfz (fun b hb => by injection hb with hb; exact hb ▸ hSg) hoz (by have := HLN.out; rw [HNX.out] at this; omega)
            have HTO := Lib.hid htold
            have HOZ := Lib.hid hoz
            have HOZ2 := Lib.hid hoz2
            have HLZ := Lib.hid hLz
            have HYZ := Lib.hid hYz
            clear ho hoz hLz hkz htold hYz hoz2 hfz
            go_wp2_with fail
            refine HTO.out.mono ?_
            rintro x w' ⟨rfl, S', hW⟩
            have HW := Lib.hid hW
            have hinc2 : key :: l.eraseIdx k0 = m'.take (1 + k0) := HNX.out.symm.trans HINC.out
            have hlen2 : (key :: l.eraseIdx k0).length ≤ 1 + k0 := by have := HLN.out; rw [HNX.out] at this; exact this
            have INC2 := Lib.hid hinc2
            have LEN2 := Lib.hid hlen2
            have NE := Lib.hid (show 0 < (key :: l.eraseIdx k0).length by simp)
            clear hW hinc2 hlen2 HNX HLE HWO HFRO HTO HA HFR
            generalize key :: l.eraseIdx k0 = l' at *
            have hW' := HW.out
            obtain ⟨hY', hD'⟩ := hW'.other HYZ.out HLZ.out.mine HLZ.out.ge_lo HD.out
            have hO' := hW'.own HOZ.out HLZ.out.mine
            have hO2' := HOZ2.out.beside hW'.kept (fun b hb e => HOZ.out.far b hb (e ▸ HLZ.out.mine))
            have hacc := lacc_any HE.out HO.out hY' (by omega) HYX.out
            have LX' := Lib.hid hW'.loop
            have LY' := Lib.hid hY'
            have D' := Lib.hid hD'
            have O' := Lib.hid hO'
            have O2' := Lib.hid hO2'
            have HACC := Lib.hid hacc
            clear hW' hY' hD' hO' hO2' hacc
            go_wp2_with fail
            refine HACC.out.mono ?_
            rintro x w5 ⟨v5, rfl, Sy2, hWy, _⟩
            obtain ⟨hX2, hD2⟩ := hWy.other LX'.out LY'.out.mine LY'.out.ge_lo (fun b h1 h2 => D'.out b h2 h1)
            have hOy2 := hWy.own O2'.out LY'.out.mine
            have hOx2 := O'.out.beside hWy.kept (fun b hb e => O2'.out.far b hb (e ▸ LY'.out.mine))
            have hkeys := lkeys_any hWy.loop (HYK.out _)
            have LX2 := Lib.hid hX2
            have LY2 := Lib.hid hWy.loop
            have D2 := Lib.hid hD2
            have OX2 := Lib.hid hOx2
            have OY2 := Lib.hid hOy2
            have HKEY := Lib.hid hkeys
            clear hWy hX2 hD2 hOy2 hOx2 hkeys
            go_wp2_with fail
            refine HKEY.out.mono ?_
            rintro x w6 ⟨v6, rfl, hk6, hs6⟩
            have hlm : l'.length ≤ m'.length := by rw [INC2.out, List.length_take]; omega
            obtain ⟨g6, c6, rfl, hg6, hc6, hcm6, hg6l⟩ := hs6.form (by have := NE.out; omega)
            have htk : m'.take l'.length = l' := by
              have h1 := INC2.out
              have h2 : l'.length = min (1 + k0) m'.length := by rw [h1, List.length_take]
              rw [h2, ← List.take_take, List.take_length]
              exact h1.symm
            have hlr := hs6.lr_take hlm
            rw [htk] at hlr
            have hlr2 := OX2.out.lr.later hk6 (fun b hb => hb)
            have hsame := same_any hlr hlr2 (by have := LEN2.out; omega) (by have := LEN2.out; omega)
            rw [beq_self_eq_true] at hsame
            have X6 := Lib.hid (LX2.out.later hk6)
            have Y6 := Lib.hid (LY2.out.later hk6)
            have OX6 := Lib.hid (OX2.out.later hk6)
            have OY6 := Lib.hid (OY2.out.later hk6)
            have HSA := Lib.hid hsame
            have f5 : ¬ (m'.length : Int) < (l'.length : Int) := by omega
            have f6 : decide ((m'.length : Int) < (l'.length : Int)) = false := by simpa using hlm
            have f7 : (0 : Int) ≤ (l'.length : Int) := by omega
            have f8 : (l'.length : Int) ≤ (m'.length : Int) := by omega
            have f9 : (l'.length : Int) ≤ (c6 : Int) := by omega
            obtain ⟨az, cz, rfl⟩ := OX2.out.shape
            unfold maxLen at hcm6
            clear hlr hlr2 hsame hs6 hk6 htk hlm hg6
            go_wp2_with fail
            refine HSA.out.mono ?_
            rintro x w7 ⟨rfl, n7, rfl⟩
            go_wp2
            go_roundg (keys.length - (k + 1))
            case measure => omega
            case rel => exact ⟨k + 1, _, _, l', m', _, _, by omega, by omega, by omega, by go_num, LEN2.out, HYN.out, INC2.out, X6.out.drewN _, Y6.out.drewN _, fun b h1 h2 => D2.out b h2 h1, OX6.out.drewN _, OY6.out.drewN _⟩
          · have f1 : ((l.length : Int) == 1 + (k0 : Int)) = false := by simp; omega
            have f2 : decide ((l.length : Int) = 1 + (k0 : Int)) = false := by simp; omega
            have hnx2 : lruNext (1 + k0) l key = key :: l := by rw [hnx]; unfold missNext; rw [if_neg hfull]
            have ha : (lruEng (1 + k0) l cx).access key = .ok false [] (lruEng (1 + k0) (key :: l) (cntUp cx false 0)) := by
              have := HAX.out
              rw [hnx2] at this
              simpa [lruOut, missOut, hp, hfull] using this
            have hfront := front_any O.lr (by omega) key
            have HA := Lib.hid ha
            have HFRO := Lib.hid hfront
            have HNX := Lib.hid hnx2
            clear ea hp L O hfront ha hnx hnx2
            go_wp2_with fail
            refine HAT.out.mono ?_
            rw [EA.out]
            rintro x wx ⟨rfl, rfl⟩
            go_wp2_with fail
            refine HFRO.out.mono ?_
            rintro x wz ho
            obtain ⟨vz, rfl, hoz, hLz, hkz⟩ := ho.own HL.out
            obtain ⟨vz', e', hoz2, hYz, _⟩ := ho.own HY.out
            injection e' with e'
            subst e'
            have htold := ltold2_any HE.out HO.out hLz (by omega) HA.out (lru_keys (1 + k0) _ _) (.inl ⟨rfl, rfl⟩) (fun b hb => by cases hb) hoz (by have := HLN.out; rw [HNX.out] at this; omega)
            have HTO := Lib.hid htold
            have HOZ := Lib.hid hoz
            have HOZ2 := Lib.hid hoz2
            have HLZ := Lib.hid hLz
            have HYZ := Lib.hid hYz
            clear ho hoz hLz hkz htold hYz hoz2
            go_wp2_with fail
            refine HTO.out.mono ?_
            rintro x w' ⟨rfl, S', hW⟩
            have HW := Lib.hid hW
            have hinc2 : key :: l = m'.take (1 + k0) := HNX.out.symm.trans HINC.out
            have hlen2 : (key :: l).length ≤ 1 + k0 := by have := HLN.out; rw [HNX.out] at this; exact this
            have INC2 := Lib.hid hinc2
            have LEN2 := Lib.hid hlen2
            have NE := Lib.hid (show 0 < (key :: l).length by simp)
            clear hW hinc2 hlen2 HNX HFRO HTO HA
            generalize key :: l = l' at *
            have hW' := HW.out
            obtain ⟨hY', hD'⟩ := hW'.other HYZ.out HLZ.out.mine HLZ.out.ge_lo HD.out
            have hO' := hW'.own HOZ.out HLZ.out.mine
            have hO2' := HOZ2.out.beside hW'.kept (fun b hb e => HOZ.out.far b hb (e ▸ HLZ.out.mine))
            have hacc := lacc_any HE.out HO.out hY' (by omega) HYX.out
            have LX' := Lib.hid hW'.loop
            have LY' := Lib.hid hY'
            have D' := Lib.hid hD'
            have O' := Lib.hid hO'
            have O2' := Lib.hid hO2'
            have HACC := Lib.hid hacc
            clear hW' hY' hD' hO' hO2' hacc
            go_wp2_with fail
            refine HACC.out.mono ?_
            rintro x w5 ⟨v5, rfl, Sy2, hWy, _⟩
            obtain ⟨hX2, hD2⟩ := hWy.other LX'.out LY'.out.mine LY'.out.ge_lo (fun b h1 h2 => D'.out b h2 h1)
            have hOy2 := hWy.own O2'.out LY'.out.mine
            have hOx2 := O'.out.beside hWy.kept (fun b hb e => O2'.out.far b hb (e ▸ LY'.out.mine))
            have hkeys := lkeys_any hWy.loop (HYK.out _)
            have LX2 := Lib.hid hX2
            have LY2 := Lib.hid hWy.loop
            have D2 := Lib.hid hD2
            have OX2 := Lib.hid hOx2
            have OY2 := Lib.hid hOy2
            have HKEY := Lib.hid hkeys
            clear hWy hX2 hD2 hOy2 hOx2 hkeys
            go_wp2_with fail
            refine HKEY.out.mono ?_
            rintro x w6 ⟨v6, rfl, hk6, hs6⟩
            have hlm : l'.length ≤ m'.length := by rw [INC2.out, List.length_take]; omega
            obtain ⟨g6, c6, rfl, hg6, hc6, hcm6, hg6l⟩ := hs6.form (by have := NE.out; omega)
            have htk : m'.take l'.length = l' := by
              have h1 := INC2.out
              have h2 : l'.length = min (1 + k0) m'.length := by rw [h1, List.length_take]
              rw [h2, ← List.take_take, List.take_length]
              exact h1.symm
            have hlr := hs6.lr_take hlm
            rw [htk] at hlr
            have hlr2 := OX2.out.lr.later hk6 (fun b hb => hb)
            have hsame := same_any hlr hlr2 (by have := LEN2.out; omega) (by have := LEN2.out; omega)
            rw [beq_self_eq_true] at hsame
            have X6 := Lib.hid (LX2.out.later hk6)
            have Y6 := Lib.hid (LY2.out.later hk6)
            have OX6 := Lib.hid (OX2.out.later hk6)
            have OY6 := Lib.hid (OY2.out.later hk6)
            have HSA := Lib.hid hsame
            have f5 : ¬ (m'.length : Int) < (l'.length : Int) := by omega
            have f6 : decide ((m'.length : Int) < (l'.length : Int)) = false := by simpa using hlm
            have f7 : (0 : Int) ≤ (l'.length : Int) := by omega
            have f8 : (l'.length : Int) ≤ (m'.length : Int) := by omega
            have f9 : (l'.length : Int) ≤ (c6 : Int) := by omega
            obtain ⟨az, cz, rfl⟩ := OX2.out.shape
            unfold maxLen at hcm6
            clear hlr hlr2 hsame hs6 hk6 htk hlm hg6
            go_wp2_with fail
            refine HSA.out.mono ?_
            rintro x w7 ⟨rfl, n7, rfl⟩
            go_wp2
            go_roundg (keys.length - (k + 1))
            case measure => omega
            case rel => exact ⟨k + 1, _, _, l', m', _, _, by omega, by omega, by omega, by go_num, LEN2.out, HYN.out, INC2.out, X6.out.drewN _, Y6.out.drewN _, fun b h1 h2 => D2.out b h2 h1, OX6.out.drewN _, OY6.out.drewN _⟩
    · have hk3 := L.kept
      have hke : k = keys.length := by omega
      clear L O
      subst hke
      go_wp2
      go_ret
      exact ⟨rfl, hk3⟩
end
end Go.Proofs.YtemppijblfflgaaGreatDoor.Ev
namespace Go.Proofs.YtemppijblfflgaaGreatDoor.Ev
open Go Go.ChangeShapes Go.WideShapes Go.ChangeAt Go.RowKit
open Go.ChangeMaps (open_string shut_string)

namespace lruLaw
theorem bears : Bears Rows.lruRow.laid := by
  refine ⟨?_, ?_, ?_, ?_, ?_, ?_, ?_, ?_, ?_, ?_, ?_, ?_, ?_, ?_⟩ <;> (unfold Rows.lruRow; simp only [List.mem_cons, true_or, or_true])

set_option maxRecDepth 100000 in
theorem contract (H : Type) (enc : TypeId × Value → H) (W : World) (base : Nat) (args : Array Value) (ds gs : List (DataW H)) (before : List MemPlace)
    (hval : ∀ (j : Nat) t v, Tryz.f4.params[j]? = some t → args[j]? = some v → Value.okWide Tryz.prog W .any base t v)
    (hW : DataW.Whole enc Tryz.prog Tryz.f4.params.toList Rows.lruSpec.vars false W args.toList ds gs before) (hL : laidMetH Tryz.prog Rows.lruRow.laid W) :
    Calls Tryz.prog 4 args W fun e W' => ∃ v, e = .returned v ∧ Rows.lruSpec.post enc Tryz.prog Tryz.f4 false true false false W args v W' := by
  have hW' := hW
  obtain ⟨p, q, hA0, hV, rfl, hfz, hnd⟩ := hW
  have hA : DataW.TrodAll enc Tryz.prog W 0 (fun _ => true) true Tryz.f4.params.toList args.toList ds p := hA0
  rw [Tryz.params4] at hA hval
  obtain ⟨v0, v1, d0, d1, p0, p1, rfl, rfl, rfl, h0, h1⟩ := trodAll_two hA
  obtain ⟨keys0, hk0⟩ := keysR_of Tryz.underlying22 Tryz.underlying27 (by kernel_rfl) (hval 0 22 v0 rfl rfl) h0
  obtain ⟨x1, rfl, rfl, rfl, hw1⟩ := open_int Tryz.underlying3 (hval 1 3 v1 rfl rfl) h1
  have hb1 := bounds_i64 hw1
  obtain ⟨ea, he, ho⟩ := env_of hL bears
  refine (lru_walk he ho hk0 x1 hb1.1 hb1.2).mono fun e W' ⟨h8, h9⟩ => ?_
  subst h8
  exact ⟨_, rfl, post_true laidOut_ rfl hW' (fun ds' hd => by
    obtain ⟨a0, a1, rfl⟩ : ∃ a0 a1, ds' = [a0, a1] := by
      match ds', hd with
      | [a0, a1], _ => exact ⟨a0, a1, rfl⟩
    rfl) rfl Tryz.underlying4 (by
      intro t ht
      have : t = 22 ∨ t = 3 := by
        rw [Tryz.params4] at ht
        simp at ht
        omega
      rcases this with rfl | rfl <;> exact ⟨by kernel_rfl, of_decide_eq_true (by kernel_rfl)⟩) h9⟩

theorem laid_met (os : Os) : laidMetH Tryz.prog Rows.lruRow.laid ((laidWorld os).forCall (fun _ _ => 0) ⟨#[], #[.slice none 0 0, .int .i64 0], []⟩).memory :=
  laidMetH_of_parts (LaidIn.of_run (List.range 1000) 8 (by kernel_rfl) (by kernel_rfl) (by kernel_rfl) (by kernel_rfl)).met (by kernel_rfl)

theorem witness_row (os : Os) {H : Type} (enc : TypeId × Value → H) :
    (OpenSpec.ofChange Rows.lruSpec).preRow enc Tryz.prog Tryz.f4 Rows.lruRow.domain false Rows.lruRow.laid ((laidWorld os).forCall (fun _ _ => 0) ⟨#[], #[.slice none 0 0, .int .i64 0], []⟩).memory #[.slice none 0 0, .int .i64 0] := by
  have hw : (DataW.whole enc Tryz.prog ((laidWorld os).forCall (fun _ _ => 0) ⟨#[], #[.slice none 0 0, .int .i64 0], []⟩).memory Tryz.f4.params.toList (OpenSpec.ofChange Rows.lruSpec).vars false (#[.slice none 0 0, .int .i64 0] : Array Value).toList 8).map (fun x => (x.1, x.2.1)) =
      some ([.nil, .lit (.int .i64 0)], []) := by kernel_rfl
  obtain ⟨⟨x1, x2, x3⟩, hx, hx1⟩ := Option.map_eq_some_iff.1 hw
  simp only [Prod.mk.injEq] at hx1
  obtain ⟨rfl, rfl⟩ := hx1
  exact OpenSpec.preRow_of_cond 8 hx (by kernel_rfl) (fun k hk => by cases hk) (by kernel_rfl) (laid_met os)

set_option maxRecDepth 100000 in
theorem lifted (os : Os) (started : os.Started) (H : Type) (enc : TypeId × Value → H) (F : Stop.Interp) :
    ReturnsInHanded {} Tryz.checked os 4 .any ((OpenSpec.ofChange Rows.lruSpec).preRow enc Tryz.prog Tryz.f4 Rows.lruRow.domain false Rows.lruRow.laid) (((OpenSpec.ofChange Rows.lruSpec).at F).post enc Tryz.prog Tryz.f4 false true false false) := by
  refine returnsInHanded_of_row (C := Tryz.checked) (s := OpenSpec.ofChange Rows.lruSpec) ownKnob_ started (by kernel_rfl) Tryz.func4
    (witness_row_atRef (enc := enc) (C := Tryz.checked) false (laidWorld os) #[.slice none 0 0, .int .i64 0] rfl (by kernel_rfl) (by kernel_rfl) (by kernel_rfl) (witness_row os enc)) ?_
  intro W base args ds gs before hval hW _ _ _ hL _ _
  exact contract H enc W base args ds gs before hval hW hL

theorem said : Rows.LruSaid :=
  OpenClaim.holds_of_cond 4 Tryz.f4 rfl rfl rfl rfl rfl rfl rfl ⟨rfl, rfl, rfl, rfl, rfl⟩ rfl rfl rfl rfl rfl (by kernel_rfl) Tryz.func4 (by kernel_rfl)
    (of_decide_eq_true (by kernel_rfl)) (by unfold Func.isWrapper; first | (rw [if_pos (by decide +kernel)]; kernel_rfl) | (rw [if_neg (by decide +kernel)]; exact ⟨rfl, rfl⟩))
    (fun os started H enc _ F => by rw [OpenClaim.pre_eq_preRow]; exact lifted os started H enc F)

theorem plain (f : FuncId) (fn : Func) (hf : Tryz.pinned.checked.prog.funcNamed "evictor/evictorkeep.Lru" = some f) (hfn : Tryz.pinned.checked.prog.funcs[f]? = some fn) :
    true = Tryz.pinned.checked.prog.looks [] ∧ ∀ (j : Nat) t, fn.params[j]? = some t → Tryz.pinned.checked.prog.wantsStandIn t = false := by
  obtain rfl : f = 4 := Option.some.inj ((show Tryz.prog.funcNamed "evictor/evictorkeep.Lru" = some 4 by kernel_rfl).symm.trans hf) |>.symm
  obtain rfl : fn = Tryz.f4 := (Option.some.inj (Tryz.func4.symm.trans hfn)).symm
  refine ⟨by kernel_rfl, fun j t ht => ?_⟩
  rw [Tryz.params4] at ht
  have hm := Array.mem_of_getElem? ht
  have : t = 22 ∨ t = 3 := by
    simp at hm
    omega
  rcases this with rfl | rfl
  · exact (show Tryz.prog.wantsStandIn 22 = false by kernel_rfl)
  · exact (show Tryz.prog.wantsStandIn 3 = false by kernel_rfl)

theorem proved : Rows.LruCardSaid :=
  Claim7.holds_tied_plain_at .later [] _ _ _ _ said (fun _ h => by cases h) (by kernel_rfl) (fun _ h => by cases h) lru_row_tie rfl ⟨rfl, rfl⟩ (by kernel_rfl) rfl plain (by kernel_rfl)
end lruLaw
end Go.Proofs.YtemppijblfflgaaGreatDoor.Ev
