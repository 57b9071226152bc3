/- Two engines in a law's loop; single calls of one. Lru, and a greater cache beside a smaller one; a variable between its bounds. No program in sight. Clock beside plain lists. No program in sight. Clock: walked. Clock: for every input the law returns true. Conditions: none. -/
import Derived.SevenTiedAt
import Derived.Test.YtemppijblfflgaaGreatDoorZb16
import Derived.Test.YtemppijblfflgaaGreatDoorZb17
set_option linter.all false
set_option linter.unusedSimpArgs false
set_option linter.unusedVariables false
namespace Go.Proofs.YtemppijblfflgaaGreatDoor.Ev
open Go Go.RowKit

theorem cat_ok {P : Program} {a b : ByteArray} (h : a.size + b.size ≤ 9223372036854775807) : ∀ W : World, (Op.stringOp .add a b).run P W = .ok (.string (a ++ b)) W := fun W => run_string_add_sum W _ _ h
theorem dig_len {n : Int} (h0 : 0 ≤ n) (h : n ≤ 99) : (digits n).length ≤ 3 := (digits_ok (n := n) h0 (by omega)).2.1

/-- The first keys of a list. -/
theorem Sl.lr_take {N : Nat → Prop} {w : World} {g cap : Nat} {m : List Int} (h : Sl N w 27 1 (.slice (some ⟨g, 0, none⟩) m.length cap) m.length (m.map encU)) {k : Nat} (hk : k ≤ m.length) : LR w (.slice (some ⟨g, 0, none⟩) k cap) (m.take k) := by
  have hl := h.lr
  rcases hl with ⟨h0, hn⟩ | ⟨g', off, c', e, a1, a2, a3, a4⟩
  · injection h0 with h0; cases h0
  · injection e with e1 e2 e3
    injection e1 with e1
    injection e1 with e1 e4 e5
    subst e1 e4 e3
    refine .inr ⟨g, 0, cap, by rw [List.length_take, Nat.min_eq_left hk], by rw [List.length_take]; omega, a2, a3, fun i x hx => ?_⟩
    have hik : i < k := by
      have := (List.getElem?_eq_some_iff.1 hx).1
      rw [List.length_take] at this
      omega
    rw [List.getElem?_take_of_lt hik] at hx
    exact a4 i x hx

section
variable {B : Nat} {ea : Nat → Addr} {S S2 : Nat → Prop} {w wr w' w1 : World} {ge g2 : Nat} {e e1 e2 : Eng} {m m2 : Nat} {v : Value} {l : List Int} {p : Policy}

theorem LoopE.of_load {x : Ending} (hk : Kept (fun b => w.heap.size ≤ b) w w1) (h : OutKL w1 p x w') : ∃ ge S, x = .returned (.pointer (some ⟨ge, 0, none⟩)) ∧ LoopE w w' S ge (Eng.new p) 0 ∧ Kept (fun b => w1.heap.size ≤ b) w1 w' ∧ ∀ b, S b → w1.heap.size ≤ b := by
  obtain ⟨ge, rfl, hk2, hE⟩ := h
  have h := LoopE.start (p := p) (hk.trans (hk2.mono (fun b hb => Nat.le_trans hk.size hb))) (hE.mono (fun b hb => ⟨Nat.le_trans hk.size hb.1, hb.2⟩))
  exact ⟨ge, _, rfl, ⟨h.kept, hE, fun b hb => ⟨Nat.le_trans hk.size hb.1, hb.2⟩, h.cnt⟩, hk2, fun b hb => hb.1⟩
theorem LoopE.mine (h : LoopE w wr S ge e m) : S ge := h.eng.mine
theorem LoopE.ge_lo (h : LoopE w wr S ge e m) : w.heap.size ≤ ge := (h.lo _ h.mine).1
/-- Another engine has turned. -/
theorem LoopE.beside (h : LoopE w wr S ge e m) (hk : Kept (fun b => b = g2 ∨ wr.heap.size ≤ b) wr w') (hn : ¬ S g2) (hg : w.heap.size ≤ g2) : LoopE w w' S ge e m :=
  ⟨h.kept.trans (hk.mono (fun b hb => hb.elim (fun e => e ▸ hg) (fun h2 => Nat.le_trans h.kept.size h2))), h.eng.kept hk (fun b hb hl h2 => h2.elim (fun e => hn (e ▸ hb)) (fun h3 => by omega)), fun b hb => ⟨(h.lo b hb).1, Nat.lt_of_lt_of_le (h.lo b hb).2 hk.size⟩, h.cnt⟩
theorem OwnL.beside (h : OwnL wr S v l) (hk : Kept (fun b => b = g2 ∨ wr.heap.size ≤ b) wr w') (hn : ∀ b, v.ownBlock = some b → b ≠ g2) : OwnL w' S v l := by
  obtain ⟨N, hs⟩ := h.sl
  exact ⟨⟨N, hs.kept hk (fun b hb h2 => h2.elim (fun e => hn b hb e) (fun h3 => by have := hs.lt hb; omega))⟩, h.far⟩

/-- The engine has turned, and what is new; it goes on with blocks of its own and new ones. -/
structure Went (w wr : World) (S S' : Nat → Prop) (ge : Nat) (e1 : Eng) (m : Nat) (w' : World) : Prop where
  loop : LoopE w w' S' ge e1 m
  kept : Kept (fun b => b = ge ∨ wr.heap.size ≤ b) wr w'
  sub : ∀ b, S' b → S b ∨ wr.heap.size ≤ b
theorem Went.own {S' : Nat → Prop} (hw : Went w wr S S' ge e1 m w') (h : OwnL wr S v l) (hm : S ge) : OwnL w' S' v l := by
  obtain ⟨N, hs⟩ := h.sl
  exact ⟨⟨N, hs.kept hw.kept (fun b hb h2 => h2.elim (fun e => h.far b hb (e ▸ hm)) (fun h3 => by have := hs.lt hb; omega))⟩, fun b hb h2 => (hw.sub b h2).elim (h.far b hb) (fun h3 => by have := hs.lt hb; omega)⟩
/-- Another engine, and a list of another's. -/
theorem Went.other {S' : Nat → Prop} (hw : Went w wr S S' ge e1 m w') (h2 : LoopE w wr S2 g2 e2 m2) (hm : S ge) (hlo : w.heap.size ≤ ge) (hd : ∀ b, S b → ¬ S2 b) : LoopE w w' S2 g2 e2 m2 ∧ ∀ b, S' b → ¬ S2 b :=
  ⟨h2.beside hw.kept (hd ge hm) hlo, fun b hb hb2 => (hw.sub b hb).elim (fun h3 => hd b h3 hb2) (fun h3 => by have := (h2.lo b hb2).2; omega)⟩

def OutTL2 (w wr : World) (S : Nat → Prop) (ge : Nat) (e1 : Eng) (m : Nat) (x : Ending) (w' : World) : Prop :=
  x = .returned (.bool true) ∧ ∃ S', Went w wr S S' ge e1 m w'

theorem ltold2_any (he : Env B ea w) (ho : ErrObj B ea w) (h : LoopE w wr S ge e m) (hm : m ≤ 4000000) {key : Int} {hit : Bool} {gone l : List Int} {q : Bytes} {vo vl : Value}
    (ha : e.access key = .ok hit gone e1) (hk : e1.keys q = some l) (hvo : LR wr vo gone) (no : ∀ b, vo.ownBlock = some b → ¬ S b) (hvl : OwnL wr S vl l) (gl : l.length ≤ 1000000000) :
    Calls Tryz.prog 19 #[.pointer (some ⟨ge, 0, none⟩), .int .u64 key, .bool hit, vo, vs q, vl] wr (OutTL2 w wr S ge e1 (m + 1)) := by
  have hmine := h.eng.mine
  obtain ⟨c1, c2, c3⟩ := access_cnt h.eng.inv.1 ha
  refine (told_any (h.env he) (h.err he ho) h.eng (fun b hb => (h.lo b hb).2) hm h.cnt ha hk hvo hvl.lr (fun b hb e => no b hb (e ▸ hmine)) (fun b hb e => hvl.far b hb (e ▸ hmine)) (by omega) gl).mono ?_
  rintro x w' ⟨rfl, hkk, S', hE, hS'⟩
  exact ⟨rfl, S', ⟨h.kept.trans (hkk.mono (fun b hb => hb.elim (fun e => e ▸ (h.lo _ hmine).1) (fun h2 => Nat.le_trans h.kept.size h2))), hE, fun b hb => ⟨(hS' b hb).1.elim (fun h2 => (h.lo b h2).1) (fun h2 => Nat.le_trans h.kept.size h2), (hS' b hb).2⟩, by rw [c1]; exact h.cnt.up hit c2⟩, hkk, fun b hb => (hS' b hb).1⟩

/-- A key has been asked for. -/
def OutLA (w wr : World) (S : Nat → Prop) (ge : Nat) (hit : Bool) (gone : List Int) (e1 : Eng) (m : Nat) (x : Ending) (w' : World) : Prop :=
  ∃ v, x = .returned (.tuple #[.bool hit, v, .int .i64 0]) ∧ ∃ S', Went w wr S S' ge e1 m w' ∧ OwnL w' S' v gone

theorem lacc_any (he : Env B ea w) (ho : ErrObj B ea w) (h : LoopE w wr S ge e m) (hm : m ≤ 4000000) {key : Int} {hit : Bool} {gone : List Int} (ha : e.access key = .ok hit gone e1) :
    Calls Tryz.prog 20 #[.pointer (some ⟨ge, 0, none⟩), .int .u64 key] wr (OutLA w wr S ge hit gone e1 (m + 1)) := by
  have hmine := h.eng.mine
  obtain ⟨c1, c2, c3⟩ := access_cnt h.eng.inv.1 ha
  have hacc := eaccess_any (h.env he) (h.err he ho) h.eng (fun b hb => (h.lo b hb).2) hm h.cnt key
  rw [ha] at hacc
  refine hacc.mono ?_
  rintro x w' ⟨hkk, v, rfl, hs, hE⟩
  refine ⟨v, rfl, _, ⟨⟨h.kept.trans (hkk.mono (fun b hb => hb.elim (fun e => e ▸ (h.lo _ hmine).1) (fun h2 => Nat.le_trans h.kept.size h2))), hE.shrink, fun b hb => ⟨hb.1.1.elim (fun h2 => (h.lo b h2).1) (fun h2 => Nat.le_trans h.kept.size h2), hb.2⟩, by rw [c1]; exact h.cnt.up hit c2⟩, hkk, fun b hb => hb.1.1⟩, ⟨⟨_, hs⟩, fun b hb h2 => h2.1.2 hb⟩⟩

/-- An error: nothing has turned. -/
def OutLE (w wr : World) (S : Nat → Prop) (ge : Nat) (k : Nat) (e : Eng) (m : Nat) (x : Ending) (w' : World) : Prop :=
  x = .returned (.tuple #[.bool false, .slice none 0 0, .int .i64 k]) ∧ ∃ S', Went w wr S S' ge e m w'

theorem lerr_any (he : Env B ea w) (ho : ErrObj B ea w) (h : LoopE w wr S ge e m) (hm : m ≤ 4000000) {key : Int} {k : Nat} (ha : e.access key = .err k) :
    Calls Tryz.prog 20 #[.pointer (some ⟨ge, 0, none⟩), .int .u64 key] wr (OutLE w wr S ge k e m) := by
  have hmine := h.eng.mine
  have hacc := eaccess_any (h.env he) (h.err he ho) h.eng (fun b hb => (h.lo b hb).2) hm h.cnt key
  rw [ha] at hacc
  refine hacc.mono ?_
  rintro x w' ⟨hkk, rfl, hE⟩
  exact ⟨rfl, S, ⟨h.kept.trans (hkk.mono (fun b hb => hb.elim (fun e => e ▸ (h.lo _ hmine).1) (fun h2 => Nat.le_trans h.kept.size h2))), hE, fun b hb => ⟨(h.lo b hb).1, Nat.lt_of_lt_of_le (h.lo b hb).2 hkk.size⟩, h.cnt⟩, hkk, fun b hb => .inl hb⟩

/-- The keys of a queue are handed out. -/
def OutLK (wr : World) (l : List Int) (x : Ending) (w' : World) : Prop :=
  ∃ v, x = .returned (.tuple #[v, .int .i64 0]) ∧ Kept (fun b => wr.heap.size ≤ b) wr w' ∧ Sl (fun b => wr.heap.size ≤ b) w' 27 1 v l.length (l.map encU)

theorem lkeys_any (h : LoopE w wr S ge e m) {q : Bytes} (hk : e.keys q = some l) : Calls Tryz.prog 21 #[.pointer (some ⟨ge, 0, none⟩), vs q] wr (OutLK wr l) := by
  have hkeys := ekeys_any h.eng q
  rw [hk] at hkeys
  refine hkeys.mono ?_
  rintro x w' ⟨h1, v, rfl, h2⟩
  exact ⟨v, rfl, h1, h2⟩
end
end Go.Proofs.YtemppijblfflgaaGreatDoor.Ev
namespace Go.Proofs.YtemppijblfflgaaGreatDoor.Ev

theorem isSome_place {l : List Int} {k : Int} : (place l k).isSome = true ↔ k ∈ l := by
  cases h : place l k with
  | none => simpa using place_none.1 h
  | some i => simpa using place_mem h

def lruOut (n : Nat) (l : List Int) (key : Int) : List Int := if (place l key).isSome then [] else missOut n l
def lruNext (n : Nat) (l : List Int) (key : Int) : List Int :=
  match place l key with
  | some i => key :: l.eraseIdx i
  | none => missNext n l key
def lruEng (n : Nat) (l : List Int) (c : Cnt) : Eng := ⟨lruPol n, ⟨[z l], [0]⟩, c⟩

theorem entAt_z {l : List Int} {i : Nat} {key : Int} (h : l[i]? = some key) : entAt (z l) i = ⟨key, 0⟩ := by
  unfold entAt z
  rw [List.getElem?_map, h]; rfl

theorem lru_access {n : Nat} (hn : 1 ≤ n) {l : List Int} (hl : l.length ≤ n) (c : Cnt) (key : Int) :
    (lruEng n l c).access key = .ok (place l key).isSome (lruOut n l key) (lruEng n (lruNext n l key) (cntUp c (place l key).isSome (lruOut n l key).length)) := by
  have hw : whereQ (lruEng n l c).s key = if (place l key).isSome then 0 else -1 := by
    unfold whereQ lruEng
    simp only [find1, z_keys]
    cases place l key <;> rfl
  cases hp : place l key with
  | some i =>
    obtain ⟨hi, hk⟩ := place_get hp
    have hx : exec (lruPol n) key (.prim (.put 0 false) .nil) ⟨⟨[z l], [0]⟩, []⟩ = .ok ⟨⟨[z (key :: l.eraseIdx i)], [0]⟩, []⟩ := by
      have hput : prim (lruPol n) key (.put 0 false) ⟨⟨[z l], [0]⟩, []⟩ = .ok ⟨⟨[z (key :: l.eraseIdx i)], [0]⟩, []⟩ := by
        unfold prim
        simp only [find1, z_keys, hp, Option.map_some]
        have e1 : entAt ((⟨[z l], [0]⟩ : St).queue ((0 : Nat) : Int)) i = ⟨key, 0⟩ := entAt_z hk
        have e2 : (⟨[z l], [0]⟩ : St).out 0 i = ⟨[z (l.eraseIdx i)], [0]⟩ := by
          show (⟨[(z l).eraseIdx i], [0]⟩ : St) = _
          rw [z_erase]
        rw [e1, e2]
        unfold comes
        rw [if_neg]
        · rfl
        · show ¬ (n : Int) ≤ ((z (l.eraseIdx i)).length : Int)
          rw [z_len, List.length_eraseIdx, if_pos hi]; omega
      unfold exec
      rw [hput]; rfl
    have e := access_eq (lruEng n l c) key _ (by rw [hw, hp]; exact hx)
    rw [hw, hp] at e
    simp only [lruOut, lruNext, hp, Option.isSome_some, if_true] at e ⊢
    exact e
  | none =>
    have hx := exec_fullEv (p := lruPol n) (l := l) hn rfl rfl hl [0] [] (fun _ => find1_none) hp
    have e := access_eq (lruEng n l c) key _ (by rw [hw, hp]; exact hx)
    rw [hw, hp] at e
    simp only [lruOut, lruNext, hp, Option.isSome_none, Bool.false_eq_true, if_false] at e ⊢
    exact e

theorem lruNext_len {n : Nat} {l : List Int} (hn : 1 ≤ n) (hl : l.length ≤ n) (key : Int) : (lruNext n l key).length ≤ n := by
  unfold lruNext
  split
  · rename_i i h
    have := (place_get h).1
    rw [List.length_cons, List.length_eraseIdx, if_pos this]; omega
  · exact missNext_len hn hl key
theorem lru_keys (n : Nat) (l : List Int) (c : Cnt) : (lruEng n l c).keys [114] = some l := by
  unfold Eng.keys lruEng
  have e : find (lruPol n).decls [114] = 0 := rfl
  simp only [e]
  rw [if_neg (by rintro (h | h) <;> simp [lruPol, declAt] at h)]
  show some ((z l).map (·.key)) = _
  rw [z_keys]
theorem lru_new (n : Nat) : Eng.new (lruPol n) = lruEng n [] ⟨0, 0, 0⟩ := rfl

theorem take_eraseIdx {l : List Int} {i n : Nat} (h : i < n) : (l.eraseIdx i).take (n - 1) = (l.take n).eraseIdx i := by
  induction l generalizing i n with
  | nil => simp
  | cons x l ih =>
    obtain ⟨n, rfl⟩ : ∃ k, n = k + 1 := ⟨n - 1, by omega⟩
    cases i with
    | zero => simp
    | succ i =>
      obtain ⟨n, rfl⟩ : ∃ k, n = k + 1 := ⟨n - 1, by omega⟩
      have := ih (i := i) (n := n + 1) (by omega)
      simp only [List.eraseIdx_cons_succ, List.take_succ_cons, Nat.add_sub_cancel] at this ⊢
      rw [this]

theorem place_take_some {l : List Int} {key : Int} {i n : Nat} (h : place l key = some i) (hi : i < n) : place (l.take n) key = some i := by
  unfold place at *
  obtain ⟨h1, h2, h3⟩ := List.findIdx?_eq_some_iff_getElem.1 h
  refine List.findIdx?_eq_some_iff_getElem.2 ⟨by rw [List.length_take]; omega, by rw [List.getElem_take]; exact h2, fun j hj => ?_⟩
  rw [List.getElem_take]
  exact h3 j hj
theorem place_take_none {l : List Int} {key : Int} {n : Nat} (h : ∀ i, place l key = some i → n ≤ i) : place (l.take n) key = none := by
  cases hx : place (l.take n) key with
  | none => rfl
  | some i =>
    exfalso
    obtain ⟨h1, h2⟩ := place_get hx
    rw [List.length_take] at h1
    unfold place at hx
    obtain ⟨g1, g2, g3⟩ := List.findIdx?_eq_some_iff_getElem.1 hx
    have : place l key = some i := by
      unfold place
      refine List.findIdx?_eq_some_iff_getElem.2 ⟨by omega, by rw [List.getElem_take] at g2; exact g2, fun j hj => ?_⟩
      have := g3 j hj
      rw [List.getElem_take] at this
      exact this
    have := h i this
    omega

/-- A greater cache holds all that a smaller one does. -/
theorem lru_incl {n : Nat} (hn : 1 ≤ n) {l m : List Int} (h : l = m.take n) (hm : m.length ≤ n + 1) (key : Int) :
    lruNext n l key = (lruNext (n + 1) m key).take n := by
  have hl : l.length = min n m.length := by rw [h, List.length_take]
  unfold lruNext
  cases hp : place m key with
  | some i =>
    obtain ⟨hi, hk⟩ := place_get hp
    by_cases hin : i < n
    · rw [h, place_take_some hp hin]
      simp only
      obtain ⟨n, rfl⟩ : ∃ k, n = k + 1 := ⟨n - 1, by omega⟩
      rw [List.take_succ_cons]
      have := take_eraseIdx (l := m) hin
      simp only [Nat.add_sub_cancel] at this
      rw [this]
    · have hie : i = n := by omega
      have hpl : place l key = none := by rw [h]; exact place_take_none (fun j hj => by rw [hp] at hj; injection hj with hj; omega)
      rw [hpl]
      simp only
      unfold missNext
      rw [if_pos (by omega)]
      obtain ⟨n, rfl⟩ : ∃ k, n = k + 1 := ⟨n - 1, by omega⟩
      rw [List.take_succ_cons, h, Nat.add_sub_cancel]
      congr 1
      have e2 : (m.take (n + 1)).eraseIdx n = m.take n := by
        rw [List.eraseIdx_eq_take_drop_succ, List.take_take, List.drop_eq_nil_of_le (by rw [List.length_take]; omega), List.append_nil]
        congr 1
        omega
      have e1 : m.eraseIdx (n + 1) = m.take (n + 1) := by
        rw [List.eraseIdx_eq_take_drop_succ, List.drop_eq_nil_of_le (by omega), List.append_nil]
      rw [e2, hie, e1, List.take_take]
      congr 1
      omega
  | none =>
    have hpl : place l key = none := by rw [h]; exact place_take_none (fun j hj => by rw [hp] at hj; cases hj)
    rw [hpl]
    simp only
    unfold missNext
    obtain ⟨n, rfl⟩ : ∃ k, n = k + 1 := ⟨n - 1, by omega⟩
    rw [List.take_succ_cons]
    congr 1
    simp only [Nat.add_sub_cancel]
    by_cases h1 : l.length = n + 1
    · rw [if_pos h1, h]
      have e2 : (m.take (n + 1)).eraseIdx n = m.take n := by
        rw [List.eraseIdx_eq_take_drop_succ, List.take_take, List.drop_eq_nil_of_le (by rw [List.length_take]; omega), List.append_nil]
        congr 1
        omega
      rw [e2]
      by_cases h2 : m.length = n + 1 + 1
      · rw [if_pos h2]
        have e1 : m.eraseIdx (n + 1) = m.take (n + 1) := by
          rw [List.eraseIdx_eq_take_drop_succ, List.drop_eq_nil_of_le (by omega), List.append_nil]
        rw [e1, List.take_take]
        congr 1
        omega
      · rw [if_neg h2]
    · rw [if_neg h1]
      have h3 : m.length ≤ n := by omega
      rw [if_neg (by omega), h, List.take_of_length_le (by omega), List.take_of_length_le h3]

/-! ## A variable between its bounds -/
def satEng (m : Nat) (l : List Int) (v : Int) (c : Cnt) : Eng := ⟨satPol m, ⟨[z l, []], [0, v]⟩, c⟩
def satNext (m : Nat) (l : List Int) (v : Int) (key : Int) : List Int × Int :=
  if (place l key).isSome then (l, max (v - 1) 0) else (missNext 50 l key, min (v + 1) m)

theorem find_sat {l v : List Int} {key : Int} : (⟨[z l, []], v⟩ : St).find key = (place l key).map (fun i => (0, i)) := by
  unfold St.find
  simp only [whereFrom, place_z]
  cases place l key <;> rfl

theorem sat_access {m : Nat} {l : List Int} {v : Int} (hl : l.length ≤ 50) (hv : 0 ≤ v ∧ v ≤ m) (c : Cnt) (key : Int) :
    ∃ hit out c', (satEng m l v c).access key = .ok hit out (satEng m (satNext m l v key).1 (satNext m l v key).2 c') := by
  have hw : whereQ (satEng m l v c).s key = if (place l key).isSome then 0 else -1 := by
    unfold whereQ satEng
    simp only [find_sat]
    cases place l key <;> rfl
  cases hp : place l key with
  | some i =>
    have hx : exec (satPol m) key (.prim (.dec 1) .nil) ⟨⟨[z l, []], [0, v]⟩, []⟩ = .ok ⟨⟨[z l, []], [0, max (v - 1) 0]⟩, []⟩ := by
      have hd : prim (satPol m) key (.dec 1) ⟨⟨[z l, []], [0, v]⟩, []⟩ = .ok ⟨⟨[z l, []], [0, max (v - 1) 0]⟩, []⟩ := by
        unfold prim
        have e0 : (⟨[z l, []], [0, v]⟩ : St).var 1 = v := rfl
        simp only [e0]
        by_cases h : 0 < v
        · rw [if_pos h]
          have : max (v - 1) 0 = v - 1 := by omega
          rw [this]; rfl
        · rw [if_neg h]
          have : max (v - 1) 0 = v := by omega
          rw [this]
      unfold exec
      rw [hd]; rfl
    have e := access_eq (satEng m l v c) key _ (by rw [hw, hp]; exact hx)
    have en : satNext m l v key = (l, max (v - 1) 0) := by unfold satNext; rw [hp]; rfl
    rw [en]
    exact ⟨_, _, _, e⟩
  | none =>
    have hx : exec (satPol m) key (.prim (.inc 1) fullEv) ⟨⟨[z l, []], [0, v]⟩, []⟩ = .ok ⟨⟨[z (missNext 50 l key), []], [0, min (v + 1) m]⟩, missOut 50 l⟩ := by
      have hd : prim (satPol m) key (.inc 1) ⟨⟨[z l, []], [0, v]⟩, []⟩ = .ok ⟨⟨[z l, []], [0, min (v + 1) m]⟩, []⟩ := by
        unfold prim
        have e0 : (⟨[z l, []], [0, v]⟩ : St).var 1 = v := rfl
        have e1 : (declAt (satPol m).decls 1).max = (m : Int) := rfl
        simp only [e0, e1]
        by_cases h : v < m
        · rw [if_pos h]
          have : min (v + 1) (m : Int) = v + 1 := by omega
          rw [this]; rfl
        · rw [if_neg h]
          have : min (v + 1) (m : Int) = v := by omega
          rw [this]
      rw [exec, hd]
      exact exec_fullEv (p := satPol m) (n := 50) (by decide) rfl rfl hl _ [[]] (fun l hl => by rw [find_sat, hl]; rfl) hp
    have e := access_eq (satEng m l v c) key _ (by rw [hw, hp]; exact hx)
    have en : satNext m l v key = (missNext 50 l key, min (v + 1) m) := by unfold satNext; rw [hp]; rfl
    rw [en]
    exact ⟨_, _, _, e⟩

theorem sat_value (m : Nat) (l : List Int) (v : Int) (c : Cnt) : (satEng m l v c).value [118] = some v := by
  unfold Eng.value satEng
  have e : find (satPol m).decls [118] = 1 := rfl
  simp only [e]
  rw [if_neg (by rintro (h | h) <;> simp [satPol, declAt] at h)]
  rfl
theorem sat_new (m : Nat) : Eng.new (satPol m) = satEng m [] 0 ⟨0, 0, 0⟩ := rfl
theorem sat_keys0 (m : Nat) (c : Cnt) : (satEng m [] 0 c).keys [114] = some [] := by
  unfold Eng.keys satEng
  have e : find (satPol m).decls [114] = 0 := rfl
  simp only [e]
  rw [if_neg (by rintro (h | h) <;> simp [satPol, declAt] at h)]
  rfl

/-- The keys so far are numbers up to i; the last that came stands first. -/
structure SatL (i : Nat) (last : Int) (l : List Int) : Prop where
  le : ∀ x ∈ l, 1 ≤ x ∧ x ≤ i
  len : l.length ≤ 50
  head : last = 0 ∨ l.head? = some last

theorem SatL.fresh {i : Nat} {last : Int} {l : List Int} (h : SatL i last l) (m : Nat) (v : Int) : satNext m l v ((i : Int) + 1) = (missNext 50 l ((i : Int) + 1), min (v + 1) m) ∧ SatL (i + 1) ((i : Int) + 1) (missNext 50 l ((i : Int) + 1)) := by
  have hp : place l ((i : Int) + 1) = none := place_none.2 (fun hx => by have := h.le _ hx; omega)
  refine ⟨by unfold satNext; rw [hp]; rfl, ?_, missNext_len (by decide) h.len _, .inr rfl⟩
  intro x hx
  unfold missNext at hx
  rcases List.mem_cons.1 hx with rfl | hx
  · omega
  · have hxl : x ∈ l := by
      split at hx
      · exact List.mem_of_mem_eraseIdx hx
      · exact hx
    have := h.le x hxl
    omega
theorem SatL.again {i : Nat} {last : Int} {l : List Int} (h : SatL i last l) (h0 : 0 < last) (m : Nat) (v : Int) : satNext m l v last = (l, max (v - 1) 0) ∧ SatL (i + 1) last l := by
  have hh : l.head? = some last := h.head.resolve_left (by omega)
  have hm : last ∈ l := List.mem_of_mem_head? hh
  refine ⟨by unfold satNext; rw [isSome_place.2 hm]; rfl, fun x hx => ?_, h.len, .inr hh⟩
  have := h.le x hx
  omega
end Go.Proofs.YtemppijblfflgaaGreatDoor.Ev
namespace Go.Proofs.YtemppijblfflgaaGreatDoor.Ev

/-- A key's entry: its frequency is 1, if it is warm. -/
def fq (w : List Int) (k : Int) : Ent := ⟨k, if (place w k).isSome then 1 else 0⟩
def zc (l w : List Int) : List Ent := l.map (fq w)

def spin : Nat → List Int → List Int → List Int × List Int
  | 0, l, w => (l, w)
  | k + 1, l, w => match l.getLast? with
    | none => (l, w)
    | some x => match place w x with
      | some j => spin k (x :: l.dropLast) (w.eraseIdx j)
      | none => (l, w)

def clockOut (n : Nat) (l w : List Int) (key : Int) : List Int :=
  if (place l key).isSome then [] else if l.length = n then (spin w.length l w).1.drop (n - 1) else []
def clockNext (n : Nat) (l w : List Int) (key : Int) : List Int × List Int :=
  if (place l key).isSome then (l, if (place w key).isSome then w else w ++ [key])
  else if l.length = n then (key :: (spin w.length l w).1.eraseIdx (n - 1), (spin w.length l w).2)
  else (key :: l, w)
def clockEng (n : Nat) (l w : List Int) (c : Cnt) : Eng := ⟨clockPol n, ⟨[zc l w], [0]⟩, c⟩

/-- The lists as they stand. -/
structure CInv (n : Nat) (l w : List Int) : Prop where
  len : l.length ≤ n
  nl : l.Nodup
  nw : w.Nodup
  sub : ∀ x ∈ w, x ∈ l

theorem zc_keys (l w : List Int) : (zc l w).map (·.key) = l := by simp [zc, fq, Function.comp_def]
theorem zc_len (l w : List Int) : (zc l w).length = l.length := by simp [zc]
theorem zc_congr {l w w' : List Int} (h : ∀ x ∈ l, (x ∈ w ↔ x ∈ w')) : zc l w = zc l w' := by
  unfold zc
  refine List.map_congr_left fun x hx => ?_
  unfold fq
  have : (place w x).isSome = (place w' x).isSome := by rw [Bool.eq_iff_iff, isSome_place, isSome_place]; exact h x hx
  rw [this]
theorem nodup_len_le : ∀ {a b : List Int}, a.Nodup → (∀ x ∈ a, x ∈ b) → a.length ≤ b.length
  | [], _, _, _ => Nat.zero_le _
  | x :: a, b, h, hs => by
    have h1 := List.nodup_cons.1 h
    have hx : x ∈ b := hs x (List.mem_cons_self ..)
    have ih := nodup_len_le (a := a) (b := b.erase x) h1.2 (fun y hy => by
      have hne : y ≠ x := fun e => h1.1 (e ▸ hy)
      exact (List.mem_erase_of_ne hne).2 (hs y (List.mem_cons_of_mem _ hy)))
    rw [List.length_erase_of_mem hx] at ih
    have := List.length_pos_of_mem hx
    simp only [List.length_cons]
    omega
theorem CInv.wlen {n : Nat} {l w : List Int} (h : CInv n l w) : w.length ≤ l.length := nodup_len_le h.nw h.sub

theorem mem_eraseIdx_place {w : List Int} (hw : w.Nodup) {x : Int} {j : Nat} (h : place w x = some j) (y : Int) : y ∈ w.eraseIdx j ↔ y ∈ w ∧ y ≠ x := by
  obtain ⟨hj, hx⟩ := place_get h
  have hx' : w[j] = x := by rw [List.getElem?_eq_getElem hj] at hx; injection hx
  rw [List.mem_eraseIdx_iff_getElem]
  constructor
  · rintro ⟨i, hi, hne, rfl⟩
    refine ⟨List.getElem_mem _, fun e => hne ?_⟩
    exact (List.getElem_inj hw).1 (e.trans hx'.symm)
  · rintro ⟨hm, hne⟩
    obtain ⟨i, hi, rfl⟩ := List.getElem_of_mem hm
    refine ⟨i, hi, fun e => hne ?_, rfl⟩
    subst e
    exact hx'

theorem spin_fuel : ∀ (k : Nat) (l w : List Int), w.length ≤ k → spin k l w = spin w.length l w
  | 0, l, w, h => by rw [Nat.le_zero.1 h]
  | k + 1, l, w, h => by
    cases hw : w.length with
    | zero =>
      have : w = [] := List.length_eq_zero_iff.1 hw
      subst this
      unfold spin
      cases l.getLast? with
      | none => rfl
      | some x => rfl
    | succ m =>
      unfold spin
      cases l.getLast? with
      | none => rfl
      | some x =>
        simp only
        cases hj : place w x with
        | none => rfl
        | some j =>
          have hlt := (place_get hj).1
          have e : (w.eraseIdx j).length = m := by rw [List.length_eraseIdx, if_pos hlt]; omega
          have ih := spin_fuel k (x :: l.dropLast) (w.eraseIdx j) (by omega)
          simp only
          rw [ih, e]

theorem getLast?_of_ne {l : List Int} (h : l ≠ []) : l.getLast? = some (l.getLast h) := List.getLast?_eq_some_getLast h

theorem last_mem {l : List Int} {x : Int} (h : l.getLast? = some x) : l = l.dropLast ++ [x] := by
  have hne : l ≠ [] := by intro e; rw [e] at h; cases h
  rw [getLast?_of_ne hne] at h
  injection h with h
  rw [← h, List.dropLast_concat_getLast hne]

/-- One turn keeps what holds. -/
theorem CInv.turn {n : Nat} {l w : List Int} (h : CInv n l w) {x : Int} (hx : l.getLast? = some x) {j : Nat} (hj : place w x = some j) : CInv n (x :: l.dropLast) (w.eraseIdx j) := by
  have hl := last_mem hx
  have hn := h.nl
  rw [hl] at hn
  have hn2 := List.nodup_append.1 hn
  have hxn : x ∉ l.dropLast := fun hm => hn2.2.2 x hm x (List.mem_singleton.2 rfl) rfl
  refine ⟨?_, List.nodup_cons.2 ⟨hxn, hn2.1⟩, h.nw.sublist (List.eraseIdx_sublist _ _), fun y hy => ?_⟩
  · have := congrArg List.length hl
    rw [List.length_append, List.length_singleton] at this
    rw [List.length_cons, ← this]
    exact h.len
  · have hy' := (mem_eraseIdx_place h.nw hj y).1 hy
    have := h.sub y hy'.1
    rw [hl] at this
    rcases List.mem_append.1 this with h1 | h1
    · exact List.mem_cons_of_mem _ h1
    · exact absurd (List.mem_singleton.1 h1) hy'.2

theorem spin_inv {n : Nat} : ∀ (k : Nat) {l w : List Int}, CInv n l w → CInv n (spin k l w).1 (spin k l w).2 ∧ (spin k l w).1.length = l.length ∧ (∀ y, y ∈ (spin k l w).1 ↔ y ∈ l) ∧ (∀ y ∈ (spin k l w).2, y ∈ w)
  | 0, l, w, h => ⟨h, rfl, fun _ => Iff.rfl, fun _ h => h⟩
  | k + 1, l, w, h => by
    unfold spin
    cases hx : l.getLast? with
    | none => exact ⟨h, rfl, fun _ => Iff.rfl, fun _ h => h⟩
    | some x =>
      simp only
      cases hj : place w x with
      | none => exact ⟨h, rfl, fun _ => Iff.rfl, fun _ h => h⟩
      | some j =>
        simp only
        obtain ⟨a, b, c, d⟩ := spin_inv k (h.turn hx hj)
        have hl := last_mem hx
        refine ⟨a, b.trans ?_, fun y => (c y).trans ?_, fun y hy => List.mem_of_mem_eraseIdx (d y hy)⟩
        · have := congrArg List.length hl
          rw [List.length_append, List.length_singleton] at this
          rw [List.length_cons, ← this]
        · rw [List.mem_cons]
          conv => rhs; rw [hl]
          rw [List.mem_append, List.mem_singleton, or_comm]

/-- At the end the last is not warm. -/
theorem spin_end : ∀ (k : Nat) {l w : List Int} (_ : w.length ≤ k) {x : Int}, (spin k l w).1.getLast? = some x → place (spin k l w).2 x = none
  | 0, l, w, h, x, hx => by
    have : w = [] := List.length_eq_zero_iff.1 (Nat.le_zero.1 h)
    subst this
    rfl
  | k + 1, l, w, h, x, hx => by
    unfold spin at hx ⊢
    cases hy : l.getLast? with
    | none => rw [hy] at hx; simp only at hx; rw [hy] at hx; cases hx
    | some y =>
      rw [hy] at hx
      simp only at hx ⊢
      cases hj : place w y with
      | none =>
        rw [hj] at hx
        simp only at hx ⊢
        rw [hy] at hx
        injection hx with hx
        rw [← hx]
        exact hj
      | some j =>
        rw [hj] at hx
        simp only at hx ⊢
        have hlt := (place_get hj).1
        exact spin_end k (by rw [List.length_eraseIdx, if_pos hlt]; omega) hx

/-! ## The engine -/
theorem zc_last {l w : List Int} {x : Int} (h : l.getLast? = some x) : lastEnt (zc l w) = fq w x := by
  unfold lastEnt entAt zc
  rw [List.getElem?_map, List.length_map, ← List.getLast?_eq_getElem?, h]; rfl
theorem zc_dropLast (l w : List Int) : (zc l w).dropLast = zc l.dropLast w := by
  unfold zc; rw [List.map_dropLast]

theorem find_zc (l w : List Int) (v : List Int) (key : Int) : (⟨[zc l w], v⟩ : St).find key = (place l key).map (fun i => (0, i)) := by
  rw [find1, zc_keys]

section
variable {n : Nat} {l w : List Int}

theorem clock_turn (hn : 1 ≤ n) (h : CInv n l w) {x : Int} (hx : l.getLast? = some x) {j : Nat} (hj : place w x = some j) (key : Int) (gone : List Int) :
    exec (clockPol n) key (.prim (.cool 0) (.prim (.shift 0 0 false) .nil)) ⟨⟨[zc l w], [0]⟩, gone⟩ = .ok ⟨⟨[zc (x :: l.dropLast) (w.eraseIdx j)], [0]⟩, gone⟩ := by
  have hl := last_mem hx
  have hne : l ≠ [] := by intro e; rw [e] at hx; cases hx
  have hn1 := h.nl
  rw [hl] at hn1
  have hn2 := List.nodup_append.1 hn1
  have hxn : x ∉ l.dropLast := fun hm => hn2.2.2 x hm x (List.mem_singleton.2 rfl) rfl
  have hzne : zc l w ≠ [] := by unfold zc; simpa using hne
  have hlen : l.length = l.dropLast.length + 1 := by
    have := congrArg List.length hl
    rw [List.length_append, List.length_singleton] at this
    exact this
  have ez : zc l w = zc l.dropLast w ++ [⟨x, 1⟩] := by
    conv => lhs; rw [hl]
    unfold zc
    rw [List.map_append]
    have : fq w x = ⟨x, 1⟩ := by unfold fq; rw [hj]; rfl
    rw [List.map_singleton, this]
  have hcool : prim (clockPol n) key (.cool 0) ⟨⟨[zc l w], [0]⟩, gone⟩ = .ok ⟨⟨[zc l.dropLast w ++ [⟨x, 0⟩]], [0]⟩, gone⟩ := by
    unfold prim
    have e0 : (⟨[zc l w], [0]⟩ : St).queue 0 = zc l w := rfl
    simp only [e0]
    rw [if_neg hzne, zc_last hx]
    have e1 : (fq w x).freq = 1 := by unfold fq; rw [hj]; rfl
    rw [e1, if_pos (by decide)]
    have e2 : setFreq (zc l w) ((zc l w).length - 1) (1 - 1) = zc l.dropLast w ++ [⟨x, 0⟩] := by
      have hk : entAt (zc l w) ((zc l w).length - 1) = ⟨x, 1⟩ := by
        have := zc_last (w := w) hx
        unfold lastEnt at this
        rw [this]
        unfold fq; rw [hj]; rfl
      unfold setFreq
      rw [hk]
      have e3 : (zc l w).length - 1 = (zc l.dropLast w).length := by rw [zc_len, zc_len, hlen]; rfl
      rw [e3, ez, List.set_append_right _ _ (Nat.le_refl _), Nat.sub_self]
      rfl
    rw [e2]
    rfl
  have hshift : prim (clockPol n) key (.shift 0 0 false) ⟨⟨[zc l.dropLast w ++ [⟨x, 0⟩]], [0]⟩, gone⟩ = .ok ⟨⟨[(⟨x, 0⟩ : Ent) :: zc l.dropLast w], [0]⟩, gone⟩ := by
    unfold prim
    have e0 : (⟨[zc l.dropLast w ++ [⟨x, 0⟩]], [0]⟩ : St).queue 0 = zc l.dropLast w ++ [⟨x, 0⟩] := rfl
    simp only [e0]
    rw [if_neg (by simp)]
    have e1 : lastEnt (zc l.dropLast w ++ [⟨x, 0⟩]) = ⟨x, 0⟩ := by unfold lastEnt entAt; simp
    rw [e1, List.dropLast_concat]
    unfold comes
    rw [if_neg]
    · rfl
    · show ¬ (n : Int) ≤ ((zc l.dropLast w).length : Int)
      rw [zc_len]
      have := h.len
      omega
  have ex : zc (x :: l.dropLast) (w.eraseIdx j) = (⟨x, 0⟩ : Ent) :: zc l.dropLast w := by
    show fq (w.eraseIdx j) x :: zc l.dropLast (w.eraseIdx j) = _
    congr 1
    · unfold fq
      have : (place (w.eraseIdx j) x).isSome = false := by
        rw [Bool.eq_false_iff]
        intro hs
        exact ((mem_eraseIdx_place h.nw hj x).1 (isSome_place.1 hs)).2 rfl
      rw [this]; rfl
    · refine zc_congr fun y hy => ?_
      rw [mem_eraseIdx_place h.nw hj]
      exact ⟨fun h => h.1, fun h1 => ⟨h1, fun e => hxn (e ▸ hy)⟩⟩
  rw [ex]
  unfold exec
  rw [hcool]
  simp only
  unfold exec
  rw [hshift]
  rfl

theorem clock_loop (hn : 1 ≤ n) (key : Int) (gone : List Int) : ∀ (k : Nat) {l w : List Int}, CInv n l w →
    loopN (fun s => evalCond (clockPol n).decls key s ⟨.warm 0, 0⟩) (exec (clockPol n) key (.prim (.cool 0) (.prim (.shift 0 0 false) .nil))) k ⟨⟨[zc l w], [0]⟩, gone⟩ =
      .ok ⟨⟨[zc (spin k l w).1 (spin k l w).2], [0]⟩, gone⟩
  | 0, l, w, h => rfl
  | k + 1, l, w, h => by
    unfold loopN spin
    have ec : evalCond (clockPol n).decls key (⟨[zc l w], [0]⟩ : St) ⟨.warm 0, 0⟩ = (decide (0 < (zc l w).length) && decide (0 < (lastEnt (zc l w)).freq)) := by
      show ((decide (0 < (zc l w).length) && decide (0 < (lastEnt (zc l w)).freq)) != false) = _
      simp
    rw [ec]
    cases hx : l.getLast? with
    | none =>
      have : l = [] := List.getLast?_eq_none_iff.1 hx
      subst this
      rfl
    | some x =>
      have h0 : 0 < (zc l w).length := by
        rw [zc_len]
        rcases Nat.eq_zero_or_pos l.length with h0 | h0
        · rw [List.length_eq_zero_iff.1 h0] at hx; cases hx
        · exact h0
      rw [zc_last hx]
      cases hj : place w x with
      | none =>
        have : (fq w x).freq = 0 := by unfold fq; rw [hj]; rfl
        rw [this]
        simp [hj]
      | some j =>
        have : (fq w x).freq = 1 := by unfold fq; rw [hj]; rfl
        rw [this]
        have ed : (decide (0 < (zc l w).length) && decide ((0 : Int) < 1)) = true := by simpa using h0
        rw [ed, if_pos rfl, clock_turn hn h hx hj]
        simp only [hj]
        exact clock_loop hn key gone k (h.turn hx hj)

theorem clock_access (hn : 1 ≤ n) (hn9 : n ≤ 49) (h : CInv n l w) (c : Cnt) (key : Int) :
    (clockEng n l w c).access key = .ok (place l key).isSome (clockOut n l w key) (clockEng n (clockNext n l w key).1 (clockNext n l w key).2 (cntUp c (place l key).isSome (clockOut n l w key).length)) ∧
      CInv n (clockNext n l w key).1 (clockNext n l w key).2 := by
  have hw : whereQ (clockEng n l w c).s key = if (place l key).isSome then 0 else -1 := by
    unfold whereQ clockEng
    simp only [find_zc]
    cases place l key <;> rfl
  have hres : resident (clockPol n).decls 0 = true := rfl
  cases hp : place l key with
  | some i =>
    obtain ⟨hi, hk⟩ := place_get hp
    have hq : (⟨[zc l w], [0]⟩ : St).queue ((0 : Nat) : Int) = zc l w := rfl
    have hent : entAt (zc l w) i = fq w key := by
      unfold entAt zc
      rw [List.getElem?_map, hk]; rfl
    have hx : exec (clockPol n) key (.prim .bump .nil) ⟨⟨[zc l w], [0]⟩, []⟩ = .ok ⟨⟨[zc l (if (place w key).isSome then w else w ++ [key])], [0]⟩, []⟩ := by
      have hb : prim (clockPol n) key .bump ⟨⟨[zc l w], [0]⟩, []⟩ = .ok ⟨⟨[zc l (if (place w key).isSome then w else w ++ [key])], [0]⟩, []⟩ := by
        unfold prim
        simp only [find_zc, hp, Option.map_some, hq, hent]
        cases hj : place w key with
        | some j =>
          have : (fq w key).freq = 1 := by unfold fq; rw [hj]; rfl
          rw [this, if_neg (by show ¬ (1 : Int) < 1; decide)]
          rfl
        | none =>
          have : (fq w key).freq = 0 := by unfold fq; rw [hj]; rfl
          rw [this, if_pos (by show (0 : Int) < 1; decide)]
          have e : setFreq (zc l w) i (0 + 1) = zc l (w ++ [key]) := by
            unfold setFreq
            rw [hent]
            refine List.ext_getElem? fun m => ?_
            rw [List.getElem?_set]
            unfold zc
            rw [List.getElem?_map, List.length_map]
            by_cases hm : i = m
            · subst hm
              rw [if_pos rfl, if_pos hi, List.getElem?_map, hk]
              have : (place (w ++ [key]) key).isSome = true := isSome_place.2 (by simp)
              simp [fq, this]
            · rw [if_neg hm, List.getElem?_map]
              cases hy : l[m]? with
              | none => rfl
              | some y =>
                have hyk : y ≠ key := by
                  rintro rfl
                  obtain ⟨hm1, hm2⟩ := List.getElem?_eq_some_iff.1 hy
                  obtain ⟨hi1, hi2⟩ := List.getElem?_eq_some_iff.1 hk
                  exact hm ((List.getElem_inj h.nl).1 (hi2.trans hm2.symm))
                have : (place (w ++ [key]) y).isSome = (place w y).isSome := by
                  rw [Bool.eq_iff_iff, isSome_place, isSome_place, List.mem_append, List.mem_singleton]
                  exact ⟨fun h => h.resolve_right hyk, .inl⟩
                simp [fq, this]
          rw [e]
          rfl
      unfold exec
      rw [hb]
      rfl
    have e := access_eq (clockEng n l w c) key _ (by rw [hw, hp]; exact hx)
    rw [hw, hp] at e
    simp only [clockOut, clockNext, hp, Option.isSome_some, if_true] at e ⊢
    refine ⟨e, h.len, h.nl, ?_, ?_⟩
    · split
      · exact h.nw
      · rename_i hs
        rw [List.nodup_append]
        refine ⟨h.nw, by simp, fun a ha b hb e => hs (isSome_place.2 ?_)⟩
        rw [List.mem_singleton] at hb
        rw [← hb, ← e]; exact ha
    · intro x hx2
      split at hx2
      · exact h.sub x hx2
      · rcases List.mem_append.1 hx2 with h1 | h1
        · exact h.sub x h1
        · rw [List.mem_singleton.1 h1]; exact place_mem hp
  | none =>
    have hkl := place_none.1 hp
    have hput : ∀ (m u gone : List Int), m.length < n → place m key = none → place u key = none → prim (clockPol n) key (.put 0 false) ⟨⟨[zc m u], [0]⟩, gone⟩ = .ok ⟨⟨[zc (key :: m) u], [0]⟩, gone⟩ := by
      intro m u gone hlt hpm hpu
      unfold prim
      simp only [find_zc, hpm, Option.map_none]
      unfold comes
      rw [if_neg (by show ¬ (n : Int) ≤ ((zc m u).length : Int); rw [zc_len]; omega)]
      have : zc (key :: m) u = ⟨key, 0⟩ :: zc m u := by
        show fq u key :: zc m u = _
        unfold fq; rw [hpu]; rfl
      rw [this]
      rfl
    have hfull : ∀ (m u : List Int), evalCond (clockPol n).decls key (⟨[zc m u], [0]⟩ : St) ⟨.full 0, 0⟩ = decide ((n : Int) ≤ (m.length : Int)) := by
      intro m u
      show (decide ((n : Int) ≤ ((zc m u).length : Int)) != false) = _
      rw [zc_len]
      simp
    by_cases hfl : l.length = n
    · have h50 : spin 50 l w = spin w.length l w := spin_fuel 50 l w (by have := h.wlen; omega)
      obtain ⟨i1, i2, i3, i4⟩ := spin_inv w.length h
      have iend := fun x => spin_end w.length (l := l) (w := w) (Nat.le_refl _) (x := x)
      have hlp := clock_loop hn key [] 50 h
      rw [h50] at hlp
      generalize hs : spin w.length l w = s at *
      obtain ⟨m, u⟩ := s
      simp only at i1 i2 i3 i4 iend hlp
      have hmne : m ≠ [] := by intro e; rw [e] at i2; simp at i2; omega
      have hlast := getLast?_of_ne hmne
      have hun := iend _ hlast
      obtain ⟨d1, d2⟩ := drop_last hn (i2.trans hfl) hmne
      have hev : prim (clockPol n) key (.evict 0) ⟨⟨[zc m u], [0]⟩, []⟩ = .ok ⟨⟨[zc m.dropLast u], [0]⟩, [m.getLast hmne]⟩ := by
        unfold prim
        have e0 : (⟨[zc m u], [0]⟩ : St).queue 0 = zc m u := rfl
        simp only [e0]
        rw [if_neg (by unfold zc; simpa using hmne), zc_last hlast, zc_dropLast]
        rfl
      have hku : place u key = none := place_none.2 (fun hm => hkl (h.sub _ (i4 _ hm)))
      have hkm : place m.dropLast key = none := place_none.2 (fun hm => hkl ((i3 key).1 (List.dropLast_subset m hm)))
      have hx : exec (clockPol n) key (ruleFor (clockPol n) (-1)) ⟨⟨[zc l w], [0]⟩, []⟩ = .ok ⟨⟨[zc (key :: m.dropLast) u], [0]⟩, [m.getLast hmne]⟩ := by
        show exec (clockPol n) key (.ite ⟨.full 0, 0⟩ (.rep 50 ⟨.warm 0, 0⟩ (.prim (.cool 0) (.prim (.shift 0 0 false) .nil)) (.prim (.evict 0) .nil)) false .nil (.prim (.put 0 false) .nil)) ⟨⟨[zc l w], [0]⟩, []⟩ = _
        unfold exec
        simp only [hfull]
        rw [decide_eq_true (by omega), if_pos rfl]
        have hr : exec (clockPol n) key (.rep 50 ⟨.warm 0, 0⟩ (.prim (.cool 0) (.prim (.shift 0 0 false) .nil)) (.prim (.evict 0) .nil)) ⟨⟨[zc l w], [0]⟩, []⟩ = .ok ⟨⟨[zc m.dropLast u], [0]⟩, [m.getLast hmne]⟩ := by
          rw [exec]
          rw [show (50 : Int).toNat = 50 from rfl, hlp]
          simp only
          rw [exec, hev]
          rfl
        rw [hr]
        simp only
        unfold exec
        rw [hput _ _ _ (by rw [List.length_dropLast]; omega) hkm hku]
        rfl
      have e := access_eq (clockEng n l w c) key _ (by rw [hw, hp]; exact hx)
      rw [hw, hp] at e
      have eo : clockOut n l w key = [m.getLast hmne] := by
        unfold clockOut
        rw [hp, hs, if_neg (by decide), if_pos hfl]
        exact d1
      have en : clockNext n l w key = (key :: m.dropLast, u) := by
        unfold clockNext
        rw [hp, hs, if_neg (by decide), if_pos hfl]
        simp only [d2]
      rw [eo, en]
      simp only [Option.isSome_none, Bool.false_eq_true, if_false] at e ⊢
      refine ⟨e, ?_, ?_, i1.nw, ?_⟩
      · rw [List.length_cons, List.length_dropLast]; omega
      · exact List.nodup_cons.2 ⟨place_none.1 hkm, i1.nl.sublist (List.dropLast_sublist m)⟩
      · intro x hx
        have hxm := i1.sub x hx
        rw [last_mem hlast] at hxm
        rcases List.mem_append.1 hxm with h1 | h1
        · exact List.mem_cons_of_mem _ h1
        · rw [List.mem_singleton] at h1
          exact absurd (h1 ▸ hx) (place_none.1 hun)
    · have hku : place w key = none := place_none.2 (fun hm => hkl (h.sub _ hm))
      have hx : exec (clockPol n) key (ruleFor (clockPol n) (-1)) ⟨⟨[zc l w], [0]⟩, []⟩ = .ok ⟨⟨[zc (key :: l) w], [0]⟩, []⟩ := by
        show exec (clockPol n) key (.ite ⟨.full 0, 0⟩ (.rep 50 ⟨.warm 0, 0⟩ (.prim (.cool 0) (.prim (.shift 0 0 false) .nil)) (.prim (.evict 0) .nil)) false .nil (.prim (.put 0 false) .nil)) ⟨⟨[zc l w], [0]⟩, []⟩ = _
        unfold exec
        simp only [hfull]
        have hlt := h.len
        rw [decide_eq_false (by omega), if_neg (by decide), if_neg (by decide)]
        simp only
        unfold exec
        rw [hput _ _ _ (by omega) hp hku]
        rfl
      have e := access_eq (clockEng n l w c) key _ (by rw [hw, hp]; exact hx)
      rw [hw, hp] at e
      have eo : clockOut n l w key = [] := by
        unfold clockOut
        rw [hp, if_neg (by decide), if_neg hfl]
      have en : clockNext n l w key = (key :: l, w) := by
        unfold clockNext
        rw [hp, if_neg (by decide), if_neg hfl]
      rw [eo, en]
      simp only [Option.isSome_none, Bool.false_eq_true, if_false] at e ⊢
      have hlt := h.len
      exact ⟨e, by rw [List.length_cons]; omega, List.nodup_cons.2 ⟨hkl, h.nl⟩, h.nw, fun x hx => List.mem_cons_of_mem _ (h.sub x hx)⟩

theorem clock_keys (c : Cnt) : (clockEng n l w c).keys [114] = some l := by
  unfold Eng.keys clockEng
  have e : find (clockPol n).decls [114] = 0 := rfl
  simp only [e]
  rw [if_neg (by rintro (h | h) <;> simp [clockPol, declAt] at h)]
  show some ((zc l w).map (·.key)) = _
  rw [zc_keys]
end
theorem clock_new (n : Nat) : Eng.new (clockPol n) = clockEng n [] [] ⟨0, 0, 0⟩ := rfl
end Go.Proofs.YtemppijblfflgaaGreatDoor.Ev
namespace Go.Proofs.YtemppijblfflgaaGreatDoor.Ev
open Go Go.RowKit

/-- In other blocks. -/
def ApartV (u v : Value) : Prop := ∀ b, u.ownBlock = some b → v.ownBlock ≠ some b
/-- The text, as the code writes it. -/
def clockB : ByteArray := ⟨#[59, 32, 102, 114, 101, 113, 32, 49, 59, 32, 111, 110, 32, 114, 32, 123, 32, 98, 117, 109, 112, 59, 32, 125, 32, 111, 110, 32, 109, 105, 115, 115, 32, 123, 32, 105, 102, 32, 102, 117, 108, 108, 32, 114, 32, 123, 32, 114, 101, 112, 101, 97, 116, 32, 53, 48, 32, 119, 104, 105, 108, 101, 32, 119, 97, 114, 109, 32, 114, 32, 123, 32, 99, 111, 111, 108, 32, 114, 59, 32, 115, 104, 105, 102, 116, 32, 114, 32, 114, 59, 32, 125, 32, 101, 118, 105, 99, 116, 32, 114, 59, 32, 125, 32, 112, 117, 116, 32, 114, 59, 32, 125]⟩
/-- What is none of the engine's has turned. -/
theorem LoopE.kept_ {w wr w' : World} {S T : Nat → Prop} {ge m : Nat} {e : Eng} (h : LoopE w wr S ge e m) (hk : Kept T wr w') (hT : ∀ b, S b → ¬ T b) (hlo : ∀ b, T b → w.heap.size ≤ b) : LoopE w w' S ge e m :=
  ⟨h.kept.trans (hk.mono hlo), h.eng.kept hk (fun b hb _ => hT b hb), fun b hb => ⟨(h.lo b hb).1, Nat.lt_of_lt_of_le (h.lo b hb).2 hk.size⟩, h.cnt⟩

section
variable {B : Nat} {ea : Nat → Addr} {w : World}

theorem clockText (n : Int) : (⟨#[113, 117, 101, 117, 101, 32, 114, 32]⟩ : ByteArray) ++ ⟨(digits n).toArray⟩ ++ clockB = ⟨(clockTxt n).toArray⟩ := by
  unfold clockB
  rw [vs_app, vs_app]
  unfold clockTxt clockT0 clockT1
  simp only [List.cons_append, List.nil_append, List.append_assoc]

set_option maxRecDepth 100000 in
set_option maxHeartbeats 8000000 in
theorem clock_walk (he : Env B ea w) (ho : ErrObj B ea w) {vk : Value} {keys : List Int} (hk : KeysR w vk keys) (c : Int) (h1 : -9223372036854775808 ≤ c) (h2 : c ≤ 9223372036854775807) :
    Calls Tryz.prog 6 #[vk, .int .i64 c] w (TrueK w) := by
  obtain ⟨xk, ck, rfl⟩ := hk.shape
  obtain ⟨k0, hpk, hk0⟩ := pickN_nat c (n := 49) (by omega)
  have hpick := pick_any (w := w) c 49 h1 h2 (by omega) (by omega)
  have hfig := fun W => fig_any (w := W) (n := 1 + (k0 : Int)) (by omega) (by omega)
  rw [hpk] at hpick
  have hd3 := dig_len (n := 1 + (k0 : Int)) (by omega) (by omega)
  have HE := Lib.hid he
  have HO := Lib.hid ho
  have HK := Lib.hid hk
  have HP := Lib.hid hpick
  have HF := Lib.hid hfig
  clear he ho hk hpick hfig hpk h1 h2
  go_enter Tryz.func6, Tryz.ntmps6
  go_wp2_with fail
  refine HP.out.mono ?_
  rintro e w0 ⟨rfl, rfl⟩
  go_wp2_with fail
  refine (HF.out _).mono ?_
  rintro e w1 ⟨rfl, hk1⟩
  have hload := kload_any (HE.out.kept hk1 (fun b hb => Nat.le_trans HE.out.size hb)) (HO.out.kept hk1 (fun b hb => Nat.le_trans HE.out.size hb)) (clockRead (n := 1 + (k0 : Int)) (by omega)) (q := [114]) (clock_keys (n := 1 + k0) (l := []) (w := []) ⟨0, 0, 0⟩)
  unfold vs at *
  rw [← clockText] at hload
  have HL := Lib.hid hload
  have K1 := Lib.hid hk1
  clear hload hk1
  go_wp2_with fail
  refine HL.out.mono ?_
  rintro e w2 hh
  obtain ⟨ge, S0, rfl, hL0, _, _⟩ := LoopE.of_load K1.out hh
  have L0 := Lib.hid hL0
  clear hL0 hh K1 HL hd3
  go_wp2
  go_loopg [24, 6, 7] keys.length (fun gg s24 s6 s7 wr => ∃ (k : Nat) (S : Nat → Prop) (l wm : List Int) (cn : Cnt), k ≤ keys.length ∧ k ≤ 16384 ∧ keys.length - k ≤ gg ∧ s24 = .int .i64 k ∧ CInv (1 + k0) l wm ∧ LoopE w0 wr S ge (clockEng (1 + k0) l wm cn) k ∧ OwnL wr S s6 l ∧ OwnL wr S s7 wm ∧ ApartV s6 s7 ∧ ∀ b, s7.ownBlock = some b → w0.heap.size ≤ b)
  case atStart => exact ⟨0, S0, [], [], ⟨0, 0, 0⟩, Nat.zero_le _, Nat.zero_le _, by omega, rfl, ⟨Nat.zero_le _, List.nodup_nil, List.nodup_nil, fun x h => h⟩, L0.out, OwnL.nil _ _, OwnL.nil _ _, (fun b h => by cases h), (fun b h => by cases h)⟩
  case round =>
    obtain ⟨k, S, l, wm, cn, hk, hk2, hg, rfl, hci, L, O, OW, A, hlow⟩ := hrel
    clear L0
    have hll := hci.len
    have hwl : wm.length ≤ 49 := by have := hci.wlen; omega
    have HL := Lib.hid L
    have HOL := Lib.hid O
    have HOW := Lib.hid OW
    have HAP := Lib.hid A
    have LOW := Lib.hid hlow
    have HCI := Lib.hid hci
    clear A hci hlow
    by_cases hlt : k < keys.length
    · obtain ⟨key, hx⟩ : ∃ x, keys[k]? = some x := ⟨_, List.getElem?_eq_getElem hlt⟩
      obtain ⟨gk, ok, rfl, hc0, hgk, hm2⟩ := HK.out.at_ hx
      have hc := (L.kept.cell (p := ⟨gk, ok + k, none⟩) (by simp only; omega)).trans hc0
      unfold maxLen at hm2
      clear hx hc0
      by_cases hb : k = 16384
      · have e1 : ((k : Int) == 16384) = true := by simp; omega
        have e2 : decide ((k : Int) = 16384) = true := by simp; omega
        have hk3 := L.kept
        clear L O OW hb
        go_wp2
        go_ret
        exact ⟨rfl, hk3⟩
      · have e1 : ((k : Int) == 16384) = false := by simp; omega
        have e2 : decide ((k : Int) = 16384) = false := by simp; omega
        obtain ⟨al, cl, rfl⟩ := O.shape
        obtain ⟨aw, cw, rfl⟩ := OW.shape
        have hat := at_any O.lr (by omega) key
        have hatw := at_any OW.lr (by omega) key
        have hax := clock_access (n := 1 + k0) (by omega) (by omega) HCI.out cn key
        have HAX := Lib.hid hax.1
        have HCN := Lib.hid hax.2
        have HAT := Lib.hid hat
        have HATW := Lib.hid hatw
        clear hax hat hatw
        cases hp : place l key with
        | some i =>
          have ea : atI l key = (i : Int) := by unfold atI; rw [hp]
          have hi0 : 0 ≤ (i : Int) := by omega
          have EA := Lib.hid ea
          cases hpw : place wm key with
          | some j =>
            have eaw : atI wm key = (j : Int) := by unfold atI; rw [hpw]
            have hj0 : 0 ≤ (j : Int) := by omega
            have EAW := Lib.hid eaw
            have hnx : clockNext (1 + k0) l wm key = (l, wm) := by unfold clockNext; rw [hp, hpw]; rfl
            have ha : (clockEng (1 + k0) l wm cn).access key = .ok true [] (clockEng (1 + k0) l wm (cntUp cn true 0)) := by
              have := HAX.out
              rw [hnx] at this
              simpa [clockOut, hp] using this
            have htold := ltold2_any HE.out HO.out L (by omega) ha (clock_keys _) (.inl ⟨rfl, rfl⟩) (fun b hb => by cases hb) O (by omega)
            have HTO := Lib.hid htold
            clear ea hp hpw eaw hnx ha htold L O OW
            go_wp2_with fail
            refine HAT.out.mono ?_
            rw [EA.out]
            rintro x wx ⟨rfl, rfl⟩
            go_wp2_with fail
            refine HATW.out.mono ?_
            rw [EAW.out]
            rintro x wx2 ⟨rfl, rfl⟩
            go_wp2_with fail
            refine HTO.out.mono ?_
            rintro x w' ⟨rfl, S', hW⟩
            have HW := Lib.hid hW
            clear hW
            go_wp2
            go_roundg (keys.length - (k + 1))
            case measure => omega
            case rel => exact ⟨k + 1, S', l, wm, _, by omega, by omega, by omega, by go_num, HCI.out, HW.out.loop, HW.out.own HOL.out HL.out.mine, HW.out.own HOW.out HL.out.mine, HAP.out, LOW.out⟩
          | none =>
            have eaw : atI wm key = -1 := by unfold atI; rw [hpw]
            have EAW := Lib.hid eaw
            have hnx : clockNext (1 + k0) l wm key = (l, wm ++ [key]) := by unfold clockNext; rw [hp, hpw]; rfl
            have ha : (clockEng (1 + k0) l wm cn).access key = .ok true [] (clockEng (1 + k0) l (wm ++ [key]) (cntUp cn true 0)) := by
              have := HAX.out
              rw [hnx] at this
              simpa [clockOut, hp] using this
            have hci2 : CInv (1 + k0) l (wm ++ [key]) := by
              have := HCN.out
              rw [hnx] at this
              exact this
            have HA := Lib.hid ha
            have HCI2 := Lib.hid hci2
            clear ea hp hpw eaw hnx ha hci2 L O OW
            obtain ⟨i0, hi0', hz0, hz1, hz2⟩ := info_parts infoU64_
            have hone : Sl (fun b => wr.heap.size ≤ b) (wr.alloc (.cells #[.int .u64 key] 27)) 27 1 (.slice (some ⟨wr.heap.size, 0, none⟩) 1 1) 1 [.int .u64 key] := Sl.of_row (Row.new wr _ [.int .u64 key]) (Nat.le_refl _) rfl (by unfold maxLen; omega)
            have hw1 : Sl (fun b => (Value.slice aw wm.length cw).ownBlock = some b ∨ wr.heap.size ≤ b) (wr.alloc (.cells #[.int .u64 key] 27)) 27 1 (.slice aw wm.length cw) wm.length (wm.map encU) := by
              obtain ⟨N, hs⟩ := (HOW.out.later ((Kept.refl _ wr).alloc (Nat.le_refl _) (.cells #[.int .u64 key] 27))).sl
              exact ⟨hs.1, fun g hg => .inl hg⟩
            have q1 : (fun b => (Value.slice aw wm.length cw).ownBlock = some b ∨ wr.heap.size ≤ b) (wr.alloc (.cells #[.int .u64 key] 27)).heap.size := .inr (by simp)
            have m1 : wm.length + 1 ≤ maxLen := by unfold maxLen; omega
            have m2 : (wm.length + 1) * 8 ≤ 140737488355328 := by omega
            have HS1 := Lib.hid hone.src
            have HW1 := Lib.hid hw1
            have Q1 := Lib.hid q1
            have O1 := Lib.hid (one_u [key])
            clear hone hw1 q1
            go_wp2_with fail
            refine HAT.out.mono ?_
            rw [EA.out]
            rintro x wx ⟨rfl, rfl⟩
            go_wp2_with fail
            refine HATW.out.mono ?_
            rw [EAW.out]
            rintro x wx2 ⟨rfl, rfl⟩
            go_wp2_with (at_builtin; go_must (refine wp_appendS Tryz.underlying22 hi0' hz0 hz1 hz2 rfl (by decide) HW1.out Q1.out rfl _ _ rfl rfl rfl HS1.out O1.out m1 m2 ?_; intro v' w2 hs2 hk2 hloc; have Hs2 := Lib.hid hs2; have Hk2 := Lib.hid hk2; have HLOC := Lib.hid hloc; clear hs2 hk2 hloc))
            have kw : Kept (fun b => (Value.slice aw wm.length cw).ownBlock = some b ∨ wx2.heap.size ≤ b) wx2 w2 := ((Kept.refl _ wx2).alloc (.inr (Nat.le_refl _)) _).trans (Hk2.out.mono (fun b hb => hb.elim .inl (fun h => .inr (by simp at h; omega))))
            have hL2 := HL.out.kept_ kw (fun b hb ht => ht.elim (fun e => HOW.out.far b e hb) (fun h => by have := (HL.out.lo b hb).2; omega)) (fun b hb => hb.elim (LOW.out b) (fun h => Nat.le_trans HL.out.kept.size h))
            have hO2 : OwnL w2 S (.slice al l.length cl) l := by
              obtain ⟨N, hs⟩ := HOL.out.sl
              exact ⟨⟨N, hs.kept kw (fun b hb ht => ht.elim (fun e => HAP.out b hb e) (fun h => by have := hs.lt hb; omega))⟩, HOL.out.far⟩
            have hv' : ∀ b, v'.ownBlock = some b → (Value.slice aw wm.length cw).ownBlock = some b ∨ b = wx2.heap.size + 1 := fun b hb => by
              rcases HLOC.out with h | h
              · exact .inl (h.symm.trans hb)
              · rw [h] at hb
                injection hb with hb
                exact .inr (by simp at hb; omega)
            have hOW2 : OwnL w2 S v' (wm ++ [key]) := by
              refine ⟨⟨(fun b => (Value.slice aw wm.length cw).ownBlock = some b ∨ wx2.heap.size ≤ b), ?_⟩, fun b hb hS => (hv' b hb).elim (fun e => HOW.out.far b e hS) (fun e => by have := (HL.out.lo b hS).2; omega)⟩
              · rw [List.length_append, List.map_append]
                exact Hs2.out
            have hA2 : ApartV (.slice al l.length cl) v' := fun b h1 h2 => (hv' b h2).elim (fun e => HAP.out b h1 e) (fun e => by have := HOL.out.lr.lt h1; omega)
            have hlow2 : ∀ b, v'.ownBlock = some b → w0.heap.size ≤ b := fun b hb => (hv' b hb).elim (LOW.out b) (fun e => by have := HL.out.kept.size; omega)
            have htold := ltold2_any HE.out HO.out hL2 (by omega) HA.out (clock_keys _) (.inl ⟨rfl, rfl⟩) (fun b hb => by cases hb) hO2 (by omega)
            have HTO := Lib.hid htold
            have HL2 := Lib.hid hL2
            have HO2 := Lib.hid hO2
            have HOW2 := Lib.hid hOW2
            have HA2 := Lib.hid hA2
            have LOW2 := Lib.hid hlow2
            clear kw hL2 hO2 hv' hOW2 hA2 hlow2 htold
            go_wp2_with fail
            refine HTO.out.mono ?_
            rintro x w' ⟨rfl, S', hW⟩
            have HW := Lib.hid hW
            clear hW
            go_wp2
            go_roundg (keys.length - (k + 1))
            case measure => omega
            case rel => exact ⟨k + 1, S', l, wm ++ [key], _, by omega, by omega, by omega, by go_num, HCI2.out, HW.out.loop, HW.out.own HO2.out HL2.out.mine, HW.out.own HOW2.out HL2.out.mine, HA2.out, LOW2.out⟩
        | none =>
          have ea : atI l key = -1 := by unfold atI; rw [hp]
          have EA := Lib.hid ea
          by_cases hfull : l.length = 1 + k0
          · have f1 : ((l.length : Int) == 1 + (k0 : Int)) = true := by simp; omega
            have f2 : decide ((l.length : Int) = 1 + (k0 : Int)) = true := by simp; omega
            have hnx : clockNext (1 + k0) l wm key = (key :: (spin wm.length l wm).1.eraseIdx k0, (spin wm.length l wm).2) := by
              unfold clockNext
              rw [hp, if_pos hfull]
              have ek : 1 + k0 - 1 = k0 := by omega
              rw [ek]; rfl
            have ha : (clockEng (1 + k0) l wm cn).access key = .ok false ((spin wm.length l wm).1.drop k0) (clockEng (1 + k0) (key :: (spin wm.length l wm).1.eraseIdx k0) (spin wm.length l wm).2 (cntUp cn false ((spin wm.length l wm).1.drop k0).length)) := by
              have := HAX.out
              have ek : 1 + k0 - 1 = k0 := by omega
              rw [hnx] at this
              simpa [clockOut, hp, hfull, ek] using this
            have hci2 : CInv (1 + k0) (key :: (spin wm.length l wm).1.eraseIdx k0) (spin wm.length l wm).2 := by
              have := HCN.out
              rw [hnx] at this
              exact this
            have HA := Lib.hid ha
            have HCI2 := Lib.hid hci2
            have HFU := Lib.hid hfull
            clear ea hp hnx ha hci2 L O OW hfull
            go_wp2_with fail
            refine HAT.out.mono ?_
            rw [EA.out]
            rintro x wx ⟨rfl, rfl⟩
            have e7 : 1 + (k0 : Int) - 1 = (k0 : Int) := by omega
            go_wp2_with fail
            go_loopg [6, 7] wm.length (fun gg s6 s7 wq => ∃ (l' w' : List Int), CInv (1 + k0) l' w' ∧ l'.length = 1 + k0 ∧ w'.length ≤ gg ∧ spin wm.length l wm = spin w'.length l' w' ∧ LoopE w0 wq S ge (clockEng (1 + k0) l wm cn) k ∧ OwnL wq S s6 l' ∧ OwnL wq S s7 w' ∧ ApartV s6 s7 ∧ ∀ b, s7.ownBlock = some b → w0.heap.size ≤ b)
            case atStart => exact ⟨l, wm, HCI.out, HFU.out, Nat.le_refl _, rfl, HL.out, HOL.out, HOW.out, HAP.out, LOW.out⟩
            case round =>
              obtain ⟨l', w', hci, hfl, hwg, hsp, L, O, OW, A, hlow⟩ := hrel
              obtain ⟨gl, cl', e', hSg, hlc, hcm, hgl⟩ := O.form (by omega)
              subst e'
              obtain ⟨aw', cw', rfl⟩ := OW.shape
              have hw9 : w'.length ≤ 49 := by have := hci.wlen; omega
              obtain ⟨x, hx⟩ : ∃ x, l'[k0]? = some x := ⟨_, List.getElem?_eq_getElem (by omega)⟩
              have hcx := O.cell hx
              have hlast : l'.getLast? = some x := by
                rw [List.getLast?_eq_getElem?, hfl]
                have : 1 + k0 - 1 = k0 := by omega
                rw [this]; exact hx
              have hat2 := at_any OW.lr (by omega) x
              have hll2 : k0 < l'.length := by omega
              have hl50 : l'.length ≤ 50 := by omega
              have g1 : (k0 : Int) ≤ (cl' : Int) := by omega
              have g2 : (0 : Int) ≤ (k0 : Int) := by omega
              have g3 : (k0 : Int) < (l'.length : Int) := by omega
              have g4 : (k0 : Int) ≤ (l'.length : Int) := by omega
              have q9 : IntKind.i64.wrap (1 + (k0 : Int) - 1) = (k0 : Int) := by rw [e7]; exact IntWalk.i64_in _ (by omega)
              have q8 : IntKind.i64.wrap (k0 : Int) = (k0 : Int) := IntWalk.i64_in _ (by omega)
              unfold maxLen at hcm
              have HX := Lib.hid hx
              have HLA := Lib.hid hlast
              have HAT2 := Lib.hid hat2
              have HCIQ := Lib.hid hci
              have HFL := Lib.hid hfl
              have HSP := Lib.hid hsp
              have HLQ := Lib.hid L
              have HOQ := Lib.hid O
              have HOWQ := Lib.hid OW
              have HAQ := Lib.hid A
              have LOWQ := Lib.hid hlow
              clear hx hlast hat2 hci hfl hsp A hlow
              cases hpx : place w' x with
              | some j =>
                obtain ⟨hj, _⟩ := place_get hpx
                have eax : atI w' x = (j : Int) := by unfold atI; rw [hpx]
                have hj0 : 0 ≤ (j : Int) := by omega
                have EAX := Lib.hid eax
                have hwo := own_without OW (by omega) (i := j) hj
                have hpos : 0 < w'.length := by omega
                have hwl : (w'.eraseIdx j).length = w'.length - 1 := List.length_eraseIdx_of_lt hj
                have hturn := HCIQ.out.turn HLA.out hpx
                have hsp2 : spin w'.length l' w' = spin (w'.eraseIdx j).length (x :: l'.dropLast) (w'.eraseIdx j) := by
                  rw [hwl]
                  obtain ⟨q, hq⟩ : ∃ q, w'.length = q + 1 := ⟨w'.length - 1, by omega⟩
                  rw [hq]
                  show spin (q + 1) l' w' = _
                  rw [spin, HLA.out]
                  simp only [hpx]
                  rfl
                have HWO := Lib.hid hwo
                have HWL := Lib.hid hwl
                have HTURN := Lib.hid hturn
                have HSP2 := Lib.hid hsp2
                clear eax hpx hwo hwl hturn hsp2 L O OW
                go_wp2_with fail
                refine HAT2.out.mono ?_
                rw [EAX.out]
                rintro y wy1 ⟨rfl, rfl⟩
                go_wp2_with fail
                refine HAT2.out.mono ?_
                rw [EAX.out]
                rintro y wy2 ⟨rfl, rfl⟩
                go_wp2_with fail
                refine HWO.out.mono ?_
                rintro y wz ho
                obtain ⟨vz, rfl, hoz, hLz, hkz⟩ := ho.own HLQ.out
                have hAz : ApartV (.slice (some ⟨gl, 0, none⟩) l'.length cl') vz := fun b h1 h2 => by
                  obtain ⟨v8, e8, _, hs8⟩ := ho
                  injection e8 with e8
                  subst e8
                  have := hs8.2 b h2
                  have := HOQ.out.lr.lt h1
                  omega
                have hlz : ∀ b, vz.ownBlock = some b → w0.heap.size ≤ b := fun b h2 => by
                  obtain ⟨v8, e8, _, hs8⟩ := ho
                  injection e8 with e8
                  subst e8
                  exact Nat.le_trans HLQ.out.kept.size (hs8.2 b h2)
                have hOq := HOQ.out.later hkz
                have hcx2 := hOq.cell HX.out
                obtain ⟨N9, hs9⟩ := hOq.sl
                have hlr9 := hs9.lr_take (k := k0) (by omega)
                have hfr := fun W (hW : ∃ n, W = wz.drewN n) => front_any (w := W) (by obtain ⟨n, rfl⟩ := hW; exact hlr9.drewN n) (by rw [List.length_take]; omega) x
                have HFR := Lib.hid hfr
                have HOZ := Lib.hid hoz
                have HLZ := Lib.hid hLz
                have HAZ := Lib.hid hAz
                have LOWZ := Lib.hid hlz
                clear ho hoz hLz hkz hAz hlz hOq hs9 hlr9 hfr hcx
                go_wp2_with fail
                (refine wp_tail 9 (by kernel_rfl) (by kernel_rfl) ?_; simp only [List.take_succ_cons, List.take_zero, List.drop_succ_cons, List.drop_zero]; repeat still_step); refine wpStill_nil ?_
                go_wp2_with fail
                refine (HFR.out _ ⟨1, rfl⟩).mono ?_
                rintro y w9 ho
                obtain ⟨v9, rfl, ho9, hL9, hk9⟩ := ho.own (HLZ.out.drewN 1)
                have hOz9 := (HOZ.out.drewN 1).later hk9
                have hA9 : ApartV v9 vz := fun b h1 h2 => by
                  obtain ⟨v8, e8, _, hs8⟩ := ho
                  injection e8 with e8
                  subst e8
                  have := hs8.2 b h1
                  have h3 := HOZ.out.lr.lt h2
                  have : (wz.drewN 1).heap.size = wz.heap.size := rfl
                  omega
                have HO9 := Lib.hid ho9
                have HL9 := Lib.hid hL9
                have HOZ9 := Lib.hid hOz9
                have HA9 := Lib.hid hA9
                have hdl : l'.dropLast = l'.take k0 := by rw [List.dropLast_eq_take, HFL.out]; congr 1; omega
                have HDL := Lib.hid hdl
                clear ho ho9 hL9 hk9 hOz9 hA9 hdl
                go_wp2
                go_roundg (w'.length - 1)
                case measure => omega
                case rel => exact ⟨x :: l'.take k0, w'.eraseIdx j, by rw [← HDL.out]; exact HTURN.out, by rw [List.length_cons, List.length_take]; have := HFL.out; omega, by rw [HWL.out]; omega, by rw [HSP.out, HSP2.out, HDL.out], HL9.out, HO9.out, HOZ9.out, HA9.out, LOWZ.out⟩
              | none =>
                have eax : atI w' x = -1 := by unfold atI; rw [hpx]
                have EAX := Lib.hid eax
                have hspe : spin w'.length l' w' = (l', w') := by
                  cases hq : w'.length with
                  | zero => rfl
                  | succ q =>
                    rw [spin, HLA.out]
                    simp only [hpx]
                rw [HSP.out, hspe] at HA HCI2
                have hcap : ¬ cl' = k0 := by omega
                have hfr := O.from_ (k := k0) (by omega) (c := cl' - k0) (by omega) (by unfold maxLen; omega)
                have hwo := own_without O (by omega) (i := k0) (by omega)
                have hle : (l'.eraseIdx k0).length = k0 := by rw [List.length_eraseIdx_of_lt (by omega)]; have := HFL.out; omega
                have HFR := Lib.hid hfr
                have HWO := Lib.hid hwo
                have HLE := Lib.hid hle
                clear eax hpx hspe hfr hwo hle L O OW
                go_wp2_with fail
                refine HAT2.out.mono ?_
                rw [EAX.out]
                rintro y wy1 ⟨rfl, rfl⟩
                go_wp2_with fail
                refine HWO.out.mono ?_
                rintro y wy ho
                obtain ⟨vy, rfl, hoy, hLy, hky⟩ := ho.own HLQ.out
                have hfront := front_any hoy.lr (by rw [HLE.out]; omega) key
                have hOWy := HOWQ.out.later hky
                have HFRO := Lib.hid hfront
                have HLY := Lib.hid hLy
                have HOWY := Lib.hid hOWy
                have KY := Lib.hid hky
                clear ho hoy hLy hfront hky hOWy
                go_wp2_with fail
                refine HFRO.out.mono ?_
                rintro y wz ho
                obtain ⟨vz, rfl, hoz, hLz, hkz⟩ := ho.own HLY.out
                have hOWz := HOWY.out.later hkz
                have hAz : ApartV vz (.slice aw' w'.length cw') := fun b h1 h2 => by
                  obtain ⟨v8, e8, _, hs8⟩ := ho
                  injection e8 with e8
                  subst e8
                  have := hs8.2 b h1
                  have := HOWY.out.lr.lt h2
                  omega
                have hfz := (HFR.out.later KY.out (fun b hb => hb)).later hkz (fun b hb => hb)
                have htold := ltold2_any HE.out HO.out hLz (by omega) HA.out (clock_keys _) hfz (fun b hb => by injection hb with hb; exact hb ▸ hSg) hoz (by have := HCI2.out.len; omega)
                have HTO := Lib.hid htold
                have HOZ := Lib.hid hoz
                have HLZ := Lib.hid hLz
                have HOWZ := Lib.hid hOWz
                have HAZ := Lib.hid hAz
                clear ho hoz hLz hkz htold hOWz hAz hfz
                go_wp2_with fail
                refine HTO.out.mono ?_
                rintro y w'' ⟨rfl, S', hW⟩
                have HW := Lib.hid hW
                clear hW
                go_wp2
                go_roundg (keys.length - (k + 1))
                case measure => omega
                case rel => exact ⟨k + 1, S', key :: l'.eraseIdx k0, w', _, by omega, by omega, by omega, by go_num, HCI2.out, HW.out.loop, HW.out.own HOZ.out HLZ.out.mine, HW.out.own HOWZ.out HLZ.out.mine, HAZ.out, LOWQ.out⟩
          · have f1 : ((l.length : Int) == 1 + (k0 : Int)) = false := by simp; omega
            have f2 : decide ((l.length : Int) = 1 + (k0 : Int)) = false := by simp; omega
            have hnx : clockNext (1 + k0) l wm key = (key :: l, wm) := by unfold clockNext; rw [hp, if_neg hfull]; rfl
            have ha : (clockEng (1 + k0) l wm cn).access key = .ok false [] (clockEng (1 + k0) (key :: l) wm (cntUp cn false 0)) := by
              have := HAX.out
              rw [hnx] at this
              simpa [clockOut, hp, hfull] using this
            have hci2 : CInv (1 + k0) (key :: l) wm := by
              have := HCN.out
              rw [hnx] at this
              exact this
            have hfront := front_any O.lr (by omega) key
            have HA := Lib.hid ha
            have HCI2 := Lib.hid hci2
            have HFRO := Lib.hid hfront
            clear ea hp hnx ha hci2 L O OW hfront
            go_wp2_with fail
            refine HAT.out.mono ?_
            rw [EA.out]
            rintro x wx ⟨rfl, rfl⟩
            go_wp2_with fail
            refine HFRO.out.mono ?_
            rintro x wz ho
            obtain ⟨vz, rfl, hoz, hLz, hkz⟩ := ho.own HL.out
            have hOWz := HOW.out.later hkz
            have hAz : ApartV vz (.slice aw wm.length cw) := fun b h1 h2 => by
              obtain ⟨v8, e8, _, hs8⟩ := ho
              injection e8 with e8
              subst e8
              have := hs8.2 b h1
              have := HOW.out.lr.lt h2
              omega
            have htold := ltold2_any HE.out HO.out hLz (by omega) HA.out (clock_keys _) (.inl ⟨rfl, rfl⟩) (fun b hb => by cases hb) hoz (by have := HCI2.out.len; omega)
            have HTO := Lib.hid htold
            have HOZ := Lib.hid hoz
            have HLZ := Lib.hid hLz
            have HOWZ := Lib.hid hOWz
            have HAZ := Lib.hid hAz
            clear ho hoz hLz hkz htold hOWz hAz
            go_wp2_with fail
            refine HTO.out.mono ?_
            rintro x w' ⟨rfl, S', hW⟩
            have HW := Lib.hid hW
            clear hW
            go_wp2
            go_roundg (keys.length - (k + 1))
            case measure => omega
            case rel => exact ⟨k + 1, S', key :: l, wm, _, by omega, by omega, by omega, by go_num, HCI2.out, HW.out.loop, HW.out.own HOZ.out HLZ.out.mine, HW.out.own HOWZ.out HLZ.out.mine, HAZ.out, LOW.out⟩
    · have hk3 := L.kept
      have hke : k = keys.length := by omega
      clear L O OW
      subst hke
      go_wp2
      go_ret
      exact ⟨rfl, hk3⟩
end
end Go.Proofs.YtemppijblfflgaaGreatDoor.Ev
namespace Go.Proofs.YtemppijblfflgaaGreatDoor.Ev
open Go Go.ChangeShapes Go.WideShapes Go.ChangeAt Go.RowKit
open Go.ChangeMaps (open_string shut_string)

namespace clockLaw
theorem bears : Bears Rows.clockRow.laid := by
  refine ⟨?_, ?_, ?_, ?_, ?_, ?_, ?_, ?_, ?_, ?_, ?_, ?_, ?_, ?_⟩ <;> (unfold Rows.clockRow; simp only [List.mem_cons, true_or, or_true])

set_option maxRecDepth 100000 in
theorem contract (H : Type) (enc : TypeId × Value → H) (W : World) (base : Nat) (args : Array Value) (ds gs : List (DataW H)) (before : List MemPlace)
    (hval : ∀ (j : Nat) t v, Tryz.f6.params[j]? = some t → args[j]? = some v → Value.okWide Tryz.prog W .any base t v)
    (hW : DataW.Whole enc Tryz.prog Tryz.f6.params.toList Rows.clockSpec.vars false W args.toList ds gs before) (hL : laidMetH Tryz.prog Rows.clockRow.laid W) :
    Calls Tryz.prog 6 args W fun e W' => ∃ v, e = .returned v ∧ Rows.clockSpec.post enc Tryz.prog Tryz.f6 false true false false W args v W' := by
  have hW' := hW
  obtain ⟨p, q, hA0, hV, rfl, hfz, hnd⟩ := hW
  have hA : DataW.TrodAll enc Tryz.prog W 0 (fun _ => true) true Tryz.f6.params.toList args.toList ds p := hA0
  rw [Tryz.params6] at hA hval
  obtain ⟨v0, v1, d0, d1, p0, p1, rfl, rfl, rfl, h0, h1⟩ := trodAll_two hA
  obtain ⟨keys0, hk0⟩ := keysR_of Tryz.underlying22 Tryz.underlying27 (by kernel_rfl) (hval 0 22 v0 rfl rfl) h0
  obtain ⟨x1, rfl, rfl, rfl, hw1⟩ := open_int Tryz.underlying3 (hval 1 3 v1 rfl rfl) h1
  have hb1 := bounds_i64 hw1
  obtain ⟨ea, he, ho⟩ := env_of hL bears
  refine (clock_walk he ho hk0 x1 hb1.1 hb1.2).mono fun e W' ⟨h8, h9⟩ => ?_
  subst h8
  exact ⟨_, rfl, post_true laidOut_ rfl hW' (fun ds' hd => by
    obtain ⟨a0, a1, rfl⟩ : ∃ a0 a1, ds' = [a0, a1] := by
      match ds', hd with
      | [a0, a1], _ => exact ⟨a0, a1, rfl⟩
    rfl) rfl Tryz.underlying4 (by
      intro t ht
      have : t = 22 ∨ t = 3 := by
        rw [Tryz.params6] at ht
        simp at ht
        omega
      rcases this with rfl | rfl <;> exact ⟨by kernel_rfl, of_decide_eq_true (by kernel_rfl)⟩) h9⟩

theorem laid_met (os : Os) : laidMetH Tryz.prog Rows.clockRow.laid ((laidWorld os).forCall (fun _ _ => 0) ⟨#[], #[.slice none 0 0, .int .i64 0], []⟩).memory :=
  laidMetH_of_parts (LaidIn.of_run (List.range 1000) 8 (by kernel_rfl) (by kernel_rfl) (by kernel_rfl) (by kernel_rfl)).met (by kernel_rfl)

theorem witness_row (os : Os) {H : Type} (enc : TypeId × Value → H) :
    (OpenSpec.ofChange Rows.clockSpec).preRow enc Tryz.prog Tryz.f6 Rows.clockRow.domain false Rows.clockRow.laid ((laidWorld os).forCall (fun _ _ => 0) ⟨#[], #[.slice none 0 0, .int .i64 0], []⟩).memory #[.slice none 0 0, .int .i64 0] := by
  have hw : (DataW.whole enc Tryz.prog ((laidWorld os).forCall (fun _ _ => 0) ⟨#[], #[.slice none 0 0, .int .i64 0], []⟩).memory Tryz.f6.params.toList (OpenSpec.ofChange Rows.clockSpec).vars false (#[.slice none 0 0, .int .i64 0] : Array Value).toList 8).map (fun x => (x.1, x.2.1)) =
      some ([.nil, .lit (.int .i64 0)], []) := by kernel_rfl
  obtain ⟨⟨x1, x2, x3⟩, hx, hx1⟩ := Option.map_eq_some_iff.1 hw
  simp only [Prod.mk.injEq] at hx1
  obtain ⟨rfl, rfl⟩ := hx1
  exact OpenSpec.preRow_of_cond 8 hx (by kernel_rfl) (fun k hk => by cases hk) (by kernel_rfl) (laid_met os)

set_option maxRecDepth 100000 in
theorem lifted (os : Os) (started : os.Started) (H : Type) (enc : TypeId × Value → H) (F : Stop.Interp) :
    ReturnsInHanded {} Tryz.checked os 6 .any ((OpenSpec.ofChange Rows.clockSpec).preRow enc Tryz.prog Tryz.f6 Rows.clockRow.domain false Rows.clockRow.laid) (((OpenSpec.ofChange Rows.clockSpec).at F).post enc Tryz.prog Tryz.f6 false true false false) := by
  refine returnsInHanded_of_row (C := Tryz.checked) (s := OpenSpec.ofChange Rows.clockSpec) ownKnob_ started (by kernel_rfl) Tryz.func6
    (witness_row_atRef (enc := enc) (C := Tryz.checked) false (laidWorld os) #[.slice none 0 0, .int .i64 0] rfl (by kernel_rfl) (by kernel_rfl) (by kernel_rfl) (witness_row os enc)) ?_
  intro W base args ds gs before hval hW _ _ _ hL _ _
  exact contract H enc W base args ds gs before hval hW hL

theorem said : Rows.ClockSaid :=
  OpenClaim.holds_of_cond 6 Tryz.f6 rfl rfl rfl rfl rfl rfl rfl ⟨rfl, rfl, rfl, rfl, rfl⟩ rfl rfl rfl rfl rfl (by kernel_rfl) Tryz.func6 (by kernel_rfl)
    (of_decide_eq_true (by kernel_rfl)) (by unfold Func.isWrapper; first | (rw [if_pos (by decide +kernel)]; kernel_rfl) | (rw [if_neg (by decide +kernel)]; exact ⟨rfl, rfl⟩))
    (fun os started H enc _ F => by rw [OpenClaim.pre_eq_preRow]; exact lifted os started H enc F)

theorem plain (f : FuncId) (fn : Func) (hf : Tryz.pinned.checked.prog.funcNamed "evictor/evictorkeep.Clock" = some f) (hfn : Tryz.pinned.checked.prog.funcs[f]? = some fn) :
    true = Tryz.pinned.checked.prog.looks [] ∧ ∀ (j : Nat) t, fn.params[j]? = some t → Tryz.pinned.checked.prog.wantsStandIn t = false := by
  obtain rfl : f = 6 := Option.some.inj ((show Tryz.prog.funcNamed "evictor/evictorkeep.Clock" = some 6 by kernel_rfl).symm.trans hf) |>.symm
  obtain rfl : fn = Tryz.f6 := (Option.some.inj (Tryz.func6.symm.trans hfn)).symm
  refine ⟨by kernel_rfl, fun j t ht => ?_⟩
  rw [Tryz.params6] at ht
  have hm := Array.mem_of_getElem? ht
  have : t = 22 ∨ t = 3 := by
    simp at hm
    omega
  rcases this with rfl | rfl
  · exact (show Tryz.prog.wantsStandIn 22 = false by kernel_rfl)
  · exact (show Tryz.prog.wantsStandIn 3 = false by kernel_rfl)

theorem proved : Rows.ClockCardSaid :=
  Claim7.holds_tied_plain_at .later [] _ _ _ _ said (fun _ h => by cases h) (by kernel_rfl) (fun _ h => by cases h) clock_row_tie rfl ⟨rfl, rfl⟩ (by kernel_rfl) rfl plain (by kernel_rfl)
end clockLaw
end Go.Proofs.YtemppijblfflgaaGreatDoor.Ev
