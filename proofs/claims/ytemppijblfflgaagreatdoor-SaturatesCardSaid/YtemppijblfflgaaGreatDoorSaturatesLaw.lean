/- Two engines in a law's loop; single calls of one. Lru, and a greater cache beside a smaller one; a variable between its bounds. No program in sight. Saturates: walked. Saturates: for every input the law returns true. Conditions: none. -/
import Derived.SevenTiedAt
import Derived.Test.YtemppijblfflgaaGreatDoorZb16
import Derived.Test.YtemppijblfflgaaGreatDoorZb17
set_option linter.all false
set_option linter.unusedSimpArgs false
set_option linter.unusedVariables false
namespace Go.Proofs.YtemppijblfflgaaGreatDoor.Ev
open Go Go.RowKit

theorem cat_ok {P : Program} {a b : ByteArray} (h : a.size + b.size ≤ 9223372036854775807) : ∀ W : World, (Op.stringOp .add a b).run P W = .ok (.string (a ++ b)) W := fun W => run_string_add_sum W _ _ h
theorem dig_len {n : Int} (h0 : 0 ≤ n) (h : n ≤ 99) : (digits n).length ≤ 3 := (digits_ok (n := n) h0 (by omega)).2.1

/-- The first keys of a list. -/
theorem Sl.lr_take {N : Nat → Prop} {w : World} {g cap : Nat} {m : List Int} (h : Sl N w 27 1 (.slice (some ⟨g, 0, none⟩) m.length cap) m.length (m.map encU)) {k : Nat} (hk : k ≤ m.length) : LR w (.slice (some ⟨g, 0, none⟩) k cap) (m.take k) := by
  have hl := h.lr
  rcases hl with ⟨h0, hn⟩ | ⟨g', off, c', e, a1, a2, a3, a4⟩
  · injection h0 with h0; cases h0
  · injection e with e1 e2 e3
    injection e1 with e1
    injection e1 with e1 e4 e5
    subst e1 e4 e3
    refine .inr ⟨g, 0, cap, by rw [List.length_take, Nat.min_eq_left hk], by rw [List.length_take]; omega, a2, a3, fun i x hx => ?_⟩
    have hik : i < k := by
      have := (List.getElem?_eq_some_iff.1 hx).1
      rw [List.length_take] at this
      omega
    rw [List.getElem?_take_of_lt hik] at hx
    exact a4 i x hx

section
variable {B : Nat} {ea : Nat → Addr} {S S2 : Nat → Prop} {w wr w' w1 : World} {ge g2 : Nat} {e e1 e2 : Eng} {m m2 : Nat} {v : Value} {l : List Int} {p : Policy}

theorem LoopE.of_load {x : Ending} (hk : Kept (fun b => w.heap.size ≤ b) w w1) (h : OutKL w1 p x w') : ∃ ge S, x = .returned (.pointer (some ⟨ge, 0, none⟩)) ∧ LoopE w w' S ge (Eng.new p) 0 ∧ Kept (fun b => w1.heap.size ≤ b) w1 w' ∧ ∀ b, S b → w1.heap.size ≤ b := by
  obtain ⟨ge, rfl, hk2, hE⟩ := h
  have h := LoopE.start (p := p) (hk.trans (hk2.mono (fun b hb => Nat.le_trans hk.size hb))) (hE.mono (fun b hb => ⟨Nat.le_trans hk.size hb.1, hb.2⟩))
  exact ⟨ge, _, rfl, ⟨h.kept, hE, fun b hb => ⟨Nat.le_trans hk.size hb.1, hb.2⟩, h.cnt⟩, hk2, fun b hb => hb.1⟩
theorem LoopE.mine (h : LoopE w wr S ge e m) : S ge := h.eng.mine
theorem LoopE.ge_lo (h : LoopE w wr S ge e m) : w.heap.size ≤ ge := (h.lo _ h.mine).1
/-- Another engine has turned. -/
theorem LoopE.beside (h : LoopE w wr S ge e m) (hk : Kept (fun b => b = g2 ∨ wr.heap.size ≤ b) wr w') (hn : ¬ S g2) (hg : w.heap.size ≤ g2) : LoopE w w' S ge e m :=
  ⟨h.kept.trans (hk.mono (fun b hb => hb.elim (fun e => e ▸ hg) (fun h2 => Nat.le_trans h.kept.size h2))), h.eng.kept hk (fun b hb hl h2 => h2.elim (fun e => hn (e ▸ hb)) (fun h3 => by omega)), fun b hb => ⟨(h.lo b hb).1, Nat.lt_of_lt_of_le (h.lo b hb).2 hk.size⟩, h.cnt⟩
theorem OwnL.beside (h : OwnL wr S v l) (hk : Kept (fun b => b = g2 ∨ wr.heap.size ≤ b) wr w') (hn : ∀ b, v.ownBlock = some b → b ≠ g2) : OwnL w' S v l := by
  obtain ⟨N, hs⟩ := h.sl
  exact ⟨⟨N, hs.kept hk (fun b hb h2 => h2.elim (fun e => hn b hb e) (fun h3 => by have := hs.lt hb; omega))⟩, h.far⟩

/-- The engine has turned, and what is new; it goes on with blocks of its own and new ones. -/
structure Went (w wr : World) (S S' : Nat → Prop) (ge : Nat) (e1 : Eng) (m : Nat) (w' : World) : Prop where
  loop : LoopE w w' S' ge e1 m
  kept : Kept (fun b => b = ge ∨ wr.heap.size ≤ b) wr w'
  sub : ∀ b, S' b → S b ∨ wr.heap.size ≤ b
theorem Went.own {S' : Nat → Prop} (hw : Went w wr S S' ge e1 m w') (h : OwnL wr S v l) (hm : S ge) : OwnL w' S' v l := by
  obtain ⟨N, hs⟩ := h.sl
  exact ⟨⟨N, hs.kept hw.kept (fun b hb h2 => h2.elim (fun e => h.far b hb (e ▸ hm)) (fun h3 => by have := hs.lt hb; omega))⟩, fun b hb h2 => (hw.sub b h2).elim (h.far b hb) (fun h3 => by have := hs.lt hb; omega)⟩
/-- Another engine, and a list of another's. -/
theorem Went.other {S' : Nat → Prop} (hw : Went w wr S S' ge e1 m w') (h2 : LoopE w wr S2 g2 e2 m2) (hm : S ge) (hlo : w.heap.size ≤ ge) (hd : ∀ b, S b → ¬ S2 b) : LoopE w w' S2 g2 e2 m2 ∧ ∀ b, S' b → ¬ S2 b :=
  ⟨h2.beside hw.kept (hd ge hm) hlo, fun b hb hb2 => (hw.sub b hb).elim (fun h3 => hd b h3 hb2) (fun h3 => by have := (h2.lo b hb2).2; omega)⟩

def OutTL2 (w wr : World) (S : Nat → Prop) (ge : Nat) (e1 : Eng) (m : Nat) (x : Ending) (w' : World) : Prop :=
  x = .returned (.bool true) ∧ ∃ S', Went w wr S S' ge e1 m w'

theorem ltold2_any (he : Env B ea w) (ho : ErrObj B ea w) (h : LoopE w wr S ge e m) (hm : m ≤ 4000000) {key : Int} {hit : Bool} {gone l : List Int} {q : Bytes} {vo vl : Value}
    (ha : e.access key = .ok hit gone e1) (hk : e1.keys q = some l) (hvo : LR wr vo gone) (no : ∀ b, vo.ownBlock = some b → ¬ S b) (hvl : OwnL wr S vl l) (gl : l.length ≤ 1000000000) :
    Calls Tryz.prog 19 #[.pointer (some ⟨ge, 0, none⟩), .int .u64 key, .bool hit, vo, vs q, vl] wr (OutTL2 w wr S ge e1 (m + 1)) := by
  have hmine := h.eng.mine
  obtain ⟨c1, c2, c3⟩ := access_cnt h.eng.inv.1 ha
  refine (told_any (h.env he) (h.err he ho) h.eng (fun b hb => (h.lo b hb).2) hm h.cnt ha hk hvo hvl.lr (fun b hb e => no b hb (e ▸ hmine)) (fun b hb e => hvl.far b hb (e ▸ hmine)) (by omega) gl).mono ?_
  rintro x w' ⟨rfl, hkk, S', hE, hS'⟩
  exact ⟨rfl, S', ⟨h.kept.trans (hkk.mono (fun b hb => hb.elim (fun e => e ▸ (h.lo _ hmine).1) (fun h2 => Nat.le_trans h.kept.size h2))), hE, fun b hb => ⟨(hS' b hb).1.elim (fun h2 => (h.lo b h2).1) (fun h2 => Nat.le_trans h.kept.size h2), (hS' b hb).2⟩, by rw [c1]; exact h.cnt.up hit c2⟩, hkk, fun b hb => (hS' b hb).1⟩

/-- A key has been asked for. -/
def OutLA (w wr : World) (S : Nat → Prop) (ge : Nat) (hit : Bool) (gone : List Int) (e1 : Eng) (m : Nat) (x : Ending) (w' : World) : Prop :=
  ∃ v, x = .returned (.tuple #[.bool hit, v, .int .i64 0]) ∧ ∃ S', Went w wr S S' ge e1 m w' ∧ OwnL w' S' v gone

theorem lacc_any (he : Env B ea w) (ho : ErrObj B ea w) (h : LoopE w wr S ge e m) (hm : m ≤ 4000000) {key : Int} {hit : Bool} {gone : List Int} (ha : e.access key = .ok hit gone e1) :
    Calls Tryz.prog 20 #[.pointer (some ⟨ge, 0, none⟩), .int .u64 key] wr (OutLA w wr S ge hit gone e1 (m + 1)) := by
  have hmine := h.eng.mine
  obtain ⟨c1, c2, c3⟩ := access_cnt h.eng.inv.1 ha
  have hacc := eaccess_any (h.env he) (h.err he ho) h.eng (fun b hb => (h.lo b hb).2) hm h.cnt key
  rw [ha] at hacc
  refine hacc.mono ?_
  rintro x w' ⟨hkk, v, rfl, hs, hE⟩
  refine ⟨v, rfl, _, ⟨⟨h.kept.trans (hkk.mono (fun b hb => hb.elim (fun e => e ▸ (h.lo _ hmine).1) (fun h2 => Nat.le_trans h.kept.size h2))), hE.shrink, fun b hb => ⟨hb.1.1.elim (fun h2 => (h.lo b h2).1) (fun h2 => Nat.le_trans h.kept.size h2), hb.2⟩, by rw [c1]; exact h.cnt.up hit c2⟩, hkk, fun b hb => hb.1.1⟩, ⟨⟨_, hs⟩, fun b hb h2 => h2.1.2 hb⟩⟩

/-- An error: nothing has turned. -/
def OutLE (w wr : World) (S : Nat → Prop) (ge : Nat) (k : Nat) (e : Eng) (m : Nat) (x : Ending) (w' : World) : Prop :=
  x = .returned (.tuple #[.bool false, .slice none 0 0, .int .i64 k]) ∧ ∃ S', Went w wr S S' ge e m w'

theorem lerr_any (he : Env B ea w) (ho : ErrObj B ea w) (h : LoopE w wr S ge e m) (hm : m ≤ 4000000) {key : Int} {k : Nat} (ha : e.access key = .err k) :
    Calls Tryz.prog 20 #[.pointer (some ⟨ge, 0, none⟩), .int .u64 key] wr (OutLE w wr S ge k e m) := by
  have hmine := h.eng.mine
  have hacc := eaccess_any (h.env he) (h.err he ho) h.eng (fun b hb => (h.lo b hb).2) hm h.cnt key
  rw [ha] at hacc
  refine hacc.mono ?_
  rintro x w' ⟨hkk, rfl, hE⟩
  exact ⟨rfl, S, ⟨h.kept.trans (hkk.mono (fun b hb => hb.elim (fun e => e ▸ (h.lo _ hmine).1) (fun h2 => Nat.le_trans h.kept.size h2))), hE, fun b hb => ⟨(h.lo b hb).1, Nat.lt_of_lt_of_le (h.lo b hb).2 hkk.size⟩, h.cnt⟩, hkk, fun b hb => .inl hb⟩

/-- The keys of a queue are handed out. -/
def OutLK (wr : World) (l : List Int) (x : Ending) (w' : World) : Prop :=
  ∃ v, x = .returned (.tuple #[v, .int .i64 0]) ∧ Kept (fun b => wr.heap.size ≤ b) wr w' ∧ Sl (fun b => wr.heap.size ≤ b) w' 27 1 v l.length (l.map encU)

theorem lkeys_any (h : LoopE w wr S ge e m) {q : Bytes} (hk : e.keys q = some l) : Calls Tryz.prog 21 #[.pointer (some ⟨ge, 0, none⟩), vs q] wr (OutLK wr l) := by
  have hkeys := ekeys_any h.eng q
  rw [hk] at hkeys
  refine hkeys.mono ?_
  rintro x w' ⟨h1, v, rfl, h2⟩
  exact ⟨v, rfl, h1, h2⟩
end
end Go.Proofs.YtemppijblfflgaaGreatDoor.Ev
namespace Go.Proofs.YtemppijblfflgaaGreatDoor.Ev

theorem isSome_place {l : List Int} {k : Int} : (place l k).isSome = true ↔ k ∈ l := by
  cases h : place l k with
  | none => simpa using place_none.1 h
  | some i => simpa using place_mem h

def lruOut (n : Nat) (l : List Int) (key : Int) : List Int := if (place l key).isSome then [] else missOut n l
def lruNext (n : Nat) (l : List Int) (key : Int) : List Int :=
  match place l key with
  | some i => key :: l.eraseIdx i
  | none => missNext n l key
def lruEng (n : Nat) (l : List Int) (c : Cnt) : Eng := ⟨lruPol n, ⟨[z l], [0]⟩, c⟩

theorem entAt_z {l : List Int} {i : Nat} {key : Int} (h : l[i]? = some key) : entAt (z l) i = ⟨key, 0⟩ := by
  unfold entAt z
  rw [List.getElem?_map, h]; rfl

theorem lru_access {n : Nat} (hn : 1 ≤ n) {l : List Int} (hl : l.length ≤ n) (c : Cnt) (key : Int) :
    (lruEng n l c).access key = .ok (place l key).isSome (lruOut n l key) (lruEng n (lruNext n l key) (cntUp c (place l key).isSome (lruOut n l key).length)) := by
  have hw : whereQ (lruEng n l c).s key = if (place l key).isSome then 0 else -1 := by
    unfold whereQ lruEng
    simp only [find1, z_keys]
    cases place l key <;> rfl
  cases hp : place l key with
  | some i =>
    obtain ⟨hi, hk⟩ := place_get hp
    have hx : exec (lruPol n) key (.prim (.put 0 false) .nil) ⟨⟨[z l], [0]⟩, []⟩ = .ok ⟨⟨[z (key :: l.eraseIdx i)], [0]⟩, []⟩ := by
      have hput : prim (lruPol n) key (.put 0 false) ⟨⟨[z l], [0]⟩, []⟩ = .ok ⟨⟨[z (key :: l.eraseIdx i)], [0]⟩, []⟩ := by
        unfold prim
        simp only [find1, z_keys, hp, Option.map_some]
        have e1 : entAt ((⟨[z l], [0]⟩ : St).queue ((0 : Nat) : Int)) i = ⟨key, 0⟩ := entAt_z hk
        have e2 : (⟨[z l], [0]⟩ : St).out 0 i = ⟨[z (l.eraseIdx i)], [0]⟩ := by
          show (⟨[(z l).eraseIdx i], [0]⟩ : St) = _
          rw [z_erase]
        rw [e1, e2]
        unfold comes
        rw [if_neg]
        · rfl
        · show ¬ (n : Int) ≤ ((z (l.eraseIdx i)).length : Int)
          rw [z_len, List.length_eraseIdx, if_pos hi]; omega
      unfold exec
      rw [hput]; rfl
    have e := access_eq (lruEng n l c) key _ (by rw [hw, hp]; exact hx)
    rw [hw, hp] at e
    simp only [lruOut, lruNext, hp, Option.isSome_some, if_true] at e ⊢
    exact e
  | none =>
    have hx := exec_fullEv (p := lruPol n) (l := l) hn rfl rfl hl [0] [] (fun _ => find1_none) hp
    have e := access_eq (lruEng n l c) key _ (by rw [hw, hp]; exact hx)
    rw [hw, hp] at e
    simp only [lruOut, lruNext, hp, Option.isSome_none, Bool.false_eq_true, if_false] at e ⊢
    exact e

theorem lruNext_len {n : Nat} {l : List Int} (hn : 1 ≤ n) (hl : l.length ≤ n) (key : Int) : (lruNext n l key).length ≤ n := by
  unfold lruNext
  split
  · rename_i i h
    have := (place_get h).1
    rw [List.length_cons, List.length_eraseIdx, if_pos this]; omega
  · exact missNext_len hn hl key
theorem lru_keys (n : Nat) (l : List Int) (c : Cnt) : (lruEng n l c).keys [114] = some l := by
  unfold Eng.keys lruEng
  have e : find (lruPol n).decls [114] = 0 := rfl
  simp only [e]
  rw [if_neg (by rintro (h | h) <;> simp [lruPol, declAt] at h)]
  show some ((z l).map (·.key)) = _
  rw [z_keys]
theorem lru_new (n : Nat) : Eng.new (lruPol n) = lruEng n [] ⟨0, 0, 0⟩ := rfl

theorem take_eraseIdx {l : List Int} {i n : Nat} (h : i < n) : (l.eraseIdx i).take (n - 1) = (l.take n).eraseIdx i := by
  induction l generalizing i n with
  | nil => simp
  | cons x l ih =>
    obtain ⟨n, rfl⟩ : ∃ k, n = k + 1 := ⟨n - 1, by omega⟩
    cases i with
    | zero => simp
    | succ i =>
      obtain ⟨n, rfl⟩ : ∃ k, n = k + 1 := ⟨n - 1, by omega⟩
      have := ih (i := i) (n := n + 1) (by omega)
      simp only [List.eraseIdx_cons_succ, List.take_succ_cons, Nat.add_sub_cancel] at this ⊢
      rw [this]

theorem place_take_some {l : List Int} {key : Int} {i n : Nat} (h : place l key = some i) (hi : i < n) : place (l.take n) key = some i := by
  unfold place at *
  obtain ⟨h1, h2, h3⟩ := List.findIdx?_eq_some_iff_getElem.1 h
  refine List.findIdx?_eq_some_iff_getElem.2 ⟨by rw [List.length_take]; omega, by rw [List.getElem_take]; exact h2, fun j hj => ?_⟩
  rw [List.getElem_take]
  exact h3 j hj
theorem place_take_none {l : List Int} {key : Int} {n : Nat} (h : ∀ i, place l key = some i → n ≤ i) : place (l.take n) key = none := by
  cases hx : place (l.take n) key with
  | none => rfl
  | some i =>
    exfalso
    obtain ⟨h1, h2⟩ := place_get hx
    rw [List.length_take] at h1
    unfold place at hx
    obtain ⟨g1, g2, g3⟩ := List.findIdx?_eq_some_iff_getElem.1 hx
    have : place l key = some i := by
      unfold place
      refine List.findIdx?_eq_some_iff_getElem.2 ⟨by omega, by rw [List.getElem_take] at g2; exact g2, fun j hj => ?_⟩
      have := g3 j hj
      rw [List.getElem_take] at this
      exact this
    have := h i this
    omega

/-- A greater cache holds all that a smaller one does. -/
theorem lru_incl {n : Nat} (hn : 1 ≤ n) {l m : List Int} (h : l = m.take n) (hm : m.length ≤ n + 1) (key : Int) :
    lruNext n l key = (lruNext (n + 1) m key).take n := by
  have hl : l.length = min n m.length := by rw [h, List.length_take]
  unfold lruNext
  cases hp : place m key with
  | some i =>
    obtain ⟨hi, hk⟩ := place_get hp
    by_cases hin : i < n
    · rw [h, place_take_some hp hin]
      simp only
      obtain ⟨n, rfl⟩ : ∃ k, n = k + 1 := ⟨n - 1, by omega⟩
      rw [List.take_succ_cons]
      have := take_eraseIdx (l := m) hin
      simp only [Nat.add_sub_cancel] at this
      rw [this]
    · have hie : i = n := by omega
      have hpl : place l key = none := by rw [h]; exact place_take_none (fun j hj => by rw [hp] at hj; injection hj with hj; omega)
      rw [hpl]
      simp only
      unfold missNext
      rw [if_pos (by omega)]
      obtain ⟨n, rfl⟩ : ∃ k, n = k + 1 := ⟨n - 1, by omega⟩
      rw [List.take_succ_cons, h, Nat.add_sub_cancel]
      congr 1
      have e2 : (m.take (n + 1)).eraseIdx n = m.take n := by
        rw [List.eraseIdx_eq_take_drop_succ, List.take_take, List.drop_eq_nil_of_le (by rw [List.length_take]; omega), List.append_nil]
        congr 1
        omega
      have e1 : m.eraseIdx (n + 1) = m.take (n + 1) := by
        rw [List.eraseIdx_eq_take_drop_succ, List.drop_eq_nil_of_le (by omega), List.append_nil]
      rw [e2, hie, e1, List.take_take]
      congr 1
      omega
  | none =>
    have hpl : place l key = none := by rw [h]; exact place_take_none (fun j hj => by rw [hp] at hj; cases hj)
    rw [hpl]
    simp only
    unfold missNext
    obtain ⟨n, rfl⟩ : ∃ k, n = k + 1 := ⟨n - 1, by omega⟩
    rw [List.take_succ_cons]
    congr 1
    simp only [Nat.add_sub_cancel]
    by_cases h1 : l.length = n + 1
    · rw [if_pos h1, h]
      have e2 : (m.take (n + 1)).eraseIdx n = m.take n := by
        rw [List.eraseIdx_eq_take_drop_succ, List.take_take, List.drop_eq_nil_of_le (by rw [List.length_take]; omega), List.append_nil]
        congr 1
        omega
      rw [e2]
      by_cases h2 : m.length = n + 1 + 1
      · rw [if_pos h2]
        have e1 : m.eraseIdx (n + 1) = m.take (n + 1) := by
          rw [List.eraseIdx_eq_take_drop_succ, List.drop_eq_nil_of_le (by omega), List.append_nil]
        rw [e1, List.take_take]
        congr 1
        omega
      · rw [if_neg h2]
    · rw [if_neg h1]
      have h3 : m.length ≤ n := by omega
      rw [if_neg (by omega), h, List.take_of_length_le (by omega), List.take_of_length_le h3]

/-! ## A variable between its bounds -/
def satEng (m : Nat) (l : List Int) (v : Int) (c : Cnt) : Eng := ⟨satPol m, ⟨[z l, []], [0, v]⟩, c⟩
def satNext (m : Nat) (l : List Int) (v : Int) (key : Int) : List Int × Int :=
  if (place l key).isSome then (l, max (v - 1) 0) else (missNext 50 l key, min (v + 1) m)

theorem find_sat {l v : List Int} {key : Int} : (⟨[z l, []], v⟩ : St).find key = (place l key).map (fun i => (0, i)) := by
  unfold St.find
  simp only [whereFrom, place_z]
  cases place l key <;> rfl

theorem sat_access {m : Nat} {l : List Int} {v : Int} (hl : l.length ≤ 50) (hv : 0 ≤ v ∧ v ≤ m) (c : Cnt) (key : Int) :
    ∃ hit out c', (satEng m l v c).access key = .ok hit out (satEng m (satNext m l v key).1 (satNext m l v key).2 c') := by
  have hw : whereQ (satEng m l v c).s key = if (place l key).isSome then 0 else -1 := by
    unfold whereQ satEng
    simp only [find_sat]
    cases place l key <;> rfl
  cases hp : place l key with
  | some i =>
    have hx : exec (satPol m) key (.prim (.dec 1) .nil) ⟨⟨[z l, []], [0, v]⟩, []⟩ = .ok ⟨⟨[z l, []], [0, max (v - 1) 0]⟩, []⟩ := by
      have hd : prim (satPol m) key (.dec 1) ⟨⟨[z l, []], [0, v]⟩, []⟩ = .ok ⟨⟨[z l, []], [0, max (v - 1) 0]⟩, []⟩ := by
        unfold prim
        have e0 : (⟨[z l, []], [0, v]⟩ : St).var 1 = v := rfl
        simp only [e0]
        by_cases h : 0 < v
        · rw [if_pos h]
          have : max (v - 1) 0 = v - 1 := by omega
          rw [this]; rfl
        · rw [if_neg h]
          have : max (v - 1) 0 = v := by omega
          rw [this]
      unfold exec
      rw [hd]; rfl
    have e := access_eq (satEng m l v c) key _ (by rw [hw, hp]; exact hx)
    have en : satNext m l v key = (l, max (v - 1) 0) := by unfold satNext; rw [hp]; rfl
    rw [en]
    exact ⟨_, _, _, e⟩
  | none =>
    have hx : exec (satPol m) key (.prim (.inc 1) fullEv) ⟨⟨[z l, []], [0, v]⟩, []⟩ = .ok ⟨⟨[z (missNext 50 l key), []], [0, min (v + 1) m]⟩, missOut 50 l⟩ := by
      have hd : prim (satPol m) key (.inc 1) ⟨⟨[z l, []], [0, v]⟩, []⟩ = .ok ⟨⟨[z l, []], [0, min (v + 1) m]⟩, []⟩ := by
        unfold prim
        have e0 : (⟨[z l, []], [0, v]⟩ : St).var 1 = v := rfl
        have e1 : (declAt (satPol m).decls 1).max = (m : Int) := rfl
        simp only [e0, e1]
        by_cases h : v < m
        · rw [if_pos h]
          have : min (v + 1) (m : Int) = v + 1 := by omega
          rw [this]; rfl
        · rw [if_neg h]
          have : min (v + 1) (m : Int) = v := by omega
          rw [this]
      rw [exec, hd]
      exact exec_fullEv (p := satPol m) (n := 50) (by decide) rfl rfl hl _ [[]] (fun l hl => by rw [find_sat, hl]; rfl) hp
    have e := access_eq (satEng m l v c) key _ (by rw [hw, hp]; exact hx)
    have en : satNext m l v key = (missNext 50 l key, min (v + 1) m) := by unfold satNext; rw [hp]; rfl
    rw [en]
    exact ⟨_, _, _, e⟩

theorem sat_value (m : Nat) (l : List Int) (v : Int) (c : Cnt) : (satEng m l v c).value [118] = some v := by
  unfold Eng.value satEng
  have e : find (satPol m).decls [118] = 1 := rfl
  simp only [e]
  rw [if_neg (by rintro (h | h) <;> simp [satPol, declAt] at h)]
  rfl
theorem sat_new (m : Nat) : Eng.new (satPol m) = satEng m [] 0 ⟨0, 0, 0⟩ := rfl
theorem sat_keys0 (m : Nat) (c : Cnt) : (satEng m [] 0 c).keys [114] = some [] := by
  unfold Eng.keys satEng
  have e : find (satPol m).decls [114] = 0 := rfl
  simp only [e]
  rw [if_neg (by rintro (h | h) <;> simp [satPol, declAt] at h)]
  rfl

/-- The keys so far are numbers up to i; the last that came stands first. -/
structure SatL (i : Nat) (last : Int) (l : List Int) : Prop where
  le : ∀ x ∈ l, 1 ≤ x ∧ x ≤ i
  len : l.length ≤ 50
  head : last = 0 ∨ l.head? = some last

theorem SatL.fresh {i : Nat} {last : Int} {l : List Int} (h : SatL i last l) (m : Nat) (v : Int) : satNext m l v ((i : Int) + 1) = (missNext 50 l ((i : Int) + 1), min (v + 1) m) ∧ SatL (i + 1) ((i : Int) + 1) (missNext 50 l ((i : Int) + 1)) := by
  have hp : place l ((i : Int) + 1) = none := place_none.2 (fun hx => by have := h.le _ hx; omega)
  refine ⟨by unfold satNext; rw [hp]; rfl, ?_, missNext_len (by decide) h.len _, .inr rfl⟩
  intro x hx
  unfold missNext at hx
  rcases List.mem_cons.1 hx with rfl | hx
  · omega
  · have hxl : x ∈ l := by
      split at hx
      · exact List.mem_of_mem_eraseIdx hx
      · exact hx
    have := h.le x hxl
    omega
theorem SatL.again {i : Nat} {last : Int} {l : List Int} (h : SatL i last l) (h0 : 0 < last) (m : Nat) (v : Int) : satNext m l v last = (l, max (v - 1) 0) ∧ SatL (i + 1) last l := by
  have hh : l.head? = some last := h.head.resolve_left (by omega)
  have hm : last ∈ l := List.mem_of_mem_head? hh
  refine ⟨by unfold satNext; rw [isSome_place.2 hm]; rfl, fun x hx => ?_, h.len, .inr hh⟩
  have := h.le x hx
  omega
end Go.Proofs.YtemppijblfflgaaGreatDoor.Ev
namespace Go.Proofs.YtemppijblfflgaaGreatDoor.Ev
open Go Go.RowKit

/-- The texts, as the code writes them. -/
def satA : ByteArray := ⟨#[113, 117, 101, 117, 101, 32, 114, 32, 53, 48, 59, 32, 118, 97, 114, 32, 118, 32]⟩
def satB : ByteArray := ⟨#[59, 32, 111, 110, 32, 114, 32, 123, 32, 100, 101, 99, 32, 118, 59, 32, 125, 32, 111, 110, 32, 109, 105, 115, 115, 32, 123, 32, 105, 110, 99, 32, 118, 59, 32, 105, 102, 32, 102, 117, 108, 108, 32, 114, 32, 123, 32, 101, 118, 105, 99, 116, 32, 114, 59, 32, 125, 32, 112, 117, 116, 32, 114, 59, 32, 125]⟩
section
variable {B : Nat} {ea : Nat → Addr} {w : World}

theorem satText (n : Int) : satA ++ ⟨(digits n).toArray⟩ ++ satB = ⟨(satTxt n).toArray⟩ := by
  unfold satA satB
  rw [vs_app, vs_app]
  unfold satTxt satT0 satT1
  simp only [List.cons_append, List.nil_append, List.append_assoc]


/-- The value of a variable is told. -/
def OutLV (wr : World) (n : Int) (x : Ending) (w' : World) : Prop := x = .returned (.tuple #[.int .i64 n, .int .i64 0]) ∧ Kept (fun b => wr.heap.size ≤ b) wr w'
theorem lvalue_any {wr : World} {S : Nat → Prop} {ge m : Nat} {e : Eng} (h : LoopE w wr S ge e m) {q : Bytes} {n : Int} (hk : e.value q = some n) : Calls Tryz.prog 25 #[.pointer (some ⟨ge, 0, none⟩), vs q] wr (OutLV wr n) := by
  have hv := evalue_any h.eng q
  rw [hk] at hv
  refine hv.mono ?_
  rintro x w' ⟨h1, rfl⟩
  exact ⟨rfl, h1⟩

set_option maxRecDepth 100000 in
set_option maxHeartbeats 8000000 in
theorem sat_walk (he : Env B ea w) (ho : ErrObj B ea w) (s : ByteArray) (hs : s.size ≤ maxLen) (c : Int) (h1 : -9223372036854775808 ≤ c) (h2 : c ≤ 9223372036854775807) :
    Calls Tryz.prog 9 #[.string s, .int .i64 c] w (TrueK w) := by
  obtain ⟨k0, hpk, hk0⟩ := pickN_nat c (n := 99) (by omega)
  have hpick := pick_any (w := w) c 99 h1 h2 (by omega) (by omega)
  have hfig := fun W => fig_any (w := W) (n := 1 + (k0 : Int)) (by omega) (by omega)
  rw [hpk] at hpick
  have hd3 := dig_len (n := 1 + (k0 : Int)) (by omega) (by omega)
  unfold maxLen at hs
  have HE := Lib.hid he
  have HO := Lib.hid ho
  have HP := Lib.hid hpick
  have HF := Lib.hid hfig
  clear he ho hpick hfig hpk h1 h2
  go_enter Tryz.func9, Tryz.ntmps9
  go_wp2_with fail
  refine HP.out.mono ?_
  rintro e w0 ⟨rfl, rfl⟩
  go_wp2_with fail
  refine (HF.out _).mono ?_
  rintro e w1 ⟨rfl, hk1⟩
  have hload := kload_any (HE.out.kept hk1 (fun b hb => Nat.le_trans HE.out.size hb)) (HO.out.kept hk1 (fun b hb => Nat.le_trans HE.out.size hb)) (satRead (m := 1 + (k0 : Int)) (by omega)) (q := [114]) (sat_keys0 (1 + k0) ⟨0, 0, 0⟩)
  unfold vs at *
  rw [← satText] at hload
  have HL := Lib.hid hload
  have K1 := Lib.hid hk1
  clear hload hk1
  go_wp2_with fail
  refine HL.out.mono ?_
  rintro e w2 hh
  obtain ⟨ge, S0, rfl, hL0, _, _⟩ := LoopE.of_load K1.out hh
  have L0 := Lib.hid hL0
  clear hL0 hh K1 HL hd3
  go_wp2
  go_loopg [8, 6, 7] s.size (fun gg s8 s6 s7 wr => ∃ (k : Nat) (S : Nat → Prop) (l : List Int) (v last : Int) (cn : Cnt), k ≤ s.size ∧ k ≤ 16384 ∧ s.size - k ≤ gg ∧ s8 = .int .i64 k ∧ s6 = .int .i64 v ∧ s7 = .int .u64 last ∧ 0 ≤ v ∧ v ≤ 1 + (k0 : Int) ∧ 0 ≤ last ∧ last ≤ k ∧ SatL k last l ∧ LoopE w0 wr S ge (satEng (1 + k0) l v cn) k)
  case atStart => exact ⟨0, S0, [], 0, 0, ⟨0, 0, 0⟩, Nat.zero_le _, Nat.zero_le _, by omega, rfl, rfl, rfl, by omega, by omega, by omega, by omega, ⟨(fun x h => by cases h), Nat.zero_le _, .inl rfl⟩, L0.out⟩
  case round =>
    obtain ⟨k, S, l, v, last, cn, hk, hk2, hg, rfl, rfl, rfl, hv0, hv1, hl0, hl1, hsl, L⟩ := hrel
    clear L0
    have HL := Lib.hid L
    have HSL := Lib.hid hsl
    clear hsl
    by_cases hlt : k < s.size
    · by_cases hb : k < 16384
      · have hax := fun key => sat_access (m := 1 + k0) (l := l) (v := v) HSL.out.len (by omega) cn key
        have HAX := Lib.hid hax
        have e0 : ((k : Int) + 1) % 18446744073709551616 = (k : Int) + 1 := by omega
        have E0 := Lib.hid e0
        clear hax e0 L
        have f0 : decide ((k : Int) < 16384) = true := by simp; omega
        have HAN := fun h0 => HSL.out.again h0 (1 + k0) v
        have HFR := HSL.out.fresh (1 + k0) v
        have HAN' := Lib.hid HAN
        have HFR' := Lib.hid HFR
        clear HAN HFR
        by_cases hodd : (s[k].toNat : Int) % 2 = 1
        · have f1 : ((s[k].toNat : Int) % 2 == 1) = true := by simpa using hodd
          have f2 : decide ((s[k].toNat : Int) % 2 = 1) = true := by simpa using hodd
          have HODD := Lib.hid hodd
          clear hodd
          by_cases hl2 : 0 < last
          · have f3 : decide (0 < last) = true := by simpa using hl2
            obtain ⟨hit, out, c', ha⟩ := HAX.out last
            have hnx := HAN'.out hl2
            rw [hnx.1] at ha
            have hacc := lacc_any HE.out HO.out HL.out (by omega) ha
            have HACC := Lib.hid hacc
            have HNX := Lib.hid hnx.2
            have b1 : 0 ≤ max (v - 1) 0 := by omega
            have b2 : max (v - 1) 0 ≤ 1 + (k0 : Int) := by omega
            clear hacc ha hnx
            go_wp2_with fail
            refine HACC.out.mono ?_
            rintro x w5 ⟨v5, rfl, S', hW, _⟩
            have hval := lvalue_any hW.loop (sat_value (1 + k0) _ _ _)
            have HVAL := Lib.hid hval
            have HW := Lib.hid hW.loop
            clear hval hW
            go_wp2_with fail
            refine HVAL.out.mono ?_
            rintro x w6 ⟨rfl, hk6⟩
            have HW6 := Lib.hid (HW.out.later hk6)
            clear hk6
            go_wp2
            go_roundg (s.size - (k + 1))
            case measure => omega
            case rel => exact ⟨k + 1, S', _, max (v - 1) 0, last, c', by omega, by omega, by omega, by go_num, rfl, rfl, b1, b2, by omega, by omega, HNX.out, HW6.out⟩
          · have f3 : decide (0 < last) = false := by simpa using hl2
            obtain ⟨hit, out, c', ha⟩ := HAX.out ((k : Int) + 1)
            have hnx := HFR'.out
            rw [hnx.1] at ha
            have hacc := lacc_any HE.out HO.out HL.out (by omega) ha
            have HACC := Lib.hid hacc
            have HNX := Lib.hid hnx.2
            have b1 : 0 ≤ min (v + 1) (1 + (k0 : Int)) := by omega
            have b2 : min (v + 1) (1 + (k0 : Int)) ≤ 1 + (k0 : Int) := by omega
            clear hacc ha hnx
            go_wp2_with fail
            refine HACC.out.mono ?_
            rintro x w5 ⟨v5, rfl, S', hW, _⟩
            have hval := lvalue_any hW.loop (sat_value (1 + k0) _ _ _)
            have HVAL := Lib.hid hval
            have HW := Lib.hid hW.loop
            clear hval hW
            go_wp2_with fail
            refine HVAL.out.mono ?_
            rintro x w6 ⟨rfl, hk6⟩
            have HW6 := Lib.hid (HW.out.later hk6)
            clear hk6
            go_wp2
            go_roundg (s.size - (k + 1))
            case measure => omega
            case rel => exact ⟨k + 1, S', _, min (v + 1) (1 + (k0 : Int)), ((k : Int) + 1), c', by omega, by omega, by omega, by go_num, rfl, rfl, b1, b2, by omega, by omega, HNX.out, HW6.out⟩
        · have f1 : ((s[k].toNat : Int) % 2 == 1) = false := by simpa using hodd
          have f2 : decide ((s[k].toNat : Int) % 2 = 1) = false := by simpa using hodd
          have HODD := Lib.hid hodd
          clear hodd
          obtain ⟨hit, out, c', ha⟩ := HAX.out ((k : Int) + 1)
          have hnx := HFR'.out
          rw [hnx.1] at ha
          have hacc := lacc_any HE.out HO.out HL.out (by omega) ha
          have HACC := Lib.hid hacc
          have HNX := Lib.hid hnx.2
          have b1 : 0 ≤ min (v + 1) (1 + (k0 : Int)) := by omega
          have b2 : min (v + 1) (1 + (k0 : Int)) ≤ 1 + (k0 : Int) := by omega
          clear hacc ha hnx
          go_wp2_with fail
          refine HACC.out.mono ?_
          rintro x w5 ⟨v5, rfl, S', hW, _⟩
          have hval := lvalue_any hW.loop (sat_value (1 + k0) _ _ _)
          have HVAL := Lib.hid hval
          have HW := Lib.hid hW.loop
          clear hval hW
          go_wp2_with fail
          refine HVAL.out.mono ?_
          rintro x w6 ⟨rfl, hk6⟩
          have HW6 := Lib.hid (HW.out.later hk6)
          clear hk6
          go_wp2
          go_roundg (s.size - (k + 1))
          case measure => omega
          case rel => exact ⟨k + 1, S', _, min (v + 1) (1 + (k0 : Int)), ((k : Int) + 1), c', by omega, by omega, by omega, by go_num, rfl, rfl, b1, b2, by omega, by omega, HNX.out, HW6.out⟩
      · have f0 : decide ((k : Int) < 16384) = false := by simp; omega
        have hk3 := L.kept
        clear L
        go_wp2
        go_ret
        exact ⟨rfl, hk3⟩
    · have hk3 := L.kept
      have hke : k = s.size := by omega
      clear L
      subst hke
      go_wp2
      go_ret
      exact ⟨rfl, hk3⟩
end
end Go.Proofs.YtemppijblfflgaaGreatDoor.Ev
namespace Go.Proofs.YtemppijblfflgaaGreatDoor.Ev
open Go Go.ChangeShapes Go.WideShapes Go.ChangeAt Go.RowKit
open Go.ChangeMaps (open_string shut_string)

namespace saturatesLaw
theorem bears : Bears Rows.saturatesRow.laid := by
  refine ⟨?_, ?_, ?_, ?_, ?_, ?_, ?_, ?_, ?_, ?_, ?_, ?_, ?_, ?_⟩ <;> (unfold Rows.saturatesRow; simp only [List.mem_cons, true_or, or_true])

set_option maxRecDepth 100000 in
theorem contract (H : Type) (enc : TypeId × Value → H) (W : World) (base : Nat) (args : Array Value) (ds gs : List (DataW H)) (before : List MemPlace)
    (hval : ∀ (j : Nat) t v, Tryz.f9.params[j]? = some t → args[j]? = some v → Value.okWide Tryz.prog W .any base t v)
    (hW : DataW.Whole enc Tryz.prog Tryz.f9.params.toList Rows.saturatesSpec.vars false W args.toList ds gs before) (hL : laidMetH Tryz.prog Rows.saturatesRow.laid W) :
    Calls Tryz.prog 9 args W fun e W' => ∃ v, e = .returned v ∧ Rows.saturatesSpec.post enc Tryz.prog Tryz.f9 false true false false W args v W' := by
  have hW' := hW
  obtain ⟨p, q, hA0, hV, rfl, hfz, hnd⟩ := hW
  have hA : DataW.TrodAll enc Tryz.prog W 0 (fun _ => true) true Tryz.f9.params.toList args.toList ds p := hA0
  rw [Tryz.params9] at hA hval
  obtain ⟨v0, v1, d0, d1, p0, p1, rfl, rfl, rfl, h0, h1⟩ := trodAll_two hA
  obtain ⟨x0, rfl, rfl, rfl, hb0⟩ := open_string Tryz.underlying9 (hval 0 9 v0 rfl rfl) h0
  obtain ⟨x1, rfl, rfl, rfl, hw1⟩ := open_int Tryz.underlying3 (hval 1 3 v1 rfl rfl) h1
  have hb1 := bounds_i64 hw1
  obtain ⟨ea, he, ho⟩ := env_of hL bears
  refine (sat_walk he ho x0 hb0 x1 hb1.1 hb1.2).mono fun e W' ⟨h8, h9⟩ => ?_
  subst h8
  exact ⟨_, rfl, post_true laidOut_ rfl hW' (fun ds' hd => by
    obtain ⟨a0, a1, rfl⟩ : ∃ a0 a1, ds' = [a0, a1] := by
      match ds', hd with
      | [a0, a1], _ => exact ⟨a0, a1, rfl⟩
    rfl) rfl Tryz.underlying4 (by
      intro t ht
      rw [Tryz.params9] at ht
      have ht : t ∈ ([9, 3] : List TypeId) := ht
      rcases List.mem_cons.1 ht with rfl | ht
      · exact ⟨by kernel_rfl, of_decide_eq_true (by kernel_rfl)⟩
      rcases List.mem_cons.1 ht with rfl | ht
      · exact ⟨by kernel_rfl, of_decide_eq_true (by kernel_rfl)⟩
      cases ht) h9⟩

theorem laid_met (os : Os) : laidMetH Tryz.prog Rows.saturatesRow.laid ((laidWorld os).forCall (fun _ _ => 0) ⟨#[], #[.string ⟨#[]⟩, .int .i64 0], []⟩).memory :=
  laidMetH_of_parts (LaidIn.of_run (List.range 1000) 8 (by kernel_rfl) (by kernel_rfl) (by kernel_rfl) (by kernel_rfl)).met (by kernel_rfl)

theorem witness_row (os : Os) {H : Type} (enc : TypeId × Value → H) :
    (OpenSpec.ofChange Rows.saturatesSpec).preRow enc Tryz.prog Tryz.f9 Rows.saturatesRow.domain false Rows.saturatesRow.laid ((laidWorld os).forCall (fun _ _ => 0) ⟨#[], #[.string ⟨#[]⟩, .int .i64 0], []⟩).memory #[.string ⟨#[]⟩, .int .i64 0] := by
  have hw : (DataW.whole enc Tryz.prog ((laidWorld os).forCall (fun _ _ => 0) ⟨#[], #[.string ⟨#[]⟩, .int .i64 0], []⟩).memory Tryz.f9.params.toList (OpenSpec.ofChange Rows.saturatesSpec).vars false (#[.string ⟨#[]⟩, .int .i64 0] : Array Value).toList 8).map (fun x => (x.1, x.2.1)) =
      some ([.lit (.string []), .lit (.int .i64 0)], []) := by kernel_rfl
  obtain ⟨⟨x1, x2, x3⟩, hx, hx1⟩ := Option.map_eq_some_iff.1 hw
  simp only [Prod.mk.injEq] at hx1
  obtain ⟨rfl, rfl⟩ := hx1
  exact OpenSpec.preRow_of_cond 8 hx (by kernel_rfl) (fun k hk => by cases hk) (by kernel_rfl) (laid_met os)

set_option maxRecDepth 100000 in
theorem lifted (os : Os) (started : os.Started) (H : Type) (enc : TypeId × Value → H) (F : Stop.Interp) :
    ReturnsInHanded {} Tryz.checked os 9 .any ((OpenSpec.ofChange Rows.saturatesSpec).preRow enc Tryz.prog Tryz.f9 Rows.saturatesRow.domain false Rows.saturatesRow.laid) (((OpenSpec.ofChange Rows.saturatesSpec).at F).post enc Tryz.prog Tryz.f9 false true false false) := by
  refine returnsInHanded_of_row (C := Tryz.checked) (s := OpenSpec.ofChange Rows.saturatesSpec) ownKnob_ started (by kernel_rfl) Tryz.func9
    (witness_row_atRef (enc := enc) (C := Tryz.checked) false (laidWorld os) #[.string ⟨#[]⟩, .int .i64 0] rfl (by kernel_rfl) (by kernel_rfl) (by kernel_rfl) (witness_row os enc)) ?_
  intro W base args ds gs before hval hW _ _ _ hL _ _
  exact contract H enc W base args ds gs before hval hW hL

theorem said : Rows.SaturatesSaid :=
  OpenClaim.holds_of_cond 9 Tryz.f9 rfl rfl rfl rfl rfl rfl rfl ⟨rfl, rfl, rfl, rfl, rfl⟩ rfl rfl rfl rfl rfl (by kernel_rfl) Tryz.func9 (by kernel_rfl)
    (of_decide_eq_true (by kernel_rfl)) (by unfold Func.isWrapper; first | (rw [if_pos (by decide +kernel)]; kernel_rfl) | (rw [if_neg (by decide +kernel)]; exact ⟨rfl, rfl⟩))
    (fun os started H enc _ F => by rw [OpenClaim.pre_eq_preRow]; exact lifted os started H enc F)

theorem plain (f : FuncId) (fn : Func) (hf : Tryz.pinned.checked.prog.funcNamed "evictor/evictorkeep.Saturates" = some f) (hfn : Tryz.pinned.checked.prog.funcs[f]? = some fn) :
    true = Tryz.pinned.checked.prog.looks [] ∧ ∀ (j : Nat) t, fn.params[j]? = some t → Tryz.pinned.checked.prog.wantsStandIn t = false := by
  obtain rfl : f = 9 := Option.some.inj ((show Tryz.prog.funcNamed "evictor/evictorkeep.Saturates" = some 9 by kernel_rfl).symm.trans hf) |>.symm
  obtain rfl : fn = Tryz.f9 := (Option.some.inj (Tryz.func9.symm.trans hfn)).symm
  refine ⟨by kernel_rfl, fun j t ht => ?_⟩
  rw [Tryz.params9] at ht
  have ht : t ∈ ([9, 3] : List TypeId) := (Array.mem_of_getElem? ht).1
  rcases List.mem_cons.1 ht with rfl | ht
  · exact (show Tryz.prog.wantsStandIn 9 = false by kernel_rfl)
  rcases List.mem_cons.1 ht with rfl | ht
  · exact (show Tryz.prog.wantsStandIn 3 = false by kernel_rfl)
  cases ht

theorem proved : Rows.SaturatesCardSaid :=
  Claim7.holds_tied_plain_at .later [] _ _ _ _ said (fun _ h => by cases h) (by kernel_rfl) (fun _ h => by cases h) saturates_row_tie rfl ⟨rfl, rfl⟩ (by kernel_rfl) rfl plain (by kernel_rfl)
end saturatesLaw
end Go.Proofs.YtemppijblfflgaaGreatDoor.Ev
