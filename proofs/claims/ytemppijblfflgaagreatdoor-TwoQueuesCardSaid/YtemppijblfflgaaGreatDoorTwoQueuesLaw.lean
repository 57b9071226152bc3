/- Lru, and a greater cache beside a smaller one; a variable between its bounds. No program in sight. Clock beside plain lists. No program in sight. Two queues and a ghost beside plain lists. No program in sight. TwoQueues: walked. TwoQueues: for every input the law returns true. Conditions: none. -/
import Derived.SevenTiedAt
import Derived.Test.YtemppijblfflgaaGreatDoorZc16
import Derived.Test.YtemppijblfflgaaGreatDoorZc17
set_option linter.all false
set_option linter.unusedSimpArgs false
set_option linter.unusedVariables false
namespace Go.Proofs.YtemppijblfflgaaGreatDoor.Ev

theorem isSome_place {l : List Int} {k : Int} : (place l k).isSome = true ↔ k ∈ l := by
  cases h : place l k with
  | none => simpa using place_none.1 h
  | some i => simpa using place_mem h

theorem entAt_z {l : List Int} {i : Nat} {key : Int} (h : l[i]? = some key) : entAt (z l) i = ⟨key, 0⟩ := by
  unfold entAt z
  rw [List.getElem?_map, h]; rfl

/-! ## A variable between its bounds -/
def satNext (m : Nat) (l : List Int) (v : Int) (key : Int) : List Int × Int :=
  if (place l key).isSome then (l, max (v - 1) 0) else (missNext 50 l key, min (v + 1) m)

/-- The keys so far are numbers up to i; the last that came stands first. -/
structure SatL (i : Nat) (last : Int) (l : List Int) : Prop where
  le : ∀ x ∈ l, 1 ≤ x ∧ x ≤ i
  len : l.length ≤ 50
  head : last = 0 ∨ l.head? = some last

theorem SatL.fresh {i : Nat} {last : Int} {l : List Int} (h : SatL i last l) (m : Nat) (v : Int) : satNext m l v ((i : Int) + 1) = (missNext 50 l ((i : Int) + 1), min (v + 1) m) ∧ SatL (i + 1) ((i : Int) + 1) (missNext 50 l ((i : Int) + 1)) := by
  have hp : place l ((i : Int) + 1) = none := place_none.2 (fun hx => by have := h.le _ hx; omega)
  refine ⟨by unfold satNext; rw [hp]; rfl, ?_, missNext_len (by decide) h.len _, .inr rfl⟩
  intro x hx
  unfold missNext at hx
  rcases List.mem_cons.1 hx with rfl | hx
  · omega
  · have hxl : x ∈ l := by
      split at hx
      · exact List.mem_of_mem_eraseIdx hx
      · exact hx
    have := h.le x hxl
    omega
theorem SatL.again {i : Nat} {last : Int} {l : List Int} (h : SatL i last l) (h0 : 0 < last) (m : Nat) (v : Int) : satNext m l v last = (l, max (v - 1) 0) ∧ SatL (i + 1) last l := by
  have hh : l.head? = some last := h.head.resolve_left (by omega)
  have hm : last ∈ l := List.mem_of_mem_head? hh
  refine ⟨by unfold satNext; rw [isSome_place.2 hm]; rfl, fun x hx => ?_, h.len, .inr hh⟩
  have := h.le x hx
  omega
end Go.Proofs.YtemppijblfflgaaGreatDoor.Ev
namespace Go.Proofs.YtemppijblfflgaaGreatDoor.Ev

/-- A key's entry: its frequency is 1, if it is warm. -/
def fq (w : List Int) (k : Int) : Ent := ⟨k, if (place w k).isSome then 1 else 0⟩
/-- The lists as they stand. -/
structure CInv (n : Nat) (l w : List Int) : Prop where
  len : l.length ≤ n
  nl : l.Nodup
  nw : w.Nodup
  sub : ∀ x ∈ w, x ∈ l

theorem mem_eraseIdx_place {w : List Int} (hw : w.Nodup) {x : Int} {j : Nat} (h : place w x = some j) (y : Int) : y ∈ w.eraseIdx j ↔ y ∈ w ∧ y ≠ x := by
  obtain ⟨hj, hx⟩ := place_get h
  have hx' : w[j] = x := by rw [List.getElem?_eq_getElem hj] at hx; injection hx
  rw [List.mem_eraseIdx_iff_getElem]
  constructor
  · rintro ⟨i, hi, hne, rfl⟩
    refine ⟨List.getElem_mem _, fun e => hne ?_⟩
    exact (List.getElem_inj hw).1 (e.trans hx'.symm)
  · rintro ⟨hm, hne⟩
    obtain ⟨i, hi, rfl⟩ := List.getElem_of_mem hm
    refine ⟨i, hi, fun e => hne ?_, rfl⟩
    subst e
    exact hx'

theorem getLast?_of_ne {l : List Int} (h : l ≠ []) : l.getLast? = some (l.getLast h) := List.getLast?_eq_some_getLast h

theorem last_mem {l : List Int} {x : Int} (h : l.getLast? = some x) : l = l.dropLast ++ [x] := by
  have hne : l ≠ [] := by intro e; rw [e] at h; cases h
  rw [getLast?_of_ne hne] at h
  injection h with h
  rw [← h, List.dropLast_concat_getLast hne]

/-- One turn keeps what holds. -/
theorem CInv.turn {n : Nat} {l w : List Int} (h : CInv n l w) {x : Int} (hx : l.getLast? = some x) {j : Nat} (hj : place w x = some j) : CInv n (x :: l.dropLast) (w.eraseIdx j) := by
  have hl := last_mem hx
  have hn := h.nl
  rw [hl] at hn
  have hn2 := List.nodup_append.1 hn
  have hxn : x ∉ l.dropLast := fun hm => hn2.2.2 x hm x (List.mem_singleton.2 rfl) rfl
  refine ⟨?_, List.nodup_cons.2 ⟨hxn, hn2.1⟩, h.nw.sublist (List.eraseIdx_sublist _ _), fun y hy => ?_⟩
  · have := congrArg List.length hl
    rw [List.length_append, List.length_singleton] at this
    rw [List.length_cons, ← this]
    exact h.len
  · have hy' := (mem_eraseIdx_place h.nw hj y).1 hy
    have := h.sub y hy'.1
    rw [hl] at this
    rcases List.mem_append.1 this with h1 | h1
    · exact List.mem_cons_of_mem _ h1
    · exact absurd (List.mem_singleton.1 h1) hy'.2

/-! ## The engine -/
section
variable {n : Nat} {l w : List Int}

end
end Go.Proofs.YtemppijblfflgaaGreatDoor.Ev
namespace Go.Proofs.YtemppijblfflgaaGreatDoor.Ev

structure Two where
  a : List Int
  b : List Int
  g : List Int

def twoHit (x : Two) (key : Int) : Bool := (place x.b key).isSome || (place x.a key).isSome
def twoOut (n m : Nat) (x : Two) (key : Int) : List Int :=
  if twoHit x key then [] else if (place x.g key).isSome then missOut m x.b else missOut n x.a
def ghostNext (n k : Nat) (x : Two) : List Int :=
  if x.a.length = n then (x.a[n - 1]?).getD 0 :: (if x.g.length = k then x.g.eraseIdx (k - 1) else x.g) else x.g
def twoNext (n m k : Nat) (x : Two) (key : Int) : Two :=
  match place x.b key with
  | some i => ⟨x.a, key :: x.b.eraseIdx i, x.g⟩
  | none => if (place x.a key).isSome then x else match place x.g key with
    | some j => ⟨x.a, missNext m x.b key, x.g.eraseIdx j⟩
    | none => ⟨missNext n x.a key, x.b, ghostNext n k x⟩

def Two.st (x : Two) : St := ⟨[z x.a, z x.b, z x.g], [0, 0, 0]⟩
def twoEng (n m k : Nat) (x : Two) (c : Cnt) : Eng := ⟨twoPol n m k, x.st, c⟩

structure TInv (n m k : Nat) (x : Two) : Prop where
  la : x.a.length ≤ n
  lb : x.b.length ≤ m
  lg : x.g.length ≤ k
  nd : (x.a ++ (x.b ++ x.g)).Nodup

theorem TInv.a_b {n m k : Nat} {x : Two} (h : TInv n m k x) {y : Int} (hy : y ∈ x.a) : y ∉ x.b ∧ y ∉ x.g := by
  have h1 := (List.nodup_append.1 h.nd).2.2 y hy
  exact ⟨fun hb => h1 y (List.mem_append_left _ hb) rfl, fun hg => h1 y (List.mem_append_right _ hg) rfl⟩
theorem TInv.b_g {n m k : Nat} {x : Two} (h : TInv n m k x) {y : Int} (hy : y ∈ x.b) : y ∉ x.g :=
  fun hg => (List.nodup_append.1 (List.nodup_append.1 h.nd).2.1).2.2 y hy y hg rfl
theorem TInv.na {n m k : Nat} {x : Two} (h : TInv n m k x) : x.a.Nodup := (List.nodup_append.1 h.nd).1
theorem TInv.nb {n m k : Nat} {x : Two} (h : TInv n m k x) : x.b.Nodup := (List.nodup_append.1 (List.nodup_append.1 h.nd).2.1).1
theorem TInv.ng {n m k : Nat} {x : Two} (h : TInv n m k x) : x.g.Nodup := (List.nodup_append.1 (List.nodup_append.1 h.nd).2.1).2.1
theorem nd3 {a b g : List Int} (ha : a.Nodup) (hb : b.Nodup) (hg : g.Nodup) (h1 : ∀ x ∈ a, x ∉ b ∧ x ∉ g) (h2 : ∀ x ∈ b, x ∉ g) : (a ++ (b ++ g)).Nodup := by
  rw [List.nodup_append, List.nodup_append]
  refine ⟨ha, ⟨hb, hg, fun x hx y hy e => h2 x hx (e ▸ hy)⟩, fun x hx y hy e => ?_⟩
  rcases List.mem_append.1 hy with h | h
  · exact (h1 x hx).1 (e ▸ h)
  · exact (h1 x hx).2 (e ▸ h)

theorem find3 (x : Two) (key : Int) : x.st.find key = match place x.a key with
    | some i => some (0, i)
    | none => match place x.b key with
      | some i => some (1, i)
      | none => (place x.g key).map fun i => (2, i) := by
  unfold St.find Two.st
  simp only [whereFrom, place_z]
  cases place x.a key with
  | some i => rfl
  | none =>
    simp only
    cases place x.b key with
    | some i => rfl
    | none =>
      simp only
      cases place x.g key <;> rfl

section
variable {n m k : Nat} {x : Two} {key : Int}

theorem missOut_eq {n : Nat} {l : List Int} (hn : 1 ≤ n) (h : l.length = n) : ∃ hne : l ≠ [], missOut n l = [l.getLast hne] ∧ ∀ key, missNext n l key = key :: l.dropLast := by
  have hne : l ≠ [] := by intro e; rw [e] at h; simp at h; omega
  obtain ⟨d1, d2⟩ := drop_last hn h hne
  exact ⟨hne, by unfold missOut; rw [if_pos h, d1], fun key => by unfold missNext; rw [if_pos h, d2]⟩

theorem full_two (q : Nat) (l : List Int) (c : Int) (hq : x.st.queue (q : Int) = z l) (hc : (declAt (twoPol n m k).decls (q : Int)).max = c) :
    evalCond (twoPol n m k).decls key x.st ⟨.full (q : Int), 0⟩ = decide (c ≤ (l.length : Int)) := by
  show (decide ((declAt (twoPol n m k).decls (q : Int)).max ≤ ((x.st.queue (q : Int)).length : Int)) != false) = _
  rw [hq, hc, z_len]
  simp

theorem evict_b (h : x.b ≠ []) (o : List Int) : prim (twoPol n m k) key (.evict 1) ⟨x.st, o⟩ = .ok ⟨(⟨x.a, x.b.dropLast, x.g⟩ : Two).st, o ++ [x.b.getLast h]⟩ := by
  unfold prim
  have e0 : x.st.queue 1 = z x.b := rfl
  simp only [e0]
  rw [if_neg (by rw [z_nil]; exact h), z_last h, z_dropLast]
  rfl
theorem evict_g (h : x.g ≠ []) (o : List Int) : prim (twoPol n m k) key (.evict 2) ⟨x.st, o⟩ = .ok ⟨(⟨x.a, x.b, x.g.dropLast⟩ : Two).st, o⟩ := by
  unfold prim
  have e0 : x.st.queue 2 = z x.g := rfl
  simp only [e0]
  rw [if_neg (by rw [z_nil]; exact h), z_last h, z_dropLast]
  rfl
theorem shift_ag (h : x.a ≠ []) (hg : x.g.length < k) (o : List Int) :
    prim (twoPol n m k) key (.shift 0 2 false) ⟨x.st, o⟩ = .ok ⟨(⟨x.a.dropLast, x.b, x.a.getLast h :: x.g⟩ : Two).st, o ++ [x.a.getLast h]⟩ := by
  unfold prim
  have e0 : x.st.queue 0 = z x.a := rfl
  simp only [e0]
  rw [if_neg (by rw [z_nil]; exact h), z_last h, z_dropLast]
  unfold comes
  rw [if_neg (by show ¬ (k : Int) ≤ ((z x.g).length : Int); rw [z_len]; omega)]
  rfl
theorem put_a (h : x.st.find key = none) (ha : x.a.length < n) (o : List Int) : prim (twoPol n m k) key (.put 0 false) ⟨x.st, o⟩ = .ok ⟨(⟨key :: x.a, x.b, x.g⟩ : Two).st, o⟩ := by
  unfold prim
  simp only [h]
  unfold comes
  rw [if_neg (by show ¬ (n : Int) ≤ ((z x.a).length : Int); rw [z_len]; omega)]
  rfl
theorem put_b {i : Nat} (h : x.st.find key = some (1, i)) (hi : x.b[i]? = some key) (hb : x.b.length ≤ m) (o : List Int) :
    prim (twoPol n m k) key (.put 1 false) ⟨x.st, o⟩ = .ok ⟨(⟨x.a, key :: x.b.eraseIdx i, x.g⟩ : Two).st, o⟩ := by
  unfold prim
  simp only [h]
  have e1 : entAt (x.st.queue ((1 : Nat) : Int)) i = ⟨key, 0⟩ := entAt_z hi
  have e2 : x.st.out 1 i = (⟨x.a, x.b.eraseIdx i, x.g⟩ : Two).st := by
    show (⟨[z x.a, (z x.b).eraseIdx i, z x.g], [0, 0, 0]⟩ : St) = _
    rw [z_erase]; rfl
  have hlt : i < x.b.length := (List.getElem?_eq_some_iff.1 hi).1
  rw [e1, e2]
  unfold comes
  rw [if_neg (by show ¬ (m : Int) ≤ ((z (x.b.eraseIdx i)).length : Int); rw [z_len, List.length_eraseIdx, if_pos hlt]; omega)]
  rfl
theorem put_gb {j : Nat} (h : x.st.find key = some (2, j)) (hj : x.g[j]? = some key) (hb : x.b.length < m) (o : List Int) :
    prim (twoPol n m k) key (.put 1 false) ⟨x.st, o⟩ = .ok ⟨(⟨x.a, key :: x.b, x.g.eraseIdx j⟩ : Two).st, o⟩ := by
  unfold prim
  simp only [h]
  have e1 : entAt (x.st.queue ((2 : Nat) : Int)) j = ⟨key, 0⟩ := entAt_z hj
  have e2 : x.st.out 2 j = (⟨x.a, x.b, x.g.eraseIdx j⟩ : Two).st := by
    show (⟨[z x.a, z x.b, (z x.g).eraseIdx j], [0, 0, 0]⟩ : St) = _
    rw [z_erase]; rfl
  rw [e1, e2]
  unfold comes
  rw [if_neg (by show ¬ (m : Int) ≤ ((z x.b).length : Int); rw [z_len]; omega)]
  rfl

theorem two_where {c : Cnt} : whereQ (twoEng n m k x c).s key = if (place x.a key).isSome then 0 else if (place x.b key).isSome then 1 else if (place x.g key).isSome then 2 else -1 := by
  unfold whereQ twoEng
  simp only [find3]
  cases place x.a key with
  | some i => rfl
  | none =>
    simp only
    cases place x.b key with
    | some i => rfl
    | none =>
      simp only
      cases place x.g key <;> rfl

theorem two_access (hn : 1 ≤ n) (hm : 1 ≤ m) (hk : 1 ≤ k) (h : TInv n m k x) (c : Cnt) :
    (twoEng n m k x c).access key = .ok (twoHit x key) (twoOut n m x key) (twoEng n m k (twoNext n m k x key) (cntUp c (twoHit x key) (twoOut n m x key).length)) ∧ TInv n m k (twoNext n m k x key) := by
  have hw := two_where (n := n) (m := m) (k := k) (x := x) (key := key) (c := c)
  cases hb : place x.b key with
  | some i =>
    obtain ⟨hi, hki⟩ := place_get hb
    have hmem := place_mem hb
    have ha : place x.a key = none := place_none.2 (fun hx => (h.a_b hx).1 hmem)
    have hf : x.st.find key = some (1, i) := by rw [find3, ha, hb]
    have hx : exec (twoPol n m k) key (.prim (.put 1 false) .nil) ⟨x.st, []⟩ = .ok ⟨(⟨x.a, key :: x.b.eraseIdx i, x.g⟩ : Two).st, []⟩ := by
      unfold exec
      rw [put_b hf hki h.lb]
      rfl
    have e := access_eq (twoEng n m k x c) key _ (by rw [hw, ha, hb]; exact hx)
    rw [hw, ha, hb] at e
    have eh : twoHit x key = true := by unfold twoHit; rw [hb]; rfl
    have eo : twoOut n m x key = [] := by unfold twoOut; rw [eh]; rfl
    have en : twoNext n m k x key = ⟨x.a, key :: x.b.eraseIdx i, x.g⟩ := by unfold twoNext; rw [hb]
    rw [eh, eo, en]
    refine ⟨e, h.la, ?_, h.lg, nd3 h.na ?_ h.ng ?_ ?_⟩
    · show (key :: x.b.eraseIdx i).length ≤ m
      rw [List.length_cons, List.length_eraseIdx, if_pos hi]; have := h.lb; omega
    · exact List.nodup_cons.2 ⟨fun hx => ((mem_eraseIdx_place h.nb hb key).1 hx).2 rfl, h.nb.sublist (List.eraseIdx_sublist _ _)⟩
    · intro y hy
      refine ⟨fun hx => ?_, (h.a_b hy).2⟩
      rcases List.mem_cons.1 hx with rfl | hx
      · exact place_none.1 ha hy
      · exact (h.a_b hy).1 (List.mem_of_mem_eraseIdx hx)
    · intro y hy
      rcases List.mem_cons.1 hy with rfl | hy
      · exact h.b_g hmem
      · exact h.b_g (List.mem_of_mem_eraseIdx hy)
  | none =>
    cases ha : place x.a key with
    | some i =>
      have e := access_eq (twoEng n m k x c) key ⟨x.st, []⟩ (by rw [hw, ha]; rfl)
      rw [hw, ha] at e
      have eh : twoHit x key = true := by unfold twoHit; rw [ha, hb]; rfl
      have eo : twoOut n m x key = [] := by unfold twoOut; rw [eh]; rfl
      have en : twoNext n m k x key = x := by unfold twoNext; rw [hb, ha]; rfl
      rw [eh, eo, en]
      exact ⟨e, h⟩
    | none =>
      have eh : twoHit x key = false := by unfold twoHit; rw [ha, hb]; rfl
      have hka := place_none.1 ha
      have hkb := place_none.1 hb
      cases hg : place x.g key with
      | some j =>
        obtain ⟨hj, hkj⟩ := place_get hg
        have hf : x.st.find key = some (2, j) := by rw [find3, ha, hb, hg]; rfl
        have eo : twoOut n m x key = missOut m x.b := by unfold twoOut; rw [eh, hg]; rfl
        have en : twoNext n m k x key = ⟨x.a, missNext m x.b key, x.g.eraseIdx j⟩ := by unfold twoNext; rw [hb, ha, hg]; rfl
        have hx : exec (twoPol n m k) key (.ite ⟨.full 1, 0⟩ (.prim (.evict 1) .nil) false .nil (.prim (.put 1 false) .nil)) ⟨x.st, []⟩ = .ok ⟨(⟨x.a, missNext m x.b key, x.g.eraseIdx j⟩ : Two).st, missOut m x.b⟩ := by
          unfold exec
          have hc := full_two (n := n) (m := m) (k := k) (x := x) (key := key) 1 x.b m rfl rfl
          rw [show ((1 : Nat) : Int) = 1 from rfl] at hc
          rw [hc]
          by_cases hfl : x.b.length = m
          · obtain ⟨hne, q1, q2⟩ := missOut_eq hm hfl
            rw [q1, q2, decide_eq_true (by omega), if_pos rfl]
            have ex1 : exec (twoPol n m k) key (.prim (.evict 1) .nil) ⟨x.st, []⟩ = .ok ⟨(⟨x.a, x.b.dropLast, x.g⟩ : Two).st, [x.b.getLast hne]⟩ := by
              unfold exec; rw [evict_b hne]; rfl
            rw [ex1]
            simp only
            unfold exec
            have hf2 : (⟨x.a, x.b.dropLast, x.g⟩ : Two).st.find key = some (2, j) := by
              rw [find3]
              have : place x.b.dropLast key = none := place_none.2 (fun hx => hkb (List.dropLast_subset _ hx))
              simp only [ha, this, hg]; rfl
            rw [put_gb hf2 hkj (by show x.b.dropLast.length < m; rw [List.length_dropLast]; omega)]
            rfl
          · have hlb := h.lb
            have q1 : missOut m x.b = [] := by unfold missOut; rw [if_neg hfl]
            have q2 : missNext m x.b key = key :: x.b := by unfold missNext; rw [if_neg hfl]
            rw [q1, q2, decide_eq_false (by omega), if_neg (by decide), if_neg (by decide)]
            simp only
            unfold exec
            rw [put_gb hf hkj (by omega)]
            rfl
        have e := access_eq (twoEng n m k x c) key _ (by rw [hw, ha, hb, hg]; exact hx)
        rw [hw, ha, hb, hg] at e
        rw [eh, eo, en]
        have hsub : ∀ y ∈ missNext m x.b key, y = key ∨ y ∈ x.b := by
          intro y hy
          unfold missNext at hy
          rcases List.mem_cons.1 hy with h1 | h1
          · exact .inl h1
          · split at h1
            · exact .inr (List.mem_of_mem_eraseIdx h1)
            · exact .inr h1
        have hnb : (missNext m x.b key).Nodup := by
          unfold missNext
          refine List.nodup_cons.2 ⟨fun hx => ?_, ?_⟩
          · split at hx
            · exact hkb (List.mem_of_mem_eraseIdx hx)
            · exact hkb hx
          · split
            · exact h.nb.sublist (List.eraseIdx_sublist _ _)
            · exact h.nb
        refine ⟨e, h.la, missNext_len hm h.lb key, ?_, nd3 h.na hnb (h.ng.sublist (List.eraseIdx_sublist _ _)) ?_ ?_⟩
        · show (x.g.eraseIdx j).length ≤ k
          rw [List.length_eraseIdx, if_pos hj]; have := h.lg; omega
        · intro y hy
          refine ⟨fun hx => ?_, fun hx => (h.a_b hy).2 (List.mem_of_mem_eraseIdx hx)⟩
          rcases hsub y hx with rfl | hx
          · exact hka hy
          · exact (h.a_b hy).1 hx
        · intro y hy hx
          have hx' := (mem_eraseIdx_place h.ng hg y).1 hx
          rcases hsub y hy with rfl | hy
          · exact hx'.2 rfl
          · exact h.b_g hy hx'.1
      | none =>
        have hkg := place_none.1 hg
        have hf : x.st.find key = none := by rw [find3, ha, hb, hg]; rfl
        have eo : twoOut n m x key = missOut n x.a := by unfold twoOut; rw [eh, hg]; rfl
        have en : twoNext n m k x key = ⟨missNext n x.a key, x.b, ghostNext n k x⟩ := by unfold twoNext; rw [hb, ha, hg]; rfl
        have hx : exec (twoPol n m k) key (.ite ⟨.full 0, 0⟩ (.ite ⟨.full 2, 0⟩ (.prim (.evict 2) .nil) false .nil (.prim (.shift 0 2 false) .nil)) false .nil (.prim (.put 0 false) .nil)) ⟨x.st, []⟩ =
            .ok ⟨(⟨missNext n x.a key, x.b, ghostNext n k x⟩ : Two).st, missOut n x.a⟩ := by
          rw [exec]
          have hc := full_two (n := n) (m := m) (k := k) (x := x) (key := key) 0 x.a n rfl rfl
          rw [show ((0 : Nat) : Int) = 0 from rfl] at hc
          rw [hc]
          by_cases hfl : x.a.length = n
          · obtain ⟨hne, q1, q2⟩ := missOut_eq hn hfl
            have q3 : ghostNext n k x = x.a.getLast hne :: (if x.g.length = k then x.g.dropLast else x.g) := by
              unfold ghostNext
              rw [if_pos hfl]
              have e1 : (x.a[n - 1]?).getD 0 = x.a.getLast hne := by
                rw [← hfl, ← List.getLast?_eq_getElem?, getLast?_of_ne hne]; rfl
              rw [e1]
              congr 1
              split
              · rename_i hgl
                rw [← hgl, drop_last.dropLast_erase]
              · rfl
            rw [q1, q2, q3, decide_eq_true (by omega), if_pos rfl]
            have hin : exec (twoPol n m k) key (.ite ⟨.full 2, 0⟩ (.prim (.evict 2) .nil) false .nil (.prim (.shift 0 2 false) .nil)) ⟨x.st, []⟩ =
                .ok ⟨(⟨x.a.dropLast, x.b, x.a.getLast hne :: (if x.g.length = k then x.g.dropLast else x.g)⟩ : Two).st, [x.a.getLast hne]⟩ := by
              rw [exec]
              have hc2 := full_two (n := n) (m := m) (k := k) (x := x) (key := key) 2 x.g k rfl rfl
              rw [show ((2 : Nat) : Int) = 2 from rfl] at hc2
              rw [hc2]
              by_cases hgl : x.g.length = k
              · have hgne : x.g ≠ [] := by intro e; rw [e] at hgl; simp at hgl; omega
                rw [if_pos hgl, decide_eq_true (by omega), if_pos rfl]
                have ex1 : exec (twoPol n m k) key (.prim (.evict 2) .nil) ⟨x.st, []⟩ = .ok ⟨(⟨x.a, x.b, x.g.dropLast⟩ : Two).st, []⟩ := by
                  unfold exec; rw [evict_g hgne]; rfl
                rw [ex1]
                simp only
                unfold exec
                rw [shift_ag (x := ⟨x.a, x.b, x.g.dropLast⟩) hne (by show x.g.dropLast.length < k; rw [List.length_dropLast]; omega)]
                rfl
              · have hlg := h.lg
                rw [if_neg hgl, decide_eq_false (by omega), if_neg (by decide), if_neg (by decide)]
                simp only
                unfold exec
                rw [shift_ag hne (by omega)]
                rfl
            rw [hin]
            simp only
            unfold exec
            have hf2 : (⟨x.a.dropLast, x.b, x.a.getLast hne :: (if x.g.length = k then x.g.dropLast else x.g)⟩ : Two).st.find key = none := by
              rw [find3]
              have p1 : place x.a.dropLast key = none := place_none.2 (fun hx => hka (List.dropLast_subset _ hx))
              have p2 : place (x.a.getLast hne :: (if x.g.length = k then x.g.dropLast else x.g)) key = none := by
                refine place_none.2 (fun hx => ?_)
                rcases List.mem_cons.1 hx with h1 | h1
                · exact hka (h1 ▸ List.getLast_mem hne)
                · split at h1
                  · exact hkg (List.dropLast_subset _ h1)
                  · exact hkg h1
              simp only [p1, hb, p2]; rfl
            rw [put_a hf2 (by show x.a.dropLast.length < n; rw [List.length_dropLast]; omega)]
            rfl
          · have hla := h.la
            have q1 : missOut n x.a = [] := by unfold missOut; rw [if_neg hfl]
            have q2 : missNext n x.a key = key :: x.a := by unfold missNext; rw [if_neg hfl]
            have q3 : ghostNext n k x = x.g := by unfold ghostNext; rw [if_neg hfl]
            rw [q1, q2, q3, decide_eq_false (by omega), if_neg (by decide), if_neg (by decide)]
            simp only
            unfold exec
            rw [put_a hf (by omega)]
            rfl
        have e := access_eq (twoEng n m k x c) key _ (by rw [hw, ha, hb, hg]; exact hx)
        rw [hw, ha, hb, hg] at e
        rw [eh, eo, en]
        refine ⟨e, ?_⟩
        by_cases hfl : x.a.length = n
        · obtain ⟨hne, q1, q2⟩ := missOut_eq hn hfl
          have hlast := getLast?_of_ne hne
          have hla := last_mem hlast
          have hnd := h.na
          rw [hla] at hnd
          have hnd2 := List.nodup_append.1 hnd
          have hln : x.a.getLast hne ∉ x.a.dropLast := fun hm => hnd2.2.2 _ hm _ (List.mem_singleton.2 rfl) rfl
          have hgm : ∀ y, y ∈ ghostNext n k x → y = x.a.getLast hne ∨ y ∈ x.g := by
            intro y hy
            unfold ghostNext at hy
            rw [if_pos hfl] at hy
            have e1 : (x.a[n - 1]?).getD 0 = x.a.getLast hne := by
              rw [← hfl, ← List.getLast?_eq_getElem?, hlast]; rfl
            rw [e1] at hy
            rcases List.mem_cons.1 hy with h1 | h1
            · exact .inl h1
            · split at h1
              · exact .inr (List.mem_of_mem_eraseIdx h1)
              · exact .inr h1
          have hgn : (ghostNext n k x).Nodup ∧ (ghostNext n k x).length ≤ k := by
            unfold ghostNext
            rw [if_pos hfl]
            have e1 : (x.a[n - 1]?).getD 0 = x.a.getLast hne := by
              rw [← hfl, ← List.getLast?_eq_getElem?, hlast]; rfl
            rw [e1]
            have hlm := h.a_b (List.getLast_mem hne)
            refine ⟨List.nodup_cons.2 ⟨fun hx => ?_, ?_⟩, ?_⟩
            · split at hx
              · exact hlm.2 (List.mem_of_mem_eraseIdx hx)
              · exact hlm.2 hx
            · split
              · exact h.ng.sublist (List.eraseIdx_sublist _ _)
              · exact h.ng
            · have hlg := h.lg
              rw [List.length_cons]
              split
              · rw [List.length_eraseIdx]; split <;> omega
              · omega
          refine ⟨missNext_len hn h.la key, h.lb, hgn.2, nd3 ?_ h.nb hgn.1 ?_ ?_⟩
          · show (missNext n x.a key).Nodup
            rw [q2]
            exact List.nodup_cons.2 ⟨fun hx => hka (List.dropLast_subset _ hx), hnd2.1⟩
          · intro y hy
            have hy' : y ∈ missNext n x.a key := hy
            rw [q2] at hy'
            rcases List.mem_cons.1 hy' with rfl | hy'
            · refine ⟨hkb, fun hx => ?_⟩
              rcases hgm _ hx with h1 | h1
              · exact hka (h1 ▸ List.getLast_mem hne)
              · exact hkg h1
            · have hya := List.dropLast_subset _ hy'
              refine ⟨(h.a_b hya).1, fun hx => ?_⟩
              rcases hgm _ hx with h1 | h1
              · exact hln (h1 ▸ hy')
              · exact (h.a_b hya).2 h1
          · intro y hy hx
            rcases hgm _ hx with h1 | h1
            · exact (h.a_b (List.getLast_mem hne)).1 (h1 ▸ hy)
            · exact h.b_g hy h1
        · have q2 : missNext n x.a key = key :: x.a := by unfold missNext; rw [if_neg hfl]
          have q3 : ghostNext n k x = x.g := by unfold ghostNext; rw [if_neg hfl]
          rw [q2, q3]
          have hla := h.la
          refine ⟨by show (key :: x.a).length ≤ n; rw [List.length_cons]; omega, h.lb, h.lg, nd3 (List.nodup_cons.2 ⟨hka, h.na⟩) h.nb h.ng ?_ (fun y hy => h.b_g hy)⟩
          intro y hy
          rcases List.mem_cons.1 hy with rfl | hy
          · exact ⟨hkb, hkg⟩
          · exact h.a_b hy

theorem two_keys (c : Cnt) : (twoEng n m k x c).keys [109, 97, 105, 110] = some x.b ∧ (twoEng n m k x c).keys [105, 110] = some x.a ∧ (twoEng n m k x c).keys [111, 117, 116] = some x.g := by
  unfold Eng.keys twoEng
  have e1 : find (twoPol n m k).decls [109, 97, 105, 110] = 1 := rfl
  have e2 : find (twoPol n m k).decls [105, 110] = 0 := rfl
  have e3 : find (twoPol n m k).decls [111, 117, 116] = 2 := rfl
  simp only [e1, e2, e3]
  refine ⟨?_, ?_, ?_⟩
  · rw [if_neg (by rintro (h | h) <;> simp [twoPol, declAt] at h)]
    show some ((z x.b).map (·.key)) = _
    rw [z_keys]
  · rw [if_neg (by rintro (h | h) <;> simp [twoPol, declAt] at h)]
    show some ((z x.a).map (·.key)) = _
    rw [z_keys]
  · rw [if_neg (by rintro (h | h) <;> simp [twoPol, declAt] at h)]
    show some ((z x.g).map (·.key)) = _
    rw [z_keys]
end
end Go.Proofs.YtemppijblfflgaaGreatDoor.Ev
namespace Go.Proofs.YtemppijblfflgaaGreatDoor.Ev
open Go Go.RowKit

/-- The texts, as the code writes them. -/
def twoA : ByteArray := ⟨#[113, 117, 101, 117, 101, 32, 105, 110, 32]⟩
def twoB : ByteArray := ⟨#[59, 32, 113, 117, 101, 117, 101, 32, 109, 97, 105, 110, 32]⟩
def twoC : ByteArray := ⟨#[59, 32, 103, 104, 111, 115, 116, 32, 111, 117, 116, 32]⟩
def twoD : ByteArray := ⟨#[59, 32, 111, 110, 32, 109, 97, 105, 110, 32, 123, 32, 112, 117, 116, 32, 109, 97, 105, 110, 59, 32, 125, 32, 111, 110, 32, 111, 117, 116, 32, 123, 32, 105, 102, 32, 102, 117, 108, 108, 32, 109, 97, 105, 110, 32, 123, 32, 101, 118, 105, 99, 116, 32, 109, 97, 105, 110, 59, 32, 125, 32, 112, 117, 116, 32, 109, 97, 105, 110, 59, 32, 125, 32, 111, 110, 32, 109, 105, 115, 115, 32, 123, 32, 105, 102, 32, 102, 117, 108, 108, 32, 105, 110, 32, 123, 32, 105, 102, 32, 102, 117, 108, 108, 32, 111, 117, 116, 32, 123, 32, 101, 118, 105, 99, 116, 32, 111, 117, 116, 59, 32, 125, 32, 115, 104, 105, 102, 116, 32, 105, 110, 32, 111, 117, 116, 59, 32, 125, 32, 112, 117, 116, 32, 105, 110, 59, 32, 125]⟩
section
variable {B : Nat} {ea : Nat → Addr} {w : World}

theorem twoText (n m g : Int) : twoA ++ ⟨(digits n).toArray⟩ ++ twoB ++ ⟨(digits m).toArray⟩ ++ twoC ++ ⟨(digits g).toArray⟩ ++ twoD = ⟨(twoTxt n m g).toArray⟩ := by
  unfold twoA twoB twoC twoD
  rw [vs_app, vs_app, vs_app, vs_app, vs_app, vs_app]
  unfold twoTxt twoT0 twoT1 twoT2 twoT3
  simp only [List.cons_append, List.nil_append, List.append_assoc]

set_option maxRecDepth 100000 in
set_option maxHeartbeats 16000000 in
theorem two_walk (he : Env B ea w) (ho : ErrObj B ea w) {vk : Value} {keys : List Int} (hk : KeysR w vk keys) (c1 c2 c3 : Int) (h1 : -9223372036854775808 ≤ c1) (h2 : c1 ≤ 9223372036854775807) (h3 : -9223372036854775808 ≤ c2) (h4 : c2 ≤ 9223372036854775807) (h5 : -9223372036854775808 ≤ c3) (h6 : c3 ≤ 9223372036854775807) :
    Calls Tryz.prog 8 #[vk, .int .i64 c1, .int .i64 c2, .int .i64 c3] w (TrueK w) := by
  obtain ⟨xk, ck, rfl⟩ := hk.shape
  obtain ⟨n0, hpn, hn0⟩ := pickN_nat c1 (n := 20) (by omega)
  obtain ⟨m0, hpm, hm0⟩ := pickN_nat c2 (n := 20) (by omega)
  obtain ⟨g0, hpg, hg0⟩ := pickN_nat c3 (n := 20) (by omega)
  have hp1 := pick_any (w := w) c1 20 h1 h2 (by omega) (by omega)
  have hp2 := pick_any (w := w) c2 20 h3 h4 (by omega) (by omega)
  have hp3 := pick_any (w := w) c3 20 h5 h6 (by omega) (by omega)
  have hf1 := fun W => fig_any (w := W) (n := 1 + (n0 : Int)) (by omega) (by omega)
  have hf2 := fun W => fig_any (w := W) (n := 1 + (m0 : Int)) (by omega) (by omega)
  have hf3 := fun W => fig_any (w := W) (n := 1 + (g0 : Int)) (by omega) (by omega)
  rw [hpn] at hp1
  rw [hpm] at hp2
  rw [hpg] at hp3
  have hd1 := dig_len (n := 1 + (n0 : Int)) (by omega) (by omega)
  have hd2 := dig_len (n := 1 + (m0 : Int)) (by omega) (by omega)
  have hd3 := dig_len (n := 1 + (g0 : Int)) (by omega) (by omega)
  have HE := Lib.hid he
  have HO := Lib.hid ho
  have HK := Lib.hid hk
  have HP1 := Lib.hid hp1
  have HP2 := Lib.hid hp2
  have HP3 := Lib.hid hp3
  have HF1 := Lib.hid hf1
  have HF2 := Lib.hid hf2
  have HF3 := Lib.hid hf3
  clear he ho hk hp1 hp2 hp3 hf1 hf2 hf3 hpn hpm hpg h1 h2 h3 h4 h5 h6
  go_enter Tryz.func8, Tryz.ntmps8
  go_wp2_with fail
  refine HP1.out.mono ?_
  rintro e w0 ⟨rfl, rfl⟩
  go_wp2_with fail
  refine HP2.out.mono ?_
  rintro e w0 ⟨rfl, rfl⟩
  go_wp2_with fail
  refine HP3.out.mono ?_
  rintro e w0 ⟨rfl, rfl⟩
  go_wp2_with fail
  refine (HF1.out _).mono ?_
  rintro e w1 ⟨rfl, hk1⟩
  have K1 := Lib.hid hk1
  clear hk1
  unfold vs at *
  go_wp2_with fail
  refine (HF2.out _).mono ?_
  rintro e w2 ⟨rfl, hk2⟩
  have K2 := Lib.hid (K1.out.trans (hk2.mono (fun b hb => Nat.le_trans K1.out.size hb)))
  clear hk2 K1
  unfold vs at *
  go_wp2_with fail
  refine (HF3.out _).mono ?_
  rintro e w3 ⟨rfl, hk3⟩
  have hkk := K2.out.trans (hk3.mono (fun b hb => Nat.le_trans K2.out.size hb))
  have hload := kload_any (HE.out.kept hkk (fun b hb => Nat.le_trans HE.out.size hb)) (HO.out.kept hkk (fun b hb => Nat.le_trans HE.out.size hb)) (twoRead (n := 1 + (n0 : Int)) (m := 1 + (m0 : Int)) (g := 1 + (g0 : Int)) (by omega) (by omega) (by omega)) (q := [109, 97, 105, 110]) (two_keys (n := 1 + n0) (m := 1 + m0) (k := 1 + g0) (x := ⟨[], [], []⟩) ⟨0, 0, 0⟩).1
  unfold vs at *
  rw [← twoText] at hload
  have HL := Lib.hid hload
  have K3 := Lib.hid hkk
  clear hload hk3 K2 hkk
  go_wp2_with fail
  refine HL.out.mono ?_
  rintro e w4 hh
  obtain ⟨ge, S0, rfl, hL0, _, _⟩ := LoopE.of_load K3.out hh
  have L0 := Lib.hid hL0
  clear hL0 hh K3 HL hd1 hd2 hd3
  go_wp2
  go_loopg [49, 10, 11, 12] keys.length (fun gg s49 s10 s11 s12 wr => ∃ (k : Nat) (S : Nat → Prop) (la lb lg : List Int) (cn : Cnt), k ≤ keys.length ∧ k ≤ 16384 ∧ keys.length - k ≤ gg ∧ s49 = .int .i64 k ∧ TInv (1 + n0) (1 + m0) (1 + g0) ⟨la, lb, lg⟩ ∧ LoopE w0 wr S ge (twoEng (1 + n0) (1 + m0) (1 + g0) ⟨la, lb, lg⟩ cn) k ∧ OwnL wr S s10 la ∧ OwnL wr S s11 lb ∧ OwnL wr S s12 lg)
  case atStart => exact ⟨0, S0, [], [], [], ⟨0, 0, 0⟩, Nat.zero_le _, Nat.zero_le _, by omega, rfl, ⟨Nat.zero_le _, Nat.zero_le _, Nat.zero_le _, List.nodup_nil⟩, L0.out, OwnL.nil _ _, OwnL.nil _ _, OwnL.nil _ _⟩
  case round =>
    obtain ⟨k, S, la, lb, lg, cn, hk, hk2, hg, rfl, hti, L, OA, OB, OG⟩ := hrel
    clear L0
    have hla : la.length ≤ 1 + n0 := hti.la
    have hlb : lb.length ≤ 1 + m0 := hti.lb
    have hlg : lg.length ≤ 1 + g0 := hti.lg
    have HL := Lib.hid L
    have HOA := Lib.hid OA
    have HOB := Lib.hid OB
    have HOG := Lib.hid OG
    have HTI := Lib.hid hti
    clear hti
    by_cases hlt : k < keys.length
    · obtain ⟨key, hx⟩ : ∃ x, keys[k]? = some x := ⟨_, List.getElem?_eq_getElem hlt⟩
      obtain ⟨gk, ok, rfl, hc0, hgk, hm2⟩ := HK.out.at_ hx
      have hc := (L.kept.cell (p := ⟨gk, ok + k, none⟩) (by simp only; omega)).trans hc0
      unfold maxLen at hm2
      clear hx hc0
      by_cases hb : k = 16384
      · have e1 : ((k : Int) == 16384) = true := by simp; omega
        have e2 : decide ((k : Int) = 16384) = true := by simp; omega
        have hk3 := L.kept
        clear L OA OB OG hb
        go_wp2
        go_ret
        exact ⟨rfl, hk3⟩
      · have e1 : ((k : Int) == 16384) = false := by simp; omega
        have e2 : decide ((k : Int) = 16384) = false := by simp; omega
        obtain ⟨aa, ca, rfl⟩ := OA.shape
        obtain ⟨ab, cb, rfl⟩ := OB.shape
        obtain ⟨ag, cg, rfl⟩ := OG.shape
        have hata := at_any OA.lr (by omega) key
        have hatb := at_any OB.lr (by omega) key
        have hatg := at_any OG.lr (by omega) key
        have hax := two_access (n := 1 + n0) (m := 1 + m0) (k := 1 + g0) (key := key) (by omega) (by omega) (by omega) HTI.out cn
        have HAX := Lib.hid hax.1
        have HTN := Lib.hid hax.2
        have HATA := Lib.hid hata
        have HATB := Lib.hid hatb
        have HATG := Lib.hid hatg
        have ea : atI la key = match place la key with | some i => (i : Int) | none => -1 := rfl
        have eb : atI lb key = match place lb key with | some i => (i : Int) | none => -1 := rfl
        have eg : atI lg key = match place lg key with | some i => (i : Int) | none => -1 := rfl
        clear hax hata hatb hatg
        cases hpb : place lb key with
        | some i =>
          obtain ⟨hi, _⟩ := place_get hpb
          have hi0 : 0 ≤ (i : Int) := by omega
          rw [hpb] at eb
          have hj0 : atI lg key = match place lg key with | some i => (i : Int) | none => -1 := rfl
          have EB := Lib.hid eb
          have hac : (twoEng (1 + n0) (1 + m0) (1 + g0) ⟨la, lb, lg⟩ cn).access key = .ok true [] (twoEng (1 + n0) (1 + m0) (1 + g0) ⟨la, key :: lb.eraseIdx i, lg⟩ (cntUp cn true 0)) := by
            have := HAX.out
            simpa [twoHit, twoOut, twoNext, hpb] using this
          have hty : TInv (1 + n0) (1 + m0) (1 + g0) ⟨la, key :: lb.eraseIdx i, lg⟩ := by
            have := HTN.out
            simpa [twoNext, hpb] using this
          have hwo := own_without OB (by omega) (i := i) hi
          have hle : (lb.eraseIdx i).length ≤ 1000000 := by rw [List.length_eraseIdx]; split <;> omega
          have HAC := Lib.hid hac
          have HTY := Lib.hid hty
          have HWO := Lib.hid hwo
          have HLE := Lib.hid hle
          clear ea eb eg hpb hac hty hwo hle L OA OB OG hj0
          generalize atI lg key = gi at HATG
          go_wp2_with fail
          refine HATB.out.mono ?_
          rw [EB.out]
          rintro x wx ⟨rfl, rfl⟩
          go_wp2_with fail
          refine HATG.out.mono ?_
          rintro x wx2 ⟨rfl, rfl⟩
          go_wp2_with fail
          refine HWO.out.mono ?_
          rintro x wy ho
          obtain ⟨vy, rfl, hoy, hLy, hky⟩ := ho.own HL.out
          have hfront := front_any hoy.lr HLE.out key
          have HFRO := Lib.hid hfront
          have HLY := Lib.hid hLy
          have OAY := Lib.hid (HOA.out.later hky)
          have OGY := Lib.hid (HOG.out.later hky)
          clear ho hoy hLy hfront hky
          go_wp2_with fail
          refine HFRO.out.mono ?_
          rintro x wz ho
          obtain ⟨vz, rfl, hoz, hLz, hkz⟩ := ho.own HLY.out
          have OAZ := Lib.hid (OAY.out.later hkz)
          have OGZ := Lib.hid (OGY.out.later hkz)
          have OBZ := Lib.hid hoz
          have HLZ := Lib.hid hLz
          have FZ : Hid (LR wz (.slice none 0 0) []) := Lib.hid (.inl ⟨rfl, rfl⟩)
          have NOZ : Hid (∀ b, (Value.slice none 0 0).ownBlock = some b → ¬ S b) := Lib.hid (fun b hb => by cases hb)
          clear ho hoz hLz hkz
          have htold := ltold2_any HE.out HO.out HLZ.out (by omega) HAC.out (two_keys _).1 FZ.out NOZ.out OBZ.out (Nat.le_trans HTY.out.lb (by omega))
          have HTO := Lib.hid htold
          clear htold
          go_wp2_with fail
          refine HTO.out.mono ?_
          rintro x w5 ⟨rfl, S', hW⟩
          have O5A := Lib.hid (hW.own OAZ.out HLZ.out.mine)
          have O5B := Lib.hid (hW.own OBZ.out HLZ.out.mine)
          have O5G := Lib.hid (hW.own OGZ.out HLZ.out.mine)
          have HW5 := Lib.hid hW.loop
          clear hW
          have hk5 := lkeys_any HW5.out (two_keys _).2.1
          have HK5 := Lib.hid hk5
          clear hk5
          go_wp2_with fail
          refine HK5.out.mono ?_
          rintro x w6 ⟨v6, rfl, hk6, hs6⟩
          have L6 := Lib.hid (HW5.out.later hk6)
          have O6A := Lib.hid (O5A.out.later hk6)
          have O6B := Lib.hid (O5B.out.later hk6)
          have O6G := Lib.hid (O5G.out.later hk6)
          have HS6 := Lib.hid hs6
          clear hk6 hs6
          have hk5 := lkeys_any L6.out (two_keys _).2.2
          have HK6 := Lib.hid hk5
          clear hk5
          go_wp2_with fail
          refine HK6.out.mono ?_
          rintro x w7 ⟨v7, rfl, hk7, hs7⟩
          have L7 := Lib.hid (L6.out.later hk7)
          have O7A := Lib.hid (O6A.out.later hk7)
          have O7B := Lib.hid (O6B.out.later hk7)
          have O7G := Lib.hid (O6G.out.later hk7)
          have hq1 := HS6.out.lr.later hk7 (fun b hb => hb)
          have hq2 := hs7.lr
          have hsm1 := fun W (hw : ∃ n, W = w7.drewN n) => (show Calls Tryz.prog 22 #[v6, _] W (BoolQ W (_ == _)) from by obtain ⟨n, rfl⟩ := hw; exact same_any (hq1.drewN n) (O7A.out.lr.drewN n) (Nat.le_trans HTY.out.la (by omega)) (Nat.le_trans HTY.out.la (by omega)))
          have hsm2 := fun W (hw : ∃ n, W = w7.drewN n) => (show Calls Tryz.prog 22 #[v7, _] W (BoolQ W (_ == _)) from by obtain ⟨n, rfl⟩ := hw; exact same_any (hq2.drewN n) (O7G.out.lr.drewN n) (Nat.le_trans HTY.out.lg (by omega)) (Nat.le_trans HTY.out.lg (by omega)))
          have HM1 := Lib.hid hsm1
          have HM2 := Lib.hid hsm2
          clear hk7 hs7 hq1 hq2 hsm1 hsm2
          go_wp2_with fail
          refine (HM1.out _ ⟨0, rfl⟩).mono ?_
          rintro x w8 ⟨rfl, n8, rfl⟩
          rw [beq_self_eq_true]
          go_wp2_with fail
          refine (HM2.out _ ⟨n8, rfl⟩).mono ?_
          rintro x w9 ⟨rfl, n9, rfl⟩
          rw [beq_self_eq_true]
          go_wp2
          go_roundg (keys.length - (k + 1))
          case measure => omega
          case rel => exact ⟨k + 1, S', _, _, _, _, by omega, by omega, by omega, by go_num, HTY.out, L7.out.drewN _, O7A.out.drewN _, O7B.out.drewN _, O7G.out.drewN _⟩
        | none =>
          rw [hpb] at eb
          have EB := Lib.hid eb
          cases hpa : place la key with
          | some i =>
            have hi0 : 0 ≤ (i : Int) := by omega
            rw [hpa] at ea
            have EA := Lib.hid ea
            have hac : (twoEng (1 + n0) (1 + m0) (1 + g0) ⟨la, lb, lg⟩ cn).access key = .ok true [] (twoEng (1 + n0) (1 + m0) (1 + g0) ⟨la, lb, lg⟩ (cntUp cn true 0)) := by
              have := HAX.out
              simpa [twoHit, twoOut, twoNext, hpb, hpa] using this
            have HAC := Lib.hid hac
            have HTY := HTI
            have HLZ := HL
            have OAZ := HOA
            have OBZ := HOB
            have OGZ := HOG
            have FZ : Hid (LR wr (.slice none 0 0) []) := Lib.hid (.inl ⟨rfl, rfl⟩)
            have NOZ : Hid (∀ b, (Value.slice none 0 0).ownBlock = some b → ¬ S b) := Lib.hid (fun b hb => by cases hb)
            clear ea eb eg hpb hpa hac L OA OB OG
            generalize atI lg key = gi at HATG
            go_wp2_with fail
            refine HATB.out.mono ?_
            rw [EB.out]
            rintro x wx ⟨rfl, rfl⟩
            go_wp2_with fail
            refine HATG.out.mono ?_
            rintro x wx2 ⟨rfl, rfl⟩
            go_wp2_with fail
            refine HATA.out.mono ?_
            rw [EA.out]
            rintro x wx3 ⟨rfl, rfl⟩
            have htold := ltold2_any HE.out HO.out HLZ.out (by omega) HAC.out (two_keys _).1 FZ.out NOZ.out OBZ.out (Nat.le_trans HTY.out.lb (by omega))
            have HTO := Lib.hid htold
            clear htold
            go_wp2_with fail
            refine HTO.out.mono ?_
            rintro x w5 ⟨rfl, S', hW⟩
            have O5A := Lib.hid (hW.own OAZ.out HLZ.out.mine)
            have O5B := Lib.hid (hW.own OBZ.out HLZ.out.mine)
            have O5G := Lib.hid (hW.own OGZ.out HLZ.out.mine)
            have HW5 := Lib.hid hW.loop
            clear hW
            have hk5 := lkeys_any HW5.out (two_keys _).2.1
            have HK5 := Lib.hid hk5
            clear hk5
            go_wp2_with fail
            refine HK5.out.mono ?_
            rintro x w6 ⟨v6, rfl, hk6, hs6⟩
            have L6 := Lib.hid (HW5.out.later hk6)
            have O6A := Lib.hid (O5A.out.later hk6)
            have O6B := Lib.hid (O5B.out.later hk6)
            have O6G := Lib.hid (O5G.out.later hk6)
            have HS6 := Lib.hid hs6
            clear hk6 hs6
            have hk5 := lkeys_any L6.out (two_keys _).2.2
            have HK6 := Lib.hid hk5
            clear hk5
            go_wp2_with fail
            refine HK6.out.mono ?_
            rintro x w7 ⟨v7, rfl, hk7, hs7⟩
            have L7 := Lib.hid (L6.out.later hk7)
            have O7A := Lib.hid (O6A.out.later hk7)
            have O7B := Lib.hid (O6B.out.later hk7)
            have O7G := Lib.hid (O6G.out.later hk7)
            have hq1 := HS6.out.lr.later hk7 (fun b hb => hb)
            have hq2 := hs7.lr
            have hsm1 := fun W (hw : ∃ n, W = w7.drewN n) => (show Calls Tryz.prog 22 #[v6, _] W (BoolQ W (_ == _)) from by obtain ⟨n, rfl⟩ := hw; exact same_any (hq1.drewN n) (O7A.out.lr.drewN n) (Nat.le_trans HTY.out.la (by omega)) (Nat.le_trans HTY.out.la (by omega)))
            have hsm2 := fun W (hw : ∃ n, W = w7.drewN n) => (show Calls Tryz.prog 22 #[v7, _] W (BoolQ W (_ == _)) from by obtain ⟨n, rfl⟩ := hw; exact same_any (hq2.drewN n) (O7G.out.lr.drewN n) (Nat.le_trans HTY.out.lg (by omega)) (Nat.le_trans HTY.out.lg (by omega)))
            have HM1 := Lib.hid hsm1
            have HM2 := Lib.hid hsm2
            clear hk7 hs7 hq1 hq2 hsm1 hsm2
            go_wp2_with fail
            refine (HM1.out _ ⟨0, rfl⟩).mono ?_
            rintro x w8 ⟨rfl, n8, rfl⟩
            rw [beq_self_eq_true]
            go_wp2_with fail
            refine (HM2.out _ ⟨n8, rfl⟩).mono ?_
            rintro x w9 ⟨rfl, n9, rfl⟩
            rw [beq_self_eq_true]
            go_wp2
            go_roundg (keys.length - (k + 1))
            case measure => omega
            case rel => exact ⟨k + 1, S', _, _, _, _, by omega, by omega, by omega, by go_num, HTY.out, L7.out.drewN _, O7A.out.drewN _, O7B.out.drewN _, O7G.out.drewN _⟩
          | none =>
            rw [hpa] at ea
            have EA := Lib.hid ea
            cases hpg : place lg key with
            | some j =>
              obtain ⟨hj, _⟩ := place_get hpg
              have hj0 : 0 ≤ (j : Int) := by omega
              rw [hpg] at eg
              have EG := Lib.hid eg
              by_cases hfull : lb.length = 1 + m0
              · have f1 : ((lb.length : Int) == 1 + (m0 : Int)) = true := by simp; omega
                have f2 : decide ((lb.length : Int) = 1 + (m0 : Int)) = true := by simp; omega
                obtain ⟨gl, cl', e', hSg, hlc, hcm, hgl⟩ := OB.form (by omega)
                injection e' with e3 e4 e5
                subst e3 e5
                have hcap : ¬ cb = m0 := by omega
                have hll : m0 < lb.length := by omega
                have ek : 1 + m0 - 1 = m0 := by omega
                have hac : (twoEng (1 + n0) (1 + m0) (1 + g0) ⟨la, lb, lg⟩ cn).access key = .ok false (lb.drop m0) (twoEng (1 + n0) (1 + m0) (1 + g0) ⟨la, key :: lb.eraseIdx m0, lg.eraseIdx j⟩ (cntUp cn false (lb.drop m0).length)) := by
                  have := HAX.out
                  simpa [twoHit, twoOut, twoNext, missOut, missNext, hpb, hpa, hpg, hfull, ek] using this
                have hty : TInv (1 + n0) (1 + m0) (1 + g0) ⟨la, key :: lb.eraseIdx m0, lg.eraseIdx j⟩ := by
                  have := HTN.out
                  simpa [twoNext, missNext, hpb, hpa, hpg, hfull, ek] using this
                have hfr := OB.from_ (k := m0) (by omega) (c := cb - m0) (by omega) (by unfold maxLen at *; omega)
                have hwo := own_without OB (by omega) (i := m0) (by omega)
                have hle : (lb.eraseIdx m0).length ≤ 1000000 := by rw [List.length_eraseIdx]; split <;> omega
                unfold maxLen at hcm
                have HAC := Lib.hid hac
                have HTY := Lib.hid hty
                have HFR := Lib.hid hfr
                have HWO := Lib.hid hwo
                have HLE := Lib.hid hle
                clear ea eb eg hpb hpa hpg hac hty hfr hwo hle hfull ek L OA OB OG
                have e7 : 1 + (m0 : Int) - 1 = (m0 : Int) := by omega
                go_wp2_with fail
                refine HATB.out.mono ?_
                rw [EB.out]
                rintro x wx ⟨rfl, rfl⟩
                go_wp2_with fail
                refine HATG.out.mono ?_
                rw [EG.out]
                rintro x wx2 ⟨rfl, rfl⟩
                go_wp2_with fail
                refine HATA.out.mono ?_
                rw [EA.out]
                rintro x wx3 ⟨rfl, rfl⟩
                go_wp2_with fail
                refine HWO.out.mono ?_
                rintro x wy ho
                obtain ⟨vy, rfl, hoy, hLy, hky⟩ := ho.own HL.out
                have OGY := Lib.hid (HOG.out.later hky)
                have OAY := Lib.hid (HOA.out.later hky)
                have HFY := Lib.hid (HFR.out.later hky (fun b hb => hb))
                have HOY := Lib.hid hoy
                have HLY := Lib.hid hLy
                have hwo2 := own_without OGY.out (by omega) (i := j) hj
                have HWO2 := Lib.hid hwo2
                clear ho hoy hLy hky hwo2
                go_wp2_with fail
                refine HWO2.out.mono ?_
                rintro x wv ho
                obtain ⟨vg, rfl, hog, hLv, hkv⟩ := ho.own HLY.out
                have OGV := Lib.hid hog
                have OAV := Lib.hid (OAY.out.later hkv)
                have OBV := Lib.hid (HOY.out.later hkv)
                have HFV := Lib.hid (HFY.out.later hkv (fun b hb => hb))
                have HLV := Lib.hid hLv
                have hfront := front_any OBV.out.lr HLE.out key
                have HFRO := Lib.hid hfront
                clear ho hog hLv hkv hfront
                go_wp2_with fail
                refine HFRO.out.mono ?_
                rintro x wz ho
                obtain ⟨vz, rfl, hoz, hLz, hkz⟩ := ho.own HLV.out
                have OAZ := Lib.hid (OAV.out.later hkz)
                have OGZ := Lib.hid (OGV.out.later hkz)
                have OBZ := Lib.hid hoz
                have HLZ := Lib.hid hLz
                have FZ := Lib.hid (HFV.out.later hkz (fun b hb => hb))
                have NOZ : Hid (∀ b, (Value.slice (some ⟨gl, m0, none⟩) (lb.length - m0) (cb - m0)).ownBlock = some b → ¬ S b) := Lib.hid (fun b hb => by injection hb with hb; exact hb ▸ hSg)
                clear ho hoz hLz hkz
                have htold := ltold2_any HE.out HO.out HLZ.out (by omega) HAC.out (two_keys _).1 FZ.out NOZ.out OBZ.out (Nat.le_trans HTY.out.lb (by omega))
                have HTO := Lib.hid htold
                clear htold
                go_wp2_with fail
                refine HTO.out.mono ?_
                rintro x w5 ⟨rfl, S', hW⟩
                have O5A := Lib.hid (hW.own OAZ.out HLZ.out.mine)
                have O5B := Lib.hid (hW.own OBZ.out HLZ.out.mine)
                have O5G := Lib.hid (hW.own OGZ.out HLZ.out.mine)
                have HW5 := Lib.hid hW.loop
                clear hW
                have hk5 := lkeys_any HW5.out (two_keys _).2.1
                have HK5 := Lib.hid hk5
                clear hk5
                go_wp2_with fail
                refine HK5.out.mono ?_
                rintro x w6 ⟨v6, rfl, hk6, hs6⟩
                have L6 := Lib.hid (HW5.out.later hk6)
                have O6A := Lib.hid (O5A.out.later hk6)
                have O6B := Lib.hid (O5B.out.later hk6)
                have O6G := Lib.hid (O5G.out.later hk6)
                have HS6 := Lib.hid hs6
                clear hk6 hs6
                have hk5 := lkeys_any L6.out (two_keys _).2.2
                have HK6 := Lib.hid hk5
                clear hk5
                go_wp2_with fail
                refine HK6.out.mono ?_
                rintro x w7 ⟨v7, rfl, hk7, hs7⟩
                have L7 := Lib.hid (L6.out.later hk7)
                have O7A := Lib.hid (O6A.out.later hk7)
                have O7B := Lib.hid (O6B.out.later hk7)
                have O7G := Lib.hid (O6G.out.later hk7)
                have hq1 := HS6.out.lr.later hk7 (fun b hb => hb)
                have hq2 := hs7.lr
                have hsm1 := fun W (hw : ∃ n, W = w7.drewN n) => (show Calls Tryz.prog 22 #[v6, _] W (BoolQ W (_ == _)) from by obtain ⟨n, rfl⟩ := hw; exact same_any (hq1.drewN n) (O7A.out.lr.drewN n) (Nat.le_trans HTY.out.la (by omega)) (Nat.le_trans HTY.out.la (by omega)))
                have hsm2 := fun W (hw : ∃ n, W = w7.drewN n) => (show Calls Tryz.prog 22 #[v7, _] W (BoolQ W (_ == _)) from by obtain ⟨n, rfl⟩ := hw; exact same_any (hq2.drewN n) (O7G.out.lr.drewN n) (Nat.le_trans HTY.out.lg (by omega)) (Nat.le_trans HTY.out.lg (by omega)))
                have HM1 := Lib.hid hsm1
                have HM2 := Lib.hid hsm2
                clear hk7 hs7 hq1 hq2 hsm1 hsm2
                go_wp2_with fail
                refine (HM1.out _ ⟨0, rfl⟩).mono ?_
                rintro x w8 ⟨rfl, n8, rfl⟩
                rw [beq_self_eq_true]
                go_wp2_with fail
                refine (HM2.out _ ⟨n8, rfl⟩).mono ?_
                rintro x w9 ⟨rfl, n9, rfl⟩
                rw [beq_self_eq_true]
                go_wp2
                go_roundg (keys.length - (k + 1))
                case measure => omega
                case rel => exact ⟨k + 1, S', _, _, _, _, by omega, by omega, by omega, by go_num, HTY.out, L7.out.drewN _, O7A.out.drewN _, O7B.out.drewN _, O7G.out.drewN _⟩
              · have f1 : ((lb.length : Int) == 1 + (m0 : Int)) = false := by simp; omega
                have f2 : decide ((lb.length : Int) = 1 + (m0 : Int)) = false := by simp; omega
                have hac : (twoEng (1 + n0) (1 + m0) (1 + g0) ⟨la, lb, lg⟩ cn).access key = .ok false [] (twoEng (1 + n0) (1 + m0) (1 + g0) ⟨la, key :: lb, lg.eraseIdx j⟩ (cntUp cn false 0)) := by
                  have := HAX.out
                  simpa [twoHit, twoOut, twoNext, missOut, missNext, hpb, hpa, hpg, hfull] using this
                have hty : TInv (1 + n0) (1 + m0) (1 + g0) ⟨la, key :: lb, lg.eraseIdx j⟩ := by
                  have := HTN.out
                  simpa [twoNext, missNext, hpb, hpa, hpg, hfull] using this
                have hwo2 := own_without OG (by omega) (i := j) hj
                have HAC := Lib.hid hac
                have HTY := Lib.hid hty
                have HWO2 := Lib.hid hwo2
                clear ea eb eg hpb hpa hpg hac hty hwo2 L OA OB OG
                go_wp2_with fail
                refine HATB.out.mono ?_
                rw [EB.out]
                rintro x wx ⟨rfl, rfl⟩
                go_wp2_with fail
                refine HATG.out.mono ?_
                rw [EG.out]
                rintro x wx2 ⟨rfl, rfl⟩
                go_wp2_with fail
                refine HATA.out.mono ?_
                rw [EA.out]
                rintro x wx3 ⟨rfl, rfl⟩
                go_wp2_with fail
                refine HWO2.out.mono ?_
                rintro x wv ho
                obtain ⟨vg, rfl, hog, hLv, hkv⟩ := ho.own HL.out
                have OGV := Lib.hid hog
                have OAV := Lib.hid (HOA.out.later hkv)
                have OBV := Lib.hid (HOB.out.later hkv)
                have HLV := Lib.hid hLv
                have hfront := front_any OBV.out.lr (by omega) key
                have HFRO := Lib.hid hfront
                clear ho hog hLv hkv hfront
                go_wp2_with fail
                refine HFRO.out.mono ?_
                rintro x wz ho
                obtain ⟨vz, rfl, hoz, hLz, hkz⟩ := ho.own HLV.out
                have OAZ := Lib.hid (OAV.out.later hkz)
                have OGZ := Lib.hid (OGV.out.later hkz)
                have OBZ := Lib.hid hoz
                have HLZ := Lib.hid hLz
                have FZ : Hid (LR wz (.slice none 0 0) []) := Lib.hid (.inl ⟨rfl, rfl⟩)
                have NOZ : Hid (∀ b, (Value.slice none 0 0).ownBlock = some b → ¬ S b) := Lib.hid (fun b hb => by cases hb)
                clear ho hoz hLz hkz
                have htold := ltold2_any HE.out HO.out HLZ.out (by omega) HAC.out (two_keys _).1 FZ.out NOZ.out OBZ.out (Nat.le_trans HTY.out.lb (by omega))
                have HTO := Lib.hid htold
                clear htold
                go_wp2_with fail
                refine HTO.out.mono ?_
                rintro x w5 ⟨rfl, S', hW⟩
                have O5A := Lib.hid (hW.own OAZ.out HLZ.out.mine)
                have O5B := Lib.hid (hW.own OBZ.out HLZ.out.mine)
                have O5G := Lib.hid (hW.own OGZ.out HLZ.out.mine)
                have HW5 := Lib.hid hW.loop
                clear hW
                have hk5 := lkeys_any HW5.out (two_keys _).2.1
                have HK5 := Lib.hid hk5
                clear hk5
                go_wp2_with fail
                refine HK5.out.mono ?_
                rintro x w6 ⟨v6, rfl, hk6, hs6⟩
                have L6 := Lib.hid (HW5.out.later hk6)
                have O6A := Lib.hid (O5A.out.later hk6)
                have O6B := Lib.hid (O5B.out.later hk6)
                have O6G := Lib.hid (O5G.out.later hk6)
                have HS6 := Lib.hid hs6
                clear hk6 hs6
                have hk5 := lkeys_any L6.out (two_keys _).2.2
                have HK6 := Lib.hid hk5
                clear hk5
                go_wp2_with fail
                refine HK6.out.mono ?_
                rintro x w7 ⟨v7, rfl, hk7, hs7⟩
                have L7 := Lib.hid (L6.out.later hk7)
                have O7A := Lib.hid (O6A.out.later hk7)
                have O7B := Lib.hid (O6B.out.later hk7)
                have O7G := Lib.hid (O6G.out.later hk7)
                have hq1 := HS6.out.lr.later hk7 (fun b hb => hb)
                have hq2 := hs7.lr
                have hsm1 := fun W (hw : ∃ n, W = w7.drewN n) => (show Calls Tryz.prog 22 #[v6, _] W (BoolQ W (_ == _)) from by obtain ⟨n, rfl⟩ := hw; exact same_any (hq1.drewN n) (O7A.out.lr.drewN n) (Nat.le_trans HTY.out.la (by omega)) (Nat.le_trans HTY.out.la (by omega)))
                have hsm2 := fun W (hw : ∃ n, W = w7.drewN n) => (show Calls Tryz.prog 22 #[v7, _] W (BoolQ W (_ == _)) from by obtain ⟨n, rfl⟩ := hw; exact same_any (hq2.drewN n) (O7G.out.lr.drewN n) (Nat.le_trans HTY.out.lg (by omega)) (Nat.le_trans HTY.out.lg (by omega)))
                have HM1 := Lib.hid hsm1
                have HM2 := Lib.hid hsm2
                clear hk7 hs7 hq1 hq2 hsm1 hsm2
                go_wp2_with fail
                refine (HM1.out _ ⟨0, rfl⟩).mono ?_
                rintro x w8 ⟨rfl, n8, rfl⟩
                rw [beq_self_eq_true]
                go_wp2_with fail
                refine (HM2.out _ ⟨n8, rfl⟩).mono ?_
                rintro x w9 ⟨rfl, n9, rfl⟩
                rw [beq_self_eq_true]
                go_wp2
                go_roundg (keys.length - (k + 1))
                case measure => omega
                case rel => exact ⟨k + 1, S', _, _, _, _, by omega, by omega, by omega, by go_num, HTY.out, L7.out.drewN _, O7A.out.drewN _, O7B.out.drewN _, O7G.out.drewN _⟩
            | none =>
              rw [hpg] at eg
              have EG := Lib.hid eg
              by_cases hfull : la.length = 1 + n0
              · have f1 : ((la.length : Int) == 1 + (n0 : Int)) = true := by simp; omega
                have f2 : decide ((la.length : Int) = 1 + (n0 : Int)) = true := by simp; omega
                obtain ⟨gl, cl', e', hSg, hlc, hcm, hgl⟩ := OA.form (by omega)
                injection e' with e3 e4 e5
                subst e3 e5
                have hcap : ¬ ca = n0 := by omega
                have hll : n0 < la.length := by omega
                by_cases hgf : lg.length = 1 + g0
                · have f3 : ((lg.length : Int) == 1 + (g0 : Int)) = true := by simp; omega
                  have f4 : decide ((lg.length : Int) = 1 + (g0 : Int)) = true := by simp; omega
                  have hlg3 : g0 < lg.length := by omega
                  have ek : 1 + n0 - 1 = n0 := by omega
                  obtain ⟨y0, hy0⟩ : ∃ y, la[n0]? = some y := ⟨_, List.getElem?_eq_getElem (by omega)⟩
                  have hcy := OA.cell hy0
                  have ek2 : 1 + g0 - 1 = g0 := by omega
                  have hac : (twoEng (1 + n0) (1 + m0) (1 + g0) ⟨la, lb, lg⟩ cn).access key = .ok false (la.drop n0) (twoEng (1 + n0) (1 + m0) (1 + g0) ⟨key :: la.eraseIdx n0, lb, y0 :: lg.eraseIdx g0⟩ (cntUp cn false (la.drop n0).length)) := by
                    have := HAX.out
                    simp only [twoHit, twoOut, twoNext, missOut, missNext, ghostNext, hpb, hpa, hpg, hfull, ek, hy0, hgf, ek2, Option.isSome_none, Bool.false_or, Bool.or_self, if_true, if_false, Bool.false_eq_true, Option.getD_some] at this
                    exact this
                  have hty : TInv (1 + n0) (1 + m0) (1 + g0) ⟨key :: la.eraseIdx n0, lb, y0 :: lg.eraseIdx g0⟩ := by
                    have := HTN.out
                    simp only [twoNext, missNext, ghostNext, hpb, hpa, hpg, hfull, ek, hy0, hgf, ek2, Option.isSome_none, Bool.false_or, if_true, if_false, Bool.false_eq_true, Option.getD_some] at this
                    exact this
                  have hfr := OA.from_ (k := n0) (by omega) (c := ca - n0) (by omega) (by unfold maxLen at *; omega)
                  have hle : (la.eraseIdx n0).length ≤ 1000000 := by rw [List.length_eraseIdx]; split <;> omega
                  have hwg := own_without OG (by omega) (i := g0) (by omega)
                  have HWG := Lib.hid hwg
                  have hlg2 : (lg.eraseIdx g0).length ≤ 1000000 := by rw [List.length_eraseIdx]; split <;> omega
                  have HLG2 := Lib.hid hlg2
                  unfold maxLen at hcm
                  have HAC := Lib.hid hac
                  have HTY := Lib.hid hty
                  have HFR := Lib.hid hfr
                  have HLE := Lib.hid hle
                  clear ea eb eg hpb hpa hpg hac hty hfr hle hfull hgf ek hy0 ek2 hwg hlg2 L OA OB OG
                  have e7 : 1 + (n0 : Int) - 1 = (n0 : Int) := by omega
                  have e8 : 1 + (g0 : Int) - 1 = (g0 : Int) := by omega
                  go_wp2_with fail
                  refine HATB.out.mono ?_
                  rw [EB.out]
                  rintro x wx ⟨rfl, rfl⟩
                  go_wp2_with fail
                  refine HATG.out.mono ?_
                  rw [EG.out]
                  rintro x wx2 ⟨rfl, rfl⟩
                  go_wp2_with fail
                  refine HATA.out.mono ?_
                  rw [EA.out]
                  rintro x wx3 ⟨rfl, rfl⟩
                  go_wp2_with fail
                  refine HWG.out.mono ?_
                  rintro x wq ho
                  obtain ⟨vq, rfl, hoq, hLq, hkq⟩ := ho.own HL.out
                  have OGQ := Lib.hid hoq
                  have OAQ := Lib.hid (HOA.out.later hkq)
                  have OBQ := Lib.hid (HOB.out.later hkq)
                  have HFQ := Lib.hid (HFR.out.later hkq (fun b hb => hb))
                  have hcy2 := (hkq.cell (p := ⟨gl, n0, none⟩) (by simp only; omega)).trans hcy
                  have HLQ := Lib.hid hLq
                  have hfront := front_any OGQ.out.lr HLG2.out y0
                  have HFRG := Lib.hid hfront
                  clear ho hoq hLq hkq hfront hcy
                  go_wp2_with fail
                  refine HFRG.out.mono ?_
                  rintro x wr2 ho
                  obtain ⟨vr, rfl, hor, hLr, hkr⟩ := ho.own HLQ.out
                  have OGR := Lib.hid hor
                  have OAR := Lib.hid (OAQ.out.later hkr)
                  have OBR := Lib.hid (OBQ.out.later hkr)
                  have HFR2 := Lib.hid (HFQ.out.later hkr (fun b hb => hb))
                  have HLR := Lib.hid hLr
                  have hwo := own_without OAR.out (by omega) (i := n0) (by omega)
                  have HWO := Lib.hid hwo
                  clear ho hor hLr hkr hwo
                  go_wp2_with fail
                  refine HWO.out.mono ?_
                  rintro x wy ho
                  obtain ⟨vy, rfl, hoy, hLy, hky⟩ := ho.own HLR.out
                  have OAY := Lib.hid hoy
                  have OBY := Lib.hid (OBR.out.later hky)
                  have OGY := Lib.hid (OGR.out.later hky)
                  have HFY := Lib.hid (HFR2.out.later hky (fun b hb => hb))
                  have HLY := Lib.hid hLy
                  have hfront := front_any OAY.out.lr HLE.out key
                  have HFRO := Lib.hid hfront
                  clear ho hoy hLy hky hfront
                  go_wp2_with fail
                  refine HFRO.out.mono ?_
                  rintro x wz ho
                  obtain ⟨vz, rfl, hoz, hLz, hkz⟩ := ho.own HLY.out
                  have OAZ := Lib.hid hoz
                  have OBZ := Lib.hid (OBY.out.later hkz)
                  have OGZ := Lib.hid (OGY.out.later hkz)
                  have HLZ := Lib.hid hLz
                  have FZ := Lib.hid (HFY.out.later hkz (fun b hb => hb))
                  have NOZ : Hid (∀ b, (Value.slice (some ⟨gl, n0, none⟩) (la.length - n0) (ca - n0)).ownBlock = some b → ¬ S b) := Lib.hid (fun b hb => by injection hb with hb; exact hb ▸ hSg)
                  clear ho hoz hLz hkz
                  have htold := ltold2_any HE.out HO.out HLZ.out (by omega) HAC.out (two_keys _).1 FZ.out NOZ.out OBZ.out (Nat.le_trans HTY.out.lb (by omega))
                  have HTO := Lib.hid htold
                  clear htold
                  go_wp2_with fail
                  refine HTO.out.mono ?_
                  rintro x w5 ⟨rfl, S', hW⟩
                  have O5A := Lib.hid (hW.own OAZ.out HLZ.out.mine)
                  have O5B := Lib.hid (hW.own OBZ.out HLZ.out.mine)
                  have O5G := Lib.hid (hW.own OGZ.out HLZ.out.mine)
                  have HW5 := Lib.hid hW.loop
                  clear hW
                  have hk5 := lkeys_any HW5.out (two_keys _).2.1
                  have HK5 := Lib.hid hk5
                  clear hk5
                  go_wp2_with fail
                  refine HK5.out.mono ?_
                  rintro x w6 ⟨v6, rfl, hk6, hs6⟩
                  have L6 := Lib.hid (HW5.out.later hk6)
                  have O6A := Lib.hid (O5A.out.later hk6)
                  have O6B := Lib.hid (O5B.out.later hk6)
                  have O6G := Lib.hid (O5G.out.later hk6)
                  have HS6 := Lib.hid hs6
                  clear hk6 hs6
                  have hk5 := lkeys_any L6.out (two_keys _).2.2
                  have HK6 := Lib.hid hk5
                  clear hk5
                  go_wp2_with fail
                  refine HK6.out.mono ?_
                  rintro x w7 ⟨v7, rfl, hk7, hs7⟩
                  have L7 := Lib.hid (L6.out.later hk7)
                  have O7A := Lib.hid (O6A.out.later hk7)
                  have O7B := Lib.hid (O6B.out.later hk7)
                  have O7G := Lib.hid (O6G.out.later hk7)
                  have hq1 := HS6.out.lr.later hk7 (fun b hb => hb)
                  have hq2 := hs7.lr
                  have hsm1 := fun W (hw : ∃ n, W = w7.drewN n) => (show Calls Tryz.prog 22 #[v6, _] W (BoolQ W (_ == _)) from by obtain ⟨n, rfl⟩ := hw; exact same_any (hq1.drewN n) (O7A.out.lr.drewN n) (Nat.le_trans HTY.out.la (by omega)) (Nat.le_trans HTY.out.la (by omega)))
                  have hsm2 := fun W (hw : ∃ n, W = w7.drewN n) => (show Calls Tryz.prog 22 #[v7, _] W (BoolQ W (_ == _)) from by obtain ⟨n, rfl⟩ := hw; exact same_any (hq2.drewN n) (O7G.out.lr.drewN n) (Nat.le_trans HTY.out.lg (by omega)) (Nat.le_trans HTY.out.lg (by omega)))
                  have HM1 := Lib.hid hsm1
                  have HM2 := Lib.hid hsm2
                  clear hk7 hs7 hq1 hq2 hsm1 hsm2
                  go_wp2_with fail
                  refine (HM1.out _ ⟨0, rfl⟩).mono ?_
                  rintro x w8 ⟨rfl, n8, rfl⟩
                  rw [beq_self_eq_true]
                  go_wp2_with fail
                  refine (HM2.out _ ⟨n8, rfl⟩).mono ?_
                  rintro x w9 ⟨rfl, n9, rfl⟩
                  rw [beq_self_eq_true]
                  go_wp2
                  go_roundg (keys.length - (k + 1))
                  case measure => omega
                  case rel => exact ⟨k + 1, S', _, _, _, _, by omega, by omega, by omega, by go_num, HTY.out, L7.out.drewN _, O7A.out.drewN _, O7B.out.drewN _, O7G.out.drewN _⟩
                · have f3 : ((lg.length : Int) == 1 + (g0 : Int)) = false := by simp; omega
                  have f4 : decide ((lg.length : Int) = 1 + (g0 : Int)) = false := by simp; omega
                  have ek : 1 + n0 - 1 = n0 := by omega
                  obtain ⟨y0, hy0⟩ : ∃ y, la[n0]? = some y := ⟨_, List.getElem?_eq_getElem (by omega)⟩
                  have hcy := OA.cell hy0
                  have hac : (twoEng (1 + n0) (1 + m0) (1 + g0) ⟨la, lb, lg⟩ cn).access key = .ok false (la.drop n0) (twoEng (1 + n0) (1 + m0) (1 + g0) ⟨key :: la.eraseIdx n0, lb, y0 :: lg⟩ (cntUp cn false (la.drop n0).length)) := by
                    have := HAX.out
                    simp only [twoHit, twoOut, twoNext, missOut, missNext, ghostNext, hpb, hpa, hpg, hfull, ek, hy0, hgf, Option.isSome_none, Bool.false_or, Bool.or_self, if_true, if_false, Bool.false_eq_true, Option.getD_some] at this
                    exact this
                  have hty : TInv (1 + n0) (1 + m0) (1 + g0) ⟨key :: la.eraseIdx n0, lb, y0 :: lg⟩ := by
                    have := HTN.out
                    simp only [twoNext, missNext, ghostNext, hpb, hpa, hpg, hfull, ek, hy0, hgf, Option.isSome_none, Bool.false_or, if_true, if_false, Bool.false_eq_true, Option.getD_some] at this
                    exact this
                  have hfr := OA.from_ (k := n0) (by omega) (c := ca - n0) (by omega) (by unfold maxLen at *; omega)
                  have hle : (la.eraseIdx n0).length ≤ 1000000 := by rw [List.length_eraseIdx]; split <;> omega
                  unfold maxLen at hcm
                  have HAC := Lib.hid hac
                  have HTY := Lib.hid hty
                  have HFR := Lib.hid hfr
                  have HLE := Lib.hid hle
                  clear ea eb eg hpb hpa hpg hac hty hfr hle hfull hgf ek hy0  L OA OB OG
                  have e7 : 1 + (n0 : Int) - 1 = (n0 : Int) := by omega
                  go_wp2_with fail
                  refine HATB.out.mono ?_
                  rw [EB.out]
                  rintro x wx ⟨rfl, rfl⟩
                  go_wp2_with fail
                  refine HATG.out.mono ?_
                  rw [EG.out]
                  rintro x wx2 ⟨rfl, rfl⟩
                  go_wp2_with fail
                  refine HATA.out.mono ?_
                  rw [EA.out]
                  rintro x wx3 ⟨rfl, rfl⟩
                  have OGQ := HOG
                  have OAQ := HOA
                  have OBQ := HOB
                  have HFQ := HFR
                  have HLQ := HL
                  have hfront := front_any OGQ.out.lr (by omega) y0
                  have HFRG := Lib.hid hfront
                  clear hfront
                  go_wp2_with fail
                  refine HFRG.out.mono ?_
                  rintro x wr2 ho
                  obtain ⟨vr, rfl, hor, hLr, hkr⟩ := ho.own HLQ.out
                  have OGR := Lib.hid hor
                  have OAR := Lib.hid (OAQ.out.later hkr)
                  have OBR := Lib.hid (OBQ.out.later hkr)
                  have HFR2 := Lib.hid (HFQ.out.later hkr (fun b hb => hb))
                  have HLR := Lib.hid hLr
                  have hwo := own_without OAR.out (by omega) (i := n0) (by omega)
                  have HWO := Lib.hid hwo
                  clear ho hor hLr hkr hwo
                  go_wp2_with fail
                  refine HWO.out.mono ?_
                  rintro x wy ho
                  obtain ⟨vy, rfl, hoy, hLy, hky⟩ := ho.own HLR.out
                  have OAY := Lib.hid hoy
                  have OBY := Lib.hid (OBR.out.later hky)
                  have OGY := Lib.hid (OGR.out.later hky)
                  have HFY := Lib.hid (HFR2.out.later hky (fun b hb => hb))
                  have HLY := Lib.hid hLy
                  have hfront := front_any OAY.out.lr HLE.out key
                  have HFRO := Lib.hid hfront
                  clear ho hoy hLy hky hfront
                  go_wp2_with fail
                  refine HFRO.out.mono ?_
                  rintro x wz ho
                  obtain ⟨vz, rfl, hoz, hLz, hkz⟩ := ho.own HLY.out
                  have OAZ := Lib.hid hoz
                  have OBZ := Lib.hid (OBY.out.later hkz)
                  have OGZ := Lib.hid (OGY.out.later hkz)
                  have HLZ := Lib.hid hLz
                  have FZ := Lib.hid (HFY.out.later hkz (fun b hb => hb))
                  have NOZ : Hid (∀ b, (Value.slice (some ⟨gl, n0, none⟩) (la.length - n0) (ca - n0)).ownBlock = some b → ¬ S b) := Lib.hid (fun b hb => by injection hb with hb; exact hb ▸ hSg)
                  clear ho hoz hLz hkz
                  have htold := ltold2_any HE.out HO.out HLZ.out (by omega) HAC.out (two_keys _).1 FZ.out NOZ.out OBZ.out (Nat.le_trans HTY.out.lb (by omega))
                  have HTO := Lib.hid htold
                  clear htold
                  go_wp2_with fail
                  refine HTO.out.mono ?_
                  rintro x w5 ⟨rfl, S', hW⟩
                  have O5A := Lib.hid (hW.own OAZ.out HLZ.out.mine)
                  have O5B := Lib.hid (hW.own OBZ.out HLZ.out.mine)
                  have O5G := Lib.hid (hW.own OGZ.out HLZ.out.mine)
                  have HW5 := Lib.hid hW.loop
                  clear hW
                  have hk5 := lkeys_any HW5.out (two_keys _).2.1
                  have HK5 := Lib.hid hk5
                  clear hk5
                  go_wp2_with fail
                  refine HK5.out.mono ?_
                  rintro x w6 ⟨v6, rfl, hk6, hs6⟩
                  have L6 := Lib.hid (HW5.out.later hk6)
                  have O6A := Lib.hid (O5A.out.later hk6)
                  have O6B := Lib.hid (O5B.out.later hk6)
                  have O6G := Lib.hid (O5G.out.later hk6)
                  have HS6 := Lib.hid hs6
                  clear hk6 hs6
                  have hk5 := lkeys_any L6.out (two_keys _).2.2
                  have HK6 := Lib.hid hk5
                  clear hk5
                  go_wp2_with fail
                  refine HK6.out.mono ?_
                  rintro x w7 ⟨v7, rfl, hk7, hs7⟩
                  have L7 := Lib.hid (L6.out.later hk7)
                  have O7A := Lib.hid (O6A.out.later hk7)
                  have O7B := Lib.hid (O6B.out.later hk7)
                  have O7G := Lib.hid (O6G.out.later hk7)
                  have hq1 := HS6.out.lr.later hk7 (fun b hb => hb)
                  have hq2 := hs7.lr
                  have hsm1 := fun W (hw : ∃ n, W = w7.drewN n) => (show Calls Tryz.prog 22 #[v6, _] W (BoolQ W (_ == _)) from by obtain ⟨n, rfl⟩ := hw; exact same_any (hq1.drewN n) (O7A.out.lr.drewN n) (Nat.le_trans HTY.out.la (by omega)) (Nat.le_trans HTY.out.la (by omega)))
                  have hsm2 := fun W (hw : ∃ n, W = w7.drewN n) => (show Calls Tryz.prog 22 #[v7, _] W (BoolQ W (_ == _)) from by obtain ⟨n, rfl⟩ := hw; exact same_any (hq2.drewN n) (O7G.out.lr.drewN n) (Nat.le_trans HTY.out.lg (by omega)) (Nat.le_trans HTY.out.lg (by omega)))
                  have HM1 := Lib.hid hsm1
                  have HM2 := Lib.hid hsm2
                  clear hk7 hs7 hq1 hq2 hsm1 hsm2
                  go_wp2_with fail
                  refine (HM1.out _ ⟨0, rfl⟩).mono ?_
                  rintro x w8 ⟨rfl, n8, rfl⟩
                  rw [beq_self_eq_true]
                  go_wp2_with fail
                  refine (HM2.out _ ⟨n8, rfl⟩).mono ?_
                  rintro x w9 ⟨rfl, n9, rfl⟩
                  rw [beq_self_eq_true]
                  go_wp2
                  go_roundg (keys.length - (k + 1))
                  case measure => omega
                  case rel => exact ⟨k + 1, S', _, _, _, _, by omega, by omega, by omega, by go_num, HTY.out, L7.out.drewN _, O7A.out.drewN _, O7B.out.drewN _, O7G.out.drewN _⟩
              · have f1 : ((la.length : Int) == 1 + (n0 : Int)) = false := by simp; omega
                have f2 : decide ((la.length : Int) = 1 + (n0 : Int)) = false := by simp; omega
                have hac : (twoEng (1 + n0) (1 + m0) (1 + g0) ⟨la, lb, lg⟩ cn).access key = .ok false [] (twoEng (1 + n0) (1 + m0) (1 + g0) ⟨key :: la, lb, lg⟩ (cntUp cn false 0)) := by
                  have := HAX.out
                  simpa [twoHit, twoOut, twoNext, missOut, missNext, ghostNext, hpb, hpa, hpg, hfull] using this
                have hty : TInv (1 + n0) (1 + m0) (1 + g0) ⟨key :: la, lb, lg⟩ := by
                  have := HTN.out
                  simpa [twoNext, missNext, ghostNext, hpb, hpa, hpg, hfull] using this
                have hfront := front_any OA.lr (by omega) key
                have HAC := Lib.hid hac
                have HTY := Lib.hid hty
                have HFRO := Lib.hid hfront
                clear ea eb eg hpb hpa hpg hac hty hfront L OA OB OG
                go_wp2_with fail
                refine HATB.out.mono ?_
                rw [EB.out]
                rintro x wx ⟨rfl, rfl⟩
                go_wp2_with fail
                refine HATG.out.mono ?_
                rw [EG.out]
                rintro x wx2 ⟨rfl, rfl⟩
                go_wp2_with fail
                refine HATA.out.mono ?_
                rw [EA.out]
                rintro x wx3 ⟨rfl, rfl⟩
                go_wp2_with fail
                refine HFRO.out.mono ?_
                rintro x wz ho
                obtain ⟨vz, rfl, hoz, hLz, hkz⟩ := ho.own HL.out
                have OAZ := Lib.hid hoz
                have OBZ := Lib.hid (HOB.out.later hkz)
                have OGZ := Lib.hid (HOG.out.later hkz)
                have HLZ := Lib.hid hLz
                have FZ : Hid (LR wz (.slice none 0 0) []) := Lib.hid (.inl ⟨rfl, rfl⟩)
                have NOZ : Hid (∀ b, (Value.slice none 0 0).ownBlock = some b → ¬ S b) := Lib.hid (fun b hb => by cases hb)
                clear ho hoz hLz hkz
                have htold := ltold2_any HE.out HO.out HLZ.out (by omega) HAC.out (two_keys _).1 FZ.out NOZ.out OBZ.out (Nat.le_trans HTY.out.lb (by omega))
                have HTO := Lib.hid htold
                clear htold
                go_wp2_with fail
                refine HTO.out.mono ?_
                rintro x w5 ⟨rfl, S', hW⟩
                have O5A := Lib.hid (hW.own OAZ.out HLZ.out.mine)
                have O5B := Lib.hid (hW.own OBZ.out HLZ.out.mine)
                have O5G := Lib.hid (hW.own OGZ.out HLZ.out.mine)
                have HW5 := Lib.hid hW.loop
                clear hW
                have hk5 := lkeys_any HW5.out (two_keys _).2.1
                have HK5 := Lib.hid hk5
                clear hk5
                go_wp2_with fail
                refine HK5.out.mono ?_
                rintro x w6 ⟨v6, rfl, hk6, hs6⟩
                have L6 := Lib.hid (HW5.out.later hk6)
                have O6A := Lib.hid (O5A.out.later hk6)
                have O6B := Lib.hid (O5B.out.later hk6)
                have O6G := Lib.hid (O5G.out.later hk6)
                have HS6 := Lib.hid hs6
                clear hk6 hs6
                have hk5 := lkeys_any L6.out (two_keys _).2.2
                have HK6 := Lib.hid hk5
                clear hk5
                go_wp2_with fail
                refine HK6.out.mono ?_
                rintro x w7 ⟨v7, rfl, hk7, hs7⟩
                have L7 := Lib.hid (L6.out.later hk7)
                have O7A := Lib.hid (O6A.out.later hk7)
                have O7B := Lib.hid (O6B.out.later hk7)
                have O7G := Lib.hid (O6G.out.later hk7)
                have hq1 := HS6.out.lr.later hk7 (fun b hb => hb)
                have hq2 := hs7.lr
                have hsm1 := fun W (hw : ∃ n, W = w7.drewN n) => (show Calls Tryz.prog 22 #[v6, _] W (BoolQ W (_ == _)) from by obtain ⟨n, rfl⟩ := hw; exact same_any (hq1.drewN n) (O7A.out.lr.drewN n) (Nat.le_trans HTY.out.la (by omega)) (Nat.le_trans HTY.out.la (by omega)))
                have hsm2 := fun W (hw : ∃ n, W = w7.drewN n) => (show Calls Tryz.prog 22 #[v7, _] W (BoolQ W (_ == _)) from by obtain ⟨n, rfl⟩ := hw; exact same_any (hq2.drewN n) (O7G.out.lr.drewN n) (Nat.le_trans HTY.out.lg (by omega)) (Nat.le_trans HTY.out.lg (by omega)))
                have HM1 := Lib.hid hsm1
                have HM2 := Lib.hid hsm2
                clear hk7 hs7 hq1 hq2 hsm1 hsm2
                go_wp2_with fail
                refine (HM1.out _ ⟨0, rfl⟩).mono ?_
                rintro x w8 ⟨rfl, n8, rfl⟩
                rw [beq_self_eq_true]
                go_wp2_with fail
                refine (HM2.out _ ⟨n8, rfl⟩).mono ?_
                rintro x w9 ⟨rfl, n9, rfl⟩
                rw [beq_self_eq_true]
                go_wp2
                go_roundg (keys.length - (k + 1))
                case measure => omega
                case rel => exact ⟨k + 1, S', _, _, _, _, by omega, by omega, by omega, by go_num, HTY.out, L7.out.drewN _, O7A.out.drewN _, O7B.out.drewN _, O7G.out.drewN _⟩
    · have hk3 := L.kept
      have hke : k = keys.length := by omega
      clear L OA OB OG
      subst hke
      go_wp2
      go_ret
      exact ⟨rfl, hk3⟩
end
end Go.Proofs.YtemppijblfflgaaGreatDoor.Ev
namespace Go.Proofs.YtemppijblfflgaaGreatDoor.Ev
open Go Go.ChangeShapes Go.WideShapes Go.ChangeAt Go.RowKit
open Go.ChangeMaps (open_string shut_string)

namespace twoQueuesLaw
theorem bears : Bears Rows.twoQueuesRow.laid := by
  refine ⟨?_, ?_, ?_, ?_, ?_, ?_, ?_, ?_, ?_, ?_, ?_, ?_, ?_, ?_⟩ <;> (unfold Rows.twoQueuesRow; simp only [List.mem_cons, true_or, or_true])

set_option maxRecDepth 100000 in
theorem contract (H : Type) (enc : TypeId × Value → H) (W : World) (base : Nat) (args : Array Value) (ds gs : List (DataW H)) (before : List MemPlace)
    (hval : ∀ (j : Nat) t v, Tryz.f8.params[j]? = some t → args[j]? = some v → Value.okWide Tryz.prog W .any base t v)
    (hW : DataW.Whole enc Tryz.prog Tryz.f8.params.toList Rows.twoQueuesSpec.vars false W args.toList ds gs before) (hL : laidMetH Tryz.prog Rows.twoQueuesRow.laid W) :
    Calls Tryz.prog 8 args W fun e W' => ∃ v, e = .returned v ∧ Rows.twoQueuesSpec.post enc Tryz.prog Tryz.f8 false true false false W args v W' := by
  have hW' := hW
  obtain ⟨p, q, hA0, hV, rfl, hfz, hnd⟩ := hW
  have hA : DataW.TrodAll enc Tryz.prog W 0 (fun _ => true) true Tryz.f8.params.toList args.toList ds p := hA0
  rw [Tryz.params8] at hA hval
  obtain ⟨v0, v1, v2, v3, d0, d1, d2, d3, p0, p1, p2, p3, rfl, rfl, rfl, h0, h1, h2, h3⟩ := trodAll_four hA
  obtain ⟨keys0, hk0⟩ := keysR_of Tryz.underlying22 Tryz.underlying27 (by kernel_rfl) (hval 0 22 v0 rfl rfl) h0
  obtain ⟨x1, rfl, rfl, rfl, hw1⟩ := open_int Tryz.underlying3 (hval 1 3 v1 rfl rfl) h1
  have hb1 := bounds_i64 hw1
  obtain ⟨x2, rfl, rfl, rfl, hw2⟩ := open_int Tryz.underlying3 (hval 2 3 v2 rfl rfl) h2
  have hb2 := bounds_i64 hw2
  obtain ⟨x3, rfl, rfl, rfl, hw3⟩ := open_int Tryz.underlying3 (hval 3 3 v3 rfl rfl) h3
  have hb3 := bounds_i64 hw3
  obtain ⟨ea, he, ho⟩ := env_of hL bears
  refine (two_walk he ho hk0 x1 x2 x3 hb1.1 hb1.2 hb2.1 hb2.2 hb3.1 hb3.2).mono fun e W' ⟨h8, h9⟩ => ?_
  subst h8
  exact ⟨_, rfl, post_true laidOut_ rfl hW' (fun ds' hd => by
    obtain ⟨a0, a1, a2, a3, rfl⟩ : ∃ a0 a1 a2 a3, ds' = [a0, a1, a2, a3] := by
      match ds', hd with
      | [a0, a1, a2, a3], _ => exact ⟨a0, a1, a2, a3, rfl⟩
    rfl) rfl Tryz.underlying4 (by
      intro t ht
      rw [Tryz.params8] at ht
      have ht : t ∈ ([22, 3, 3, 3] : List TypeId) := ht
      rcases List.mem_cons.1 ht with rfl | ht
      · exact ⟨by kernel_rfl, of_decide_eq_true (by kernel_rfl)⟩
      rcases List.mem_cons.1 ht with rfl | ht
      · exact ⟨by kernel_rfl, of_decide_eq_true (by kernel_rfl)⟩
      rcases List.mem_cons.1 ht with rfl | ht
      · exact ⟨by kernel_rfl, of_decide_eq_true (by kernel_rfl)⟩
      rcases List.mem_cons.1 ht with rfl | ht
      · exact ⟨by kernel_rfl, of_decide_eq_true (by kernel_rfl)⟩
      cases ht) h9⟩

theorem laid_met (os : Os) : laidMetH Tryz.prog Rows.twoQueuesRow.laid ((laidWorld os).forCall (fun _ _ => 0) ⟨#[], #[.slice none 0 0, .int .i64 0, .int .i64 0, .int .i64 0], []⟩).memory :=
  laidMetH_of_parts (LaidIn.of_run (List.range 1000) 8 (by kernel_rfl) (by kernel_rfl) (by kernel_rfl) (by kernel_rfl)).met (by kernel_rfl)

theorem witness_row (os : Os) {H : Type} (enc : TypeId × Value → H) :
    (OpenSpec.ofChange Rows.twoQueuesSpec).preRow enc Tryz.prog Tryz.f8 Rows.twoQueuesRow.domain false Rows.twoQueuesRow.laid ((laidWorld os).forCall (fun _ _ => 0) ⟨#[], #[.slice none 0 0, .int .i64 0, .int .i64 0, .int .i64 0], []⟩).memory #[.slice none 0 0, .int .i64 0, .int .i64 0, .int .i64 0] := by
  have hw : (DataW.whole enc Tryz.prog ((laidWorld os).forCall (fun _ _ => 0) ⟨#[], #[.slice none 0 0, .int .i64 0, .int .i64 0, .int .i64 0], []⟩).memory Tryz.f8.params.toList (OpenSpec.ofChange Rows.twoQueuesSpec).vars false (#[.slice none 0 0, .int .i64 0, .int .i64 0, .int .i64 0] : Array Value).toList 8).map (fun x => (x.1, x.2.1)) =
      some ([.nil, .lit (.int .i64 0), .lit (.int .i64 0), .lit (.int .i64 0)], []) := by kernel_rfl
  obtain ⟨⟨x1, x2, x3⟩, hx, hx1⟩ := Option.map_eq_some_iff.1 hw
  simp only [Prod.mk.injEq] at hx1
  obtain ⟨rfl, rfl⟩ := hx1
  exact OpenSpec.preRow_of_cond 8 hx (by kernel_rfl) (fun k hk => by cases hk) (by kernel_rfl) (laid_met os)

set_option maxRecDepth 100000 in
theorem lifted (os : Os) (started : os.Started) (H : Type) (enc : TypeId × Value → H) (F : Stop.Interp) :
    ReturnsInHanded {} Tryz.checked os 8 .any ((OpenSpec.ofChange Rows.twoQueuesSpec).preRow enc Tryz.prog Tryz.f8 Rows.twoQueuesRow.domain false Rows.twoQueuesRow.laid) (((OpenSpec.ofChange Rows.twoQueuesSpec).at F).post enc Tryz.prog Tryz.f8 false true false false) := by
  refine returnsInHanded_of_row (C := Tryz.checked) (s := OpenSpec.ofChange Rows.twoQueuesSpec) ownKnob_ started (by kernel_rfl) Tryz.func8
    (witness_row_atRef (enc := enc) (C := Tryz.checked) false (laidWorld os) #[.slice none 0 0, .int .i64 0, .int .i64 0, .int .i64 0] rfl (by kernel_rfl) (by kernel_rfl) (by kernel_rfl) (witness_row os enc)) ?_
  intro W base args ds gs before hval hW _ _ _ hL _ _
  exact contract H enc W base args ds gs before hval hW hL

theorem said : Rows.TwoQueuesSaid :=
  OpenClaim.holds_of_cond 8 Tryz.f8 rfl rfl rfl rfl rfl rfl rfl ⟨rfl, rfl, rfl, rfl, rfl⟩ rfl rfl rfl rfl rfl (by kernel_rfl) Tryz.func8 (by kernel_rfl)
    (of_decide_eq_true (by kernel_rfl)) (by unfold Func.isWrapper; first | (rw [if_pos (by decide +kernel)]; kernel_rfl) | (rw [if_neg (by decide +kernel)]; exact ⟨rfl, rfl⟩))
    (fun os started H enc _ F => by rw [OpenClaim.pre_eq_preRow]; exact lifted os started H enc F)

theorem plain (f : FuncId) (fn : Func) (hf : Tryz.pinned.checked.prog.funcNamed "evictor/evictorkeep.TwoQueues" = some f) (hfn : Tryz.pinned.checked.prog.funcs[f]? = some fn) :
    true = Tryz.pinned.checked.prog.looks [] ∧ ∀ (j : Nat) t, fn.params[j]? = some t → Tryz.pinned.checked.prog.wantsStandIn t = false := by
  obtain rfl : f = 8 := Option.some.inj ((show Tryz.prog.funcNamed "evictor/evictorkeep.TwoQueues" = some 8 by kernel_rfl).symm.trans hf) |>.symm
  obtain rfl : fn = Tryz.f8 := (Option.some.inj (Tryz.func8.symm.trans hfn)).symm
  refine ⟨by kernel_rfl, fun j t ht => ?_⟩
  rw [Tryz.params8] at ht
  have ht : t ∈ ([22, 3, 3, 3] : List TypeId) := (Array.mem_of_getElem? ht).1
  rcases List.mem_cons.1 ht with rfl | ht
  · exact (show Tryz.prog.wantsStandIn 22 = false by kernel_rfl)
  rcases List.mem_cons.1 ht with rfl | ht
  · exact (show Tryz.prog.wantsStandIn 3 = false by kernel_rfl)
  rcases List.mem_cons.1 ht with rfl | ht
  · exact (show Tryz.prog.wantsStandIn 3 = false by kernel_rfl)
  rcases List.mem_cons.1 ht with rfl | ht
  · exact (show Tryz.prog.wantsStandIn 3 = false by kernel_rfl)
  cases ht

theorem proved : Rows.TwoQueuesCardSaid :=
  Claim7.holds_tied_plain_at .later [] _ _ _ _ said (fun _ h => by cases h) (by kernel_rfl) (fun _ h => by cases h) twoQueues_row_tie rfl ⟨rfl, rfl⟩ (by kernel_rfl) rfl plain (by kernel_rfl)
end twoQueuesLaw
end Go.Proofs.YtemppijblfflgaaGreatDoor.Ev
