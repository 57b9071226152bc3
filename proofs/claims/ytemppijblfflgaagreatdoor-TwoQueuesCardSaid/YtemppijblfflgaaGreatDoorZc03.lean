/- The arena stands for sequences of entries: what each of its calls makes of them. No program in sight. Plain facts on tokens: where they lie. No program in sight. What the reader's calls leave as it was, and what stands in what they give: plain facts. No program in sight. What holds of every policy that was read. No program in sight. The steps that change something, over the arena: they do what the tree's words say. No program in sight. How much a rule may evict at most. No program in sight. Conditions: none. -/
import Derived.Test.YtemppijblfflgaaGreatDoorZc02
set_option linter.all false
set_option linter.unusedSimpArgs false
set_option linter.unusedVariables false
namespace Go.Proofs.YtemppijblfflgaaGreatDoor.Ev

def entOf (A : Arena) (n : Nat) : Ent := ⟨(A.node n).key, (A.node n).freq⟩

/-- The arena A, whose queues are the chains ns, stands for the sequences qs. -/
structure AInv (A : Arena) (ns : List (List Nat)) (qs : List (List Ent)) : Prop where
  bd : A.Bd
  len : ns.length = A.qs.length
  q8 : A.qs.length ≤ 8
  ends : ∀ (k : Nat) l, ns[k]? = some l → (A.ends k).head = l.headD 0 ∧ (A.ends k).tail = l.getLastD 0 ∧ (A.ends k).n = l.length
  dll : ∀ (k : Nat) l, ns[k]? = some l → Dll A.node 0 l 0
  mem : ∀ (k : Nat) l, ns[k]? = some l → ∀ n ∈ l, n ≠ 0 ∧ n < A.l.length ∧ (A.node n).q = k
  nodup : ∀ (k : Nat) l, ns[k]? = some l → l.Nodup
  fifty : ∀ (k : Nat) l, ns[k]? = some l → l.length ≤ 50
  ent : qs = ns.map (fun l => l.map (entOf A))
  idx : ∀ key n, A.idx key = some n ↔ ∃ (k : Nat) (l : List Nat), ns[k]? = some l ∧ n ∈ l ∧ (A.node n).key = key
  atn : (A.at_.map (·.1)).Nodup
  free : ∀ n ∈ A.free, n ≠ 0 ∧ n < A.l.length ∧ (A.node n).q = -1
  freen : A.free.Nodup
  cnt : A.l.length = 1 + (ns.map List.length).sum + A.free.length
  lb : A.l.length ≤ 1 + 50 * A.qs.length

theorem sum_set : ∀ (l : List Nat) (k x y : Nat), l[k]? = some x → (l.set k y).sum + x = l.sum + y
  | [], k, x, y, h => by simp at h
  | a :: l, 0, x, y, h => by simp at h; subst h; simp; omega
  | a :: l, k + 1, x, y, h => by
    have := sum_set l k x y (by simpa using h)
    simp; omega

theorem sum_le_all : ∀ (l : List Nat) (b : Nat), (∀ x ∈ l, x ≤ b) → l.sum ≤ b * l.length
  | [], _, _ => by simp
  | a :: l, b, h => by
    have h1 := sum_le_all l b (fun x hx => h x (by simp [hx]))
    have h2 := h a (by simp)
    simp only [List.sum_cons, List.length_cons, Nat.mul_add, Nat.mul_one]
    omega

section
variable {A : Arena} {ns : List (List Nat)} {qs : List (List Ent)}

theorem AInv.ok (h : AInv A ns qs) : A.Ok := by
  have h1 := h.cnt
  have h2 := h.lb
  have h3 := h.q8
  refine ⟨by omega, by omega, h.bd.node, fun n hn => (h.free n hn).2.1, by omega, h.bd.ends, fun key n hn => ?_⟩
  obtain ⟨k, l, a, b, c⟩ := (h.idx key n).1 hn
  obtain ⟨_, d, e⟩ := h.mem k l a n b
  exact ⟨d, by omega⟩

theorem placeFrom_none {key : Int} : ∀ {l : List Ent} {i : Nat}, (∀ e ∈ l, e.key ≠ key) → placeFrom key l i = none
  | [], _, _ => rfl
  | e :: l, i, h => by rw [placeFrom, if_neg (h e (by simp))]; exact placeFrom_none (fun x hx => h x (by simp [hx]))
theorem placeFrom_some {key : Int} : ∀ {l1 l2 : List Ent} {e : Ent} {i : Nat}, (∀ e ∈ l1, e.key ≠ key) → e.key = key → placeFrom key (l1 ++ e :: l2) i = some (i + l1.length)
  | [], _, e, i, _, h => by simp [placeFrom, h]
  | x :: l1, l2, e, i, h1, h => by
    rw [List.cons_append, placeFrom, if_neg (h1 x (by simp)), placeFrom_some (fun x hx => h1 x (by simp [hx])) h]
    simp; omega
theorem whereFrom_none {key : Int} : ∀ {q : List (List Ent)} {k : Nat}, (∀ l ∈ q, ∀ e ∈ l, e.key ≠ key) → whereFrom key q k = none
  | [], _, _ => rfl
  | l :: q, k, h => by rw [whereFrom, placeFrom_none (h l (by simp))]; exact whereFrom_none (fun x hx => h x (by simp [hx]))
theorem whereFrom_some {key : Int} : ∀ {q : List (List Ent)} {j k : Nat} {l1 l2 : List Ent} {e : Ent}, (∀ (i : Nat) l, i < j → q[i]? = some l → ∀ e ∈ l, e.key ≠ key) → q[j]? = some (l1 ++ e :: l2) → (∀ e ∈ l1, e.key ≠ key) → e.key = key →
    whereFrom key q k = some (k + j, l1.length)
  | [], j, k, _, _, _, _, h, _, _ => by simp at h
  | l :: q, 0, k, l1, l2, e, h1, h2, h3, h4 => by
    simp only [List.getElem?_cons_zero, Option.some.injEq] at h2
    subst h2
    rw [whereFrom, placeFrom_some h3 h4]
    simp
  | l :: q, j + 1, k, l1, l2, e, h1, h2, h3, h4 => by
    rw [whereFrom, placeFrom_none (h1 0 l (by omega) rfl)]
    have := whereFrom_some (q := q) (j := j) (k := k + 1) (fun i l hi hl => h1 (i + 1) l (by omega) (by simpa using hl)) (by simpa using h2) h3 h4
    rw [show k + (j + 1) = k + 1 + j by omega]
    exact this

theorem AInv.uniq (h : AInv A ns qs) {k k' : Nat} {l l' : List Nat} {n n' : Nat} (h1 : ns[k]? = some l) (h2 : n ∈ l) (h3 : ns[k']? = some l') (h4 : n' ∈ l') (e : (A.node n).key = (A.node n').key) : n = n' ∧ k = k' := by
  have x1 := (h.idx (A.node n').key n).2 ⟨k, l, h1, h2, e⟩
  have x2 := (h.idx (A.node n').key n').2 ⟨k', l', h3, h4, rfl⟩
  rw [x1] at x2
  injection x2 with x2
  subst x2
  have m1 := (h.mem k l h1 n h2).2.2
  have m2 := (h.mem k' l' h3 n h4).2.2
  exact ⟨rfl, by omega⟩

theorem AInv.at_q (h : AInv A ns qs) {k : Nat} {l : List Nat} (h1 : ns[k]? = some l) : qs[k]? = some (l.map (entOf A)) := by
  rw [h.ent, List.getElem?_map, h1]; rfl
theorem AInv.at_lt (h : AInv A ns qs) {k : Nat} {l : List Nat} (h1 : ns[k]? = some l) : k < A.qs.length := by
  rw [← h.len]; exact (List.getElem?_eq_some_iff.1 h1).1
theorem AInv.get (h : AInv A ns qs) {k : Nat} (hk : k < A.qs.length) : ∃ l, ns[k]? = some l := ⟨_, List.getElem?_eq_getElem (by rw [h.len]; exact hk)⟩
theorem AInv.qlen (h : AInv A ns qs) : qs.length = A.qs.length := by rw [h.ent, List.length_map, h.len]

/-- Where a key is. -/
theorem AInv.find_some (h : AInv A ns qs) {key : Int} {n : Nat} (hi : A.idx key = some n) (vars : List Int) :
    ∃ (k : Nat) (l1 l2 : List Nat), ns[k]? = some (l1 ++ n :: l2) ∧ (⟨qs, vars⟩ : St).find key = some (k, l1.length) ∧ (A.node n).key = key ∧ (A.node n).q = k := by
  obtain ⟨k, l, a, b, c⟩ := (h.idx key n).1 hi
  obtain ⟨l1, l2, rfl⟩ := List.append_of_mem b
  refine ⟨k, l1, l2, a, ?_, c, (h.mem k _ a n b).2.2⟩
  have hnd := h.nodup k _ a
  have hnod := List.nodup_append.1 hnd
  unfold St.find
  have hq := h.at_q a
  rw [List.map_append, List.map_cons] at hq
  have := whereFrom_some (key := key) (q := qs) (j := k) (k := 0) (l1 := l1.map (entOf A)) (l2 := l2.map (entOf A)) (e := entOf A n) ?_ hq ?_ c
  · rw [this]; simp
  · intro i l hi hl e he hek
    rw [h.ent, List.getElem?_map] at hl
    cases hx : ns[i]? with
    | none => rw [hx] at hl; cases hl
    | some l' =>
      rw [hx] at hl
      simp at hl
      subst hl
      obtain ⟨m, hm, rfl⟩ := List.mem_map.1 he
      have := (h.uniq hx hm a b (hek.trans c.symm)).2
      omega
  · intro e he hek
    obtain ⟨m, hm, rfl⟩ := List.mem_map.1 he
    have := (h.uniq a (by simp [hm]) a b (hek.trans c.symm)).1
    subst this
    exact hnod.2.2 m hm m (by simp) rfl

theorem AInv.find_none (h : AInv A ns qs) {key : Int} (hi : A.idx key = none) (vars : List Int) : (⟨qs, vars⟩ : St).find key = none := by
  refine whereFrom_none fun l hl e he hek => ?_
  rw [h.ent] at hl
  obtain ⟨l', hl', rfl⟩ := List.mem_map.1 hl
  obtain ⟨m, hm, rfl⟩ := List.mem_map.1 he
  obtain ⟨k, hk⟩ := List.mem_iff_getElem?.1 hl'
  have := (h.idx key m).2 ⟨k, l', hk, hm, hek⟩
  rw [hi] at this
  cases this

theorem AInv.where_ (h : AInv A ns qs) (key : Int) (vars : List Int) : A.where_ key = whereQ ⟨qs, vars⟩ key := by
  unfold Arena.where_ whereQ
  cases hi : A.idx key with
  | none => rw [h.find_none hi vars]
  | some n =>
    obtain ⟨k, l1, l2, a, b, c, d⟩ := h.find_some hi vars
    rw [b]
    exact d
theorem AInv.len_ (h : AInv A ns qs) (vars : List Int) {k : Nat} (hk : k < A.qs.length) : A.len k = ((⟨qs, vars⟩ : St).queue (k : Int)).length := by
  obtain ⟨l, hl⟩ := h.get hk
  unfold Arena.len St.queue
  rw [(h.ends k l hl).2.2]
  simp [h.at_q hl]
theorem AInv.queue (h : AInv A ns qs) (vars : List Int) {k : Nat} {l : List Nat} (hl : ns[k]? = some l) : (⟨qs, vars⟩ : St).queue (k : Int) = l.map (entOf A) := by
  unfold St.queue
  simp [h.at_q hl]
theorem entAt_map (A : Arena) (l1 l2 : List Nat) (n : Nat) : entAt ((l1 ++ n :: l2).map (entOf A)) l1.length = entOf A n := by
  unfold entAt
  simp
theorem lastEnt_map (A : Arena) (l : List Nat) (h : l ≠ []) : lastEnt (l.map (entOf A)) = entOf A (l.getLastD 0) := by
  rcases List.eq_nil_or_concat l with h1 | ⟨l0, a, h1⟩
  · exact absurd h1 h
  · rw [List.concat_eq_append] at h1
    subst h1
    unfold lastEnt
    have := entAt_map A l0 [] a
    simp at this ⊢
    simpa using this
theorem AInv.tail_ (h : AInv A ns qs) (vars : List Int) {k : Nat} (hk : k < A.qs.length) (hne : (⟨qs, vars⟩ : St).queue (k : Int) ≠ []) : A.tail k = (lastEnt ((⟨qs, vars⟩ : St).queue (k : Int))).key := by
  obtain ⟨l, hl⟩ := h.get hk
  rw [h.queue vars hl] at hne ⊢
  have hl0 : l ≠ [] := by rintro rfl; exact hne rfl
  rw [lastEnt_map A l hl0]
  unfold Arena.tail
  rw [(h.ends k l hl).2.1]
  rfl
theorem AInv.freq_ (h : AInv A ns qs) (vars : List Int) (key : Int) : A.freqOf key = freqOf ⟨qs, vars⟩ key := by
  unfold Arena.freqOf freqOf
  cases hi : A.idx key with
  | none => rw [h.find_none hi vars]
  | some n =>
    obtain ⟨k, l1, l2, a, b, c, d⟩ := h.find_some hi vars
    rw [b]
    show _ = (entAt ((⟨qs, vars⟩ : St).queue (k : Int)) l1.length).freq
    rw [h.queue vars a, entAt_map]
    rfl
theorem AInv.isSome (h : AInv A ns qs) (vars : List Int) (key : Int) : (A.idx key).isSome = ((⟨qs, vars⟩ : St).find key).isSome := by
  cases hi : A.idx key with
  | none => rw [h.find_none hi vars]; rfl
  | some n =>
    obtain ⟨k, l1, l2, a, b, _⟩ := h.find_some hi vars
    rw [b]; rfl

/-- The tail's key, found. -/
theorem AInv.find_tail (h : AInv A ns qs) (vars : List Int) {k : Nat} (hk : k < A.qs.length) (hne : (⟨qs, vars⟩ : St).queue (k : Int) ≠ []) :
    (⟨qs, vars⟩ : St).find (lastEnt ((⟨qs, vars⟩ : St).queue (k : Int))).key = some (k, ((⟨qs, vars⟩ : St).queue (k : Int)).length - 1) := by
  obtain ⟨l, hl⟩ := h.get hk
  rw [h.queue vars hl] at hne ⊢
  have hl0 : l ≠ [] := by rintro rfl; exact hne rfl
  rw [lastEnt_map A l hl0]
  rcases List.eq_nil_or_concat l with h1 | ⟨l0, a, h1⟩
  · exact absurd h1 hl0
  · rw [List.concat_eq_append] at h1
    subst h1
    have e : (l0 ++ [a]).getLastD 0 = a := by simp
    rw [e]
    have hi := (h.idx (entOf A a).key a).2 ⟨k, _, hl, by simp, rfl⟩
    obtain ⟨k', l1, l2, x1, x2, x3, x4⟩ := h.find_some hi vars
    have hkk : k' = k := by
      have := (h.mem k _ hl a (by simp)).2.2
      omega
    subst hkk
    rw [x1] at hl
    injection hl with hl
    have hnd := h.nodup k' _ x1
    have : l2 = [] := by
      rcases List.eq_nil_or_concat l2 with h1 | ⟨l3, b, h1⟩
      · exact h1
      · rw [List.concat_eq_append] at h1
        subst h1
        have hl2 : (l1 ++ a :: l3) ++ [b] = l0 ++ [a] := by simpa using hl
        have := List.append_inj_right' hl2 rfl
        injection this with this
        subst this
        exact absurd hnd (by simp [List.nodup_append])
    subst this
    have e2 := List.append_inj_left' hl rfl
    rw [x2, e2]
    simp

theorem chain_of_dll {A : Arena} : ∀ {l : List Nat} {p : Nat}, Dll A.node p l 0 → (∀ m ∈ l, m ≠ 0 ∧ m < A.l.length) → Chain A (l.headD 0) l
  | [], _, _, _ => rfl
  | x :: r, p, ⟨a, b, c⟩, h => ⟨rfl, (h x (by simp)).1, (h x (by simp)).2, by rw [b]; exact chain_of_dll c (fun m hm => h m (by simp [hm]))⟩

theorem AInv.chain (h : AInv A ns qs) {k : Nat} {l : List Nat} (hl : ns[k]? = some l) : Chain A (A.ends k).head l := by
  rw [(h.ends k l hl).1]
  exact chain_of_dll (h.dll k l hl) (fun m hm => ⟨(h.mem k l hl m hm).1, (h.mem k l hl m hm).2.1⟩)

theorem idx_erase {at_ : List (Int × Nat)} (hn : (at_.map (·.1)).Nodup) (key k : Int) :
    ((at_.eraseP (fun y => y.1 == key)).find? (fun y => y.1 == k)).map (·.2) = if k = key then none else (at_.find? (fun y => y.1 == k)).map (·.2) := by
  induction at_ with
  | nil => simp
  | cons y l ih =>
    have hn' := List.nodup_cons.1 hn
    by_cases hy : y.1 = key
    · have hp : (fun y : Int × Nat => y.1 == key) y = true := by simpa using hy
      rw [List.eraseP_cons_of_pos (p := fun y : Int × Nat => y.1 == key) hp]
      by_cases hk : k = key
      · subst hk
        rw [if_pos rfl]
        have : l.find? (fun y => y.1 == k) = none := by
          rw [List.find?_eq_none]
          intro z hz he
          refine hn'.1 ?_
          have : z.1 = y.1 := by simp at he; omega
          show y.1 ∈ _
          rw [← this]
          exact List.mem_map.2 ⟨z, hz, rfl⟩
        rw [this]; rfl
      · rw [if_neg hk, List.find?_cons_of_neg]
        simp; omega
    · have hp : ¬ (fun y : Int × Nat => y.1 == key) y = true := by simpa using hy
      rw [List.eraseP_cons_of_neg (p := fun y : Int × Nat => y.1 == key) hp]
      by_cases hk : y.1 = k
      · have hk' : k ≠ key := by omega
        rw [if_neg hk', List.find?_cons_of_pos (by simpa using hk), List.find?_cons_of_pos (by simpa using hk)]
      · rw [List.find?_cons_of_neg (by simpa using hk), List.find?_cons_of_neg (by simpa using hk)]
        exact ih hn'.2

theorem set_get {α : Type} {l : List α} {k j : Nat} {x y : α} (h : (l.set k x)[j]? = some y) : (j = k ∧ k < l.length ∧ y = x) ∨ (j ≠ k ∧ l[j]? = some y) := by
  rw [List.getElem?_set] at h
  split at h
  · rename_i e
    split at h
    · injection h with h
      exact .inl ⟨e.symm, by assumption, h.symm⟩
    · cases h
  · rename_i e
    exact .inr ⟨fun x => e x.symm, h⟩

theorem map_set_ent {A' : Arena} {k : Nat} {l : List Nat} (he : ∀ (j : Nat) (m : List Nat), j ≠ k → ns[j]? = some m → m.map (entOf A') = m.map (entOf A)) :
    (ns.map (fun l => l.map (entOf A))).set k (l.map (entOf A')) = (ns.set k l).map (fun l => l.map (entOf A')) := by
  apply List.ext_getElem?
  intro j
  rw [List.getElem?_set, List.getElem?_map, List.getElem?_map, List.getElem?_set]
  by_cases hj : k = j
  · subst hj
    by_cases hl : k < ns.length
    · simp [hl]
    · simp [hl]
  · simp only [if_neg hj]
    cases hx : ns[j]? with
    | none => rfl
    | some m => simp only [Option.map_some]; rw [he j m (fun e => hj e.symm) hx]

/-- A key leaves. -/
theorem AInv.outAt (h : AInv A ns qs) {key : Int} {n k : Nat} {l1 l2 : List Nat} (hi : A.idx key = some n) (hl : ns[k]? = some (l1 ++ n :: l2)) :
    AInv (A.outAt key n) (ns.set k (l1 ++ l2)) (qs.set k ((l1 ++ l2).map (entOf A))) ∧ A.CanUnlink n k ∧ ((A.unlink n).node n).freq = (A.node n).freq := by
  have hm := h.mem k _ hl
  have hnm := hm n (by simp)
  have hk := h.at_lt hl
  have he := h.ends k _ hl
  have hnd := h.nodup k _ hl
  have hkey : (A.node n).key = key := by
    obtain ⟨_, _, _, _, c⟩ := (h.idx key n).1 hi
    exact c
  have u := unlinked h.bd hk (fun m hm' => ⟨(hm m hm').1, (hm m hm').2.1⟩) hnm.2.2 (h.dll k _ hl) hnd he.1 he.2.1
  have hcu : A.CanUnlink n k := ⟨hnm.2.1, hnm.2.2, by rw [he.2.2]; simp; omega, hk⟩
  refine ⟨?_, hcu, (u.like.node n).2.1⟩
  have hnod := List.nodup_append.1 hnd
  have hn2 := List.nodup_cons.1 hnod.2.1
  have hn12 : n ∉ l1 ++ l2 := by
    intro hx
    rcases List.mem_append.1 hx with hx | hx
    · exact hnod.2.2 n hx n (by simp) rfl
    · exact hn2.1 hx
  have hnU : n < (A.unlink n).l.length := by rw [u.like.l]; exact hnm.2.1
  have nd : ∀ m, (A.outAt key n).node m = if m = n then { ((A.unlink n).node n) with q := -1 } else (A.unlink n).node m := fun m => node_set (A := A.unlink n) hnU _ m
  have en : ∀ m, (A.outAt key n).ends m = (A.unlink n).ends m := fun _ => rfl
  have hlen : (A.outAt key n).l.length = A.l.length := (setNode_l (A := A.unlink n) _ _).trans u.like.l
  have hql : (A.outAt key n).qs.length = A.qs.length := u.like.q
  have nkf : ∀ m, ((A.outAt key n).node m).key = (A.node m).key ∧ ((A.outAt key n).node m).freq = (A.node m).freq := by
    intro m
    rw [nd]
    split
    · rename_i e; subst e; exact ⟨(u.like.node m).1, (u.like.node m).2.1⟩
    · exact ⟨(u.like.node m).1, (u.like.node m).2.1⟩
  have nq : ∀ m, m ≠ n → ((A.outAt key n).node m).q = (A.node m).q := by
    intro m hmn
    rw [nd, if_neg hmn]
    exact (u.like.node m).2.2
  have eo : ∀ m, entOf (A.outAt key n) m = entOf A m := by
    intro m; unfold entOf; rw [(nkf m).1, (nkf m).2]
  have other : ∀ (j : Nat) l, j ≠ k → ns[j]? = some l → ∀ m ∈ l, m ∉ l1 ++ n :: l2 := by
    intro j l hj hjl m hm' hx
    have a1 := (h.mem j l hjl m hm').2.2
    have a2 := (hm m hx).2.2
    omega
  have hub := u.bd.at_ hnU
  have obd : (A.outAt key n).Bd := by
    have := u.bd.setNode n { ((A.unlink n).node n) with q := -1 } ⟨hub.1, hub.2.1, by show (-1 : Int) ≤ _; omega, hub.2.2.2⟩
    exact ⟨this.node, this.ends⟩
  have hsum := sum_set (ns.map List.length) k (l1 ++ n :: l2).length (l1 ++ l2).length (by rw [List.getElem?_map, hl]; rfl)
  refine ⟨obd, by rw [List.length_set, hql]; exact h.len, by rw [hql]; exact h.q8, ?_, ?_, ?_, ?_, ?_, ?_, ?_, ?_, ?_, ?_, ?_, by rw [hlen, hql]; exact h.lb⟩
  · intro j l hj
    rw [en]
    rcases set_get hj with ⟨rfl, _, rfl⟩ | ⟨hjk, hj'⟩
    · exact ⟨u.head, u.tail, by rw [u.n, he.2.2]; simp⟩
    · rw [u.others j hjk]; exact h.ends j l hj'
  · intro j l hj
    rcases set_get hj with ⟨rfl, _, rfl⟩ | ⟨hjk, hj'⟩
    · exact Dll.congr (fun m hm' => by rw [nd, if_neg (fun (e : m = n) => hn12 (e ▸ hm'))]; exact ⟨rfl, rfl⟩) u.dll
    · refine Dll.congr (fun m hm' => ?_) (h.dll j l hj')
      have hx := other j l hjk hj' m hm'
      have hx1 : m ≠ n := fun e => hx (by simp [e])
      have hx2 : m ∉ l1 ++ l2 := fun e => hx (by simp at e ⊢; rcases e with e | e <;> simp [e])
      rw [nd, if_neg hx1, u.far m hx2]
      exact ⟨rfl, rfl⟩
  · intro j l hj m hm'
    rw [hlen]
    rcases set_get hj with ⟨rfl, _, rfl⟩ | ⟨hjk, hj'⟩
    · have hx := hm m (by simp at hm' ⊢; rcases hm' with e | e <;> simp [e])
      rw [nq m (fun e => hn12 (e ▸ hm'))]
      exact hx
    · have hx := other j l hjk hj' m hm'
      rw [nq m (fun e => hx (by simp [e]))]
      exact h.mem j l hj' m hm'
  · intro j l hj
    rcases set_get hj with ⟨rfl, _, rfl⟩ | ⟨hjk, hj'⟩
    · have : (l1 ++ l2).Sublist (l1 ++ n :: l2) := List.Sublist.append (List.Sublist.refl _) (List.sublist_cons_self _ _)
      exact this.nodup hnd
    · exact h.nodup j l hj'
  · intro j l hj
    rcases set_get hj with ⟨rfl, _, rfl⟩ | ⟨hjk, hj'⟩
    · have := h.fifty j _ hl
      simp at this ⊢
      omega
    · exact h.fifty j l hj'
  · have e1 : (l1 ++ l2).map (entOf A) = (l1 ++ l2).map (entOf (A.outAt key n)) := List.map_congr_left (fun m _ => (eo m).symm)
    rw [e1, h.ent, map_set_ent (fun j m _ _ => List.map_congr_left (fun m _ => eo m))]
  · intro key' m
    have e0 : (A.outAt key n).idx key' = if key' = key then none else A.idx key' := idx_erase h.atn key key'
    rw [e0]
    constructor
    · intro hx
      split at hx
      · cases hx
      · rename_i hne
        obtain ⟨j, l, a, b, c⟩ := (h.idx key' m).1 hx
        have hmn : m ≠ n := by rintro rfl; exact hne (c.symm.trans hkey)
        by_cases hjk : j = k
        · subst hjk
          rw [hl] at a
          injection a with a
          subst a
          refine ⟨j, l1 ++ l2, by rw [List.getElem?_set]; simp [h.len, hk], ?_, by rw [(nkf m).1]; exact c⟩
          simp at b ⊢
          rcases b with b | b | b
          · exact .inl b
          · exact absurd b hmn
          · exact .inr b
        · exact ⟨j, l, by rw [List.getElem?_set, if_neg (fun e => hjk e.symm)]; exact a, b, by rw [(nkf m).1]; exact c⟩
    · rintro ⟨j, l, a, b, c⟩
      rw [(nkf m).1] at c
      rcases set_get a with ⟨rfl, _, rfl⟩ | ⟨hjk, hj'⟩
      · have hmn : m ≠ n := fun e => hn12 (e ▸ b)
        have hm2 : m ∈ l1 ++ n :: l2 := by simp at b ⊢; rcases b with e | e <;> simp [e]
        have hne : key' ≠ key := by
          rintro rfl
          exact hmn (h.uniq hl hm2 hl (by simp) (c.trans hkey.symm)).1
        rw [if_neg hne]
        exact (h.idx key' m).2 ⟨j, _, hl, hm2, c⟩
      · have hne : key' ≠ key := by
          rintro rfl
          exact hjk (h.uniq hj' b hl (by simp) (c.trans hkey.symm)).2
        rw [if_neg hne]
        exact (h.idx key' m).2 ⟨j, l, hj', b, c⟩
  · exact (List.Sublist.map _ (List.eraseP_sublist)).nodup h.atn
  · intro m hm'
    have hm2 : m ∈ A.free ++ [n] := hm'
    rw [hlen]
    rcases List.mem_append.1 hm2 with hx | hx
    · obtain ⟨a, b, c⟩ := h.free m hx
      have hmn : m ≠ n := by rintro rfl; rw [hnm.2.2] at c; omega
      exact ⟨a, b, by rw [nq m hmn]; exact c⟩
    · simp at hx
      subst hx
      exact ⟨hnm.1, hnm.2.1, by rw [nd, if_pos rfl]⟩
  · show (A.free ++ [n]).Nodup
    rw [List.nodup_append]
    refine ⟨h.freen, by simp, fun a ha b hb => ?_⟩
    simp at hb
    subst hb
    rintro rfl
    have := (h.free a ha).2.2
    rw [hnm.2.2] at this
    omega
  · show _ = 1 + _ + (A.free ++ [n]).length
    rw [hlen, h.cnt, List.map_set]
    simp at hsum ⊢
    omega

/-- The arena with a place made ready. -/
structure Ready (A : Arena) (ns : List (List Nat)) : Prop where
  p0 : A.place ≠ 0
  lt : A.place < A.ready.l.length
  node : ∀ m, A.ready.node m = A.node m
  qs : A.ready.qs = A.qs
  at_ : A.ready.at_ = A.at_
  le : A.l.length ≤ A.ready.l.length
  free : ∀ m ∈ A.ready.free, m ∈ A.free ∧ m ≠ A.place
  nodup : A.ready.free.Nodup
  new : ∀ (k : Nat) (l : List Nat), ns[k]? = some l → A.place ∉ l
  cnt : A.ready.l.length = 1 + (ns.map List.length).sum + A.ready.free.length + 1
  bd : A.ready.Bd
  grow : A.ready.l.length = A.l.length ∨ (A.free = [] ∧ A.ready.l.length = A.l.length + 1)

theorem AInv.ready (h : AInv A ns qs) (h0 : 0 < A.qs.length) : Ready A ns := by
  have hc := h.cnt
  by_cases hf : A.free = []
  · have ep : A.place = A.l.length := by unfold Arena.place; rw [if_pos hf]
    have er : A.ready = { A with l := A.l ++ [⟨0, 0, 0, 0, 0⟩] } := by unfold Arena.ready; rw [if_pos hf]
    have el : A.ready.l.length = A.l.length + 1 := by rw [er]; simp
    rw [hf] at hc
    refine ⟨by omega, by omega, ?_, by rw [er], by rw [er], by omega, ?_, ?_, ?_, ?_, ?_, .inr ⟨hf, el⟩⟩
    · intro m
      rw [er]
      unfold Arena.node
      show ((A.l ++ [⟨0, 0, 0, 0, 0⟩])[m]?).getD _ = _
      rcases Nat.lt_or_ge m A.l.length with hm | hm
      · rw [List.getElem?_append_left hm]
      · rw [List.getElem?_append_right hm, List.getElem?_eq_none hm]
        cases m - A.l.length with
        | zero => rfl
        | succ j => rfl
    · intro m hm; rw [er] at hm; simp [hf] at hm
    · rw [er]; simp [hf]
    · intro k l hl hx
      have := (h.mem k l hl _ hx).2.1
      omega
    · rw [el, er]; simp [hf] at hc ⊢; omega
    · refine ⟨fun n x hx => ?_, fun q x hx => ?_⟩
      · rw [el]
        have hq : A.ready.qs = A.qs := by rw [er]
        rw [hq]
        have hx' : (A.l ++ [⟨0, 0, 0, 0, 0⟩])[n]? = some x := by rw [er] at hx; exact hx
        rcases Nat.lt_or_ge n A.l.length with hm | hm
        · rw [List.getElem?_append_left hm] at hx'
          obtain ⟨a, b, c, d⟩ := h.bd.node n x hx'
          exact ⟨by omega, by omega, c, d⟩
        · rw [List.getElem?_append_right hm] at hx'
          cases hn : n - A.l.length with
          | zero =>
            rw [hn] at hx'; simp at hx'; subst hx'
            exact ⟨by show 0 < _; omega, by show 0 < _; omega, by show (0 : Int) ≤ _; omega, by show (0 : Int) ≤ 0; omega, by show (0 : Int) ≤ 1000; omega⟩
          | succ j => rw [hn] at hx'; simp at hx'
      · have hx' : A.qs[q]? = some x := by rw [er] at hx; exact hx
        obtain ⟨a, b, c⟩ := h.bd.ends q x hx'
        exact ⟨by omega, by omega, c⟩
  · obtain ⟨f0, p, hfp⟩ : ∃ f0 p, A.free = f0 ++ [p] := by
      rcases List.eq_nil_or_concat A.free with h1 | ⟨l0, a, h1⟩
      · exact absurd h1 hf
      · exact ⟨l0, a, by rw [h1, List.concat_eq_append]⟩
    have ep : A.place = p := by unfold Arena.place; rw [if_neg hf, hfp]; simp
    have er : A.ready = { A with free := f0 } := by unfold Arena.ready; rw [if_neg hf, hfp]; simp
    have hp := h.free p (by rw [hfp]; simp)
    have hn := h.freen
    rw [hfp] at hn hc
    have hn' := List.nodup_append.1 hn
    refine ⟨by rw [ep]; exact hp.1, by rw [ep, er]; exact hp.2.1, fun _ => by rw [er]; rfl, by rw [er], by rw [er], by rw [er]; exact Nat.le_refl _, ?_, by rw [er]; exact hn'.1, ?_, ?_, by rw [er]; exact ⟨h.bd.node, h.bd.ends⟩, .inl (by rw [er])⟩
    · intro m hm
      rw [er] at hm
      rw [ep]
      exact ⟨by rw [hfp]; exact List.mem_append_left _ hm, fun e => hn'.2.2 m hm p (by simp) e⟩
    · intro k l hl hx
      rw [ep] at hx
      have := (h.mem k l hl p hx).2.2
      rw [hp.2.2] at this
      omega
    · rw [er]
      show A.l.length = _
      rw [hc]; simp; omega

theorem AInv.in_ (h : AInv A ns qs) {key freq : Int} {k : Nat} (tl : Bool) {l : List Nat} (hi : A.idx key = none) (hl : ns[k]? = some l) (hf : 0 ≤ freq ∧ freq ≤ 1000) (h50 : l.length + 1 ≤ 50) :
    A.CanIn key freq k ∧ AInv (A.in_ key freq k tl) (ns.set k (if tl then l ++ [A.place] else A.place :: l)) (qs.set k (if tl then l.map (entOf A) ++ [⟨key, freq⟩] else ⟨key, freq⟩ :: l.map (entOf A))) := by
  have hk := h.at_lt hl
  have R := h.ready (by omega)
  have hm := h.mem k l hl
  have he := h.ends k l hl
  have hpl := R.new k l hl
  have hc := h.cnt
  have hlb := h.lb
  have hq8 := h.q8
  refine ⟨⟨hi, hk, hf, by omega, R.p0, ?_, ?_⟩, ?_⟩
  · rw [he.1]
    cases l with
    | nil => exact fun e => R.p0 e.symm
    | cons x r => exact fun e => hpl (by rw [← e]; simp)
  · rw [he.2.1]
    rcases List.eq_nil_or_concat l with h1 | ⟨l0, a, h1⟩
    · rw [h1]; exact fun e => R.p0 e.symm
    · rw [List.concat_eq_append] at h1
      rw [h1]
      simp
      exact fun e => hpl (by rw [← e, h1]; simp)
  -- the new node
  have b0 := R.bd.setNode A.place ⟨key, freq, 0, 0, 0⟩ ⟨by have := R.lt; show 0 < _; omega, by have := R.lt; show 0 < _; omega, by rw [R.qs]; show (0 : Int) ≤ _; omega, hf.1, hf.2⟩
  have nb : ∀ m, (A.ready.setNode A.place ⟨key, freq, 0, 0, 0⟩).node m = if m = A.place then ⟨key, freq, 0, 0, 0⟩ else A.node m := fun m => by rw [node_set R.lt, R.node]
  have hin : A.in_ key freq k tl = { (A.ready.setNode A.place ⟨key, freq, 0, 0, 0⟩) with at_ := A.at_ ++ [(key, A.place)] }.link A.place k tl := rfl
  have hlB : (A.ready.setNode A.place ⟨key, freq, 0, 0, 0⟩).l.length = A.ready.l.length := setNode_l _ _
  have hqB : (A.ready.setNode A.place ⟨key, freq, 0, 0, 0⟩).qs = A.qs := R.qs
  have hfB : (A.ready.setNode A.place ⟨key, freq, 0, 0, 0⟩).free = A.ready.free := rfl
  rw [hin]
  generalize A.ready.setNode A.place ⟨key, freq, 0, 0, 0⟩ = B at *
  have enB : ∀ m, ({ B with at_ := A.at_ ++ [(key, A.place)] } : Arena).ends m = A.ends m := fun m => by unfold Arena.ends; show (B.qs[m]?).getD _ = _; rw [hqB]
  have ndB : ∀ m, ({ B with at_ := A.at_ ++ [(key, A.place)] } : Arena).node m = if m = A.place then ⟨key, freq, 0, 0, 0⟩ else A.node m := nb
  have bdB : ({ B with at_ := A.at_ ++ [(key, A.place)] } : Arena).Bd := ⟨b0.node, b0.ends⟩
  have llB : ({ B with at_ := A.at_ ++ [(key, A.place)] } : Arena).l.length = A.ready.l.length := hlB
  have qqB : ({ B with at_ := A.at_ ++ [(key, A.place)] } : Arena).qs.length = A.qs.length := by show B.qs.length = _; rw [hqB]
  have ffB : ({ B with at_ := A.at_ ++ [(key, A.place)] } : Arena).free = A.ready.free := hfB
  have aaB : ({ B with at_ := A.at_ ++ [(key, A.place)] } : Arena).at_ = A.at_ ++ [(key, A.place)] := rfl
  clear nb hin hlB hqB hfB b0
  generalize ({ B with at_ := A.at_ ++ [(key, A.place)] } : Arena) = C at *
  have u := linked bdB tl (k := k) (n := A.place) (l := l) (by omega) (fun m hm' => ⟨(hm m hm').1, by have := (hm m hm').2.1; have := R.le; omega⟩) ⟨R.p0, by have := R.lt; omega⟩ hpl
    (Dll.congr (fun m hm' => by rw [ndB, if_neg (fun (e : m = A.place) => hpl (e ▸ hm'))]; exact ⟨rfl, rfl⟩) (h.dll k l hl)) (h.nodup k l hl) (by rw [enB]; exact he.1) (by rw [enB]; exact he.2.1) (by rw [enB, he.2.2]; omega)
  generalize hL : (if tl then l ++ [A.place] else A.place :: l) = L at *
  have hLm : ∀ m, m ∈ L ↔ m = A.place ∨ m ∈ l := by
    intro m; rw [← hL]; cases tl <;> simp
    exact ⟨fun h => h.elim .inr .inl, fun h => h.elim .inr .inl⟩
  have hLl : L.length = l.length + 1 := by rw [← hL]; cases tl <;> simp
  generalize C.link A.place k tl = D at *
  have nkf : ∀ m, m ≠ A.place → (D.node m).key = (A.node m).key ∧ (D.node m).freq = (A.node m).freq ∧ (D.node m).q = (A.node m).q := by
    intro m hmp
    have := u.node m
    rw [ndB, if_neg hmp, if_neg hmp] at this
    exact this
  have np : (D.node A.place).key = key ∧ (D.node A.place).freq = freq ∧ (D.node A.place).q = k := by
    have := u.node A.place
    rw [ndB, if_pos rfl, if_pos rfl] at this
    exact this
  have eo : ∀ m, m ≠ A.place → entOf D m = entOf A m := by
    intro m hmp; unfold entOf; rw [(nkf m hmp).1, (nkf m hmp).2.1]
  have hDl : D.l.length = A.ready.l.length := u.len.trans llB
  have hDq : D.qs.length = A.qs.length := u.q.trans qqB
  have other : ∀ (j : Nat) l', j ≠ k → ns[j]? = some l' → ∀ m ∈ l', m ∉ L := by
    intro j l' hj hjl m hm' hx
    rcases (hLm m).1 hx with hx | hx
    · exact R.new j l' hjl (hx ▸ hm')
    · have a1 := (h.mem j l' hjl m hm').2.2
      have a2 := (hm m hx).2.2
      omega
  have hsum := sum_set (ns.map List.length) k l.length L.length (by rw [List.getElem?_map, hl]; rfl)
  have hkey : ∀ (j : Nat) l' m, ns[j]? = some l' → m ∈ l' → (A.node m).key ≠ key := by
    intro j l' m a b c
    have := (h.idx key m).2 ⟨j, l', a, b, c⟩
    rw [hi] at this
    cases this
  refine ⟨u.bd, by rw [List.length_set, hDq]; exact h.len, by rw [hDq]; exact h.q8, ?_, ?_, ?_, ?_, ?_, ?_, ?_, ?_, ?_, ?_, ?_, ?_⟩
  · intro j l' hj
    rcases set_get hj with ⟨rfl, _, rfl⟩ | ⟨hjk, hj'⟩
    · exact ⟨u.head, u.tail, by rw [u.n, enB, he.2.2, hLl]⟩
    · rw [u.others j hjk, enB]; exact h.ends j l' hj'
  · intro j l' hj
    rcases set_get hj with ⟨rfl, _, rfl⟩ | ⟨hjk, hj'⟩
    · exact u.dll
    · refine Dll.congr (fun m hm' => ?_) (h.dll j l' hj')
      have hx := other j l' hjk hj' m hm'
      have hx1 : m ≠ A.place := fun e => hx ((hLm m).2 (.inl e))
      rw [u.far m hx, ndB, if_neg hx1]
      exact ⟨rfl, rfl⟩
  · intro j l' hj m hm'
    rw [hDl]
    have hle := R.le
    rcases set_get hj with ⟨rfl, _, rfl⟩ | ⟨hjk, hj'⟩
    · rcases (hLm m).1 hm' with rfl | hx
      · exact ⟨R.p0, R.lt, np.2.2⟩
      · have hx1 : m ≠ A.place := fun e => hpl (e ▸ hx)
        obtain ⟨a, b, c⟩ := hm m hx
        exact ⟨a, by omega, by rw [(nkf m hx1).2.2]; exact c⟩
    · have hx := other j l' hjk hj' m hm'
      have hx1 : m ≠ A.place := fun e => hx ((hLm m).2 (.inl e))
      obtain ⟨a, b, c⟩ := h.mem j l' hj' m hm'
      exact ⟨a, by omega, by rw [(nkf m hx1).2.2]; exact c⟩
  · intro j l' hj
    rcases set_get hj with ⟨rfl, _, rfl⟩ | ⟨hjk, hj'⟩
    · rw [← hL]
      have hnd := h.nodup j l hl
      cases tl with
      | false => exact List.nodup_cons.2 ⟨hpl, hnd⟩
      | true => exact List.nodup_append.2 ⟨hnd, by simp, fun a ha b hb => by simp at hb; subst hb; exact fun e => hpl (e ▸ ha)⟩
    · exact h.nodup j l' hj'
  · intro j l' hj
    rcases set_get hj with ⟨rfl, _, rfl⟩ | ⟨hjk, hj'⟩
    · omega
    · exact h.fifty j l' hj'
  · have e1 : (if tl then l.map (entOf A) ++ [⟨key, freq⟩] else ⟨key, freq⟩ :: l.map (entOf A)) = L.map (entOf D) := by
      have e2 : l.map (entOf A) = l.map (entOf D) := List.map_congr_left (fun m hm' => (eo m (fun e => hpl (e ▸ hm'))).symm)
      have e3 : (⟨key, freq⟩ : Ent) = entOf D A.place := by unfold entOf; rw [np.1, np.2.1]
      rw [← hL, e2, e3]
      cases tl <;> simp
    rw [e1, h.ent, map_set_ent (fun j l' _ hjl => List.map_congr_left (fun m hm' => eo m (fun e => R.new j l' hjl (e ▸ hm'))))]
  · intro key' m
    have e0 : D.idx key' = if key' = key then some A.place else A.idx key' := by
      unfold Arena.idx
      rw [u.at_, aaB, List.find?_append]
      unfold Arena.idx at hi
      by_cases hkk : key' = key
      · subst hkk
        rw [if_pos rfl]
        cases hx : A.at_.find? (fun y => y.1 == key') with
        | some y => rw [hx] at hi; cases hi
        | none => simp
      · rw [if_neg hkk]
        cases hx : A.at_.find? (fun y => y.1 == key') with
        | some y => simp
        | none => simp; omega
    rw [e0]
    constructor
    · intro hx
      split at hx
      · rename_i e
        subst e
        injection hx with hx
        subst hx
        exact ⟨k, L, by rw [List.getElem?_set]; simp [h.len, hk], (hLm _).2 (.inl rfl), np.1⟩
      · obtain ⟨j, l', a, b, c⟩ := (h.idx key' m).1 hx
        have hmp : m ≠ A.place := fun e => R.new j l' a (e ▸ b)
        by_cases hjk : j = k
        · subst hjk
          rw [hl] at a
          injection a with a
          subst a
          exact ⟨j, L, by rw [List.getElem?_set]; simp [h.len, hk], (hLm _).2 (.inr b), by rw [(nkf m hmp).1]; exact c⟩
        · exact ⟨j, l', by rw [List.getElem?_set, if_neg (fun e => hjk e.symm)]; exact a, b, by rw [(nkf m hmp).1]; exact c⟩
    · rintro ⟨j, l', a, b, c⟩
      rcases set_get a with ⟨rfl, _, rfl⟩ | ⟨hjk, hj'⟩
      · rcases (hLm m).1 b with rfl | hx
        · rw [np.1] at c
          rw [if_pos c.symm]
        · have hmp : m ≠ A.place := fun e => hpl (e ▸ hx)
          rw [(nkf m hmp).1] at c
          rw [if_neg (fun e => hkey _ _ m hl hx (c.trans e))]
          exact (h.idx key' m).2 ⟨j, l, hl, hx, c⟩
      · have hmp : m ≠ A.place := fun e => R.new j l' hj' (e ▸ b)
        rw [(nkf m hmp).1] at c
        rw [if_neg (fun e => hkey _ _ m hj' b (c.trans e))]
        exact (h.idx key' m).2 ⟨j, l', hj', b, c⟩
  · rw [u.at_, aaB, List.map_append, List.nodup_append]
    refine ⟨h.atn, by simp, fun a ha b hb => ?_⟩
    simp at hb
    subst hb
    rintro rfl
    obtain ⟨y, hy, hy2⟩ := List.mem_map.1 ha
    unfold Arena.idx at hi
    have : A.at_.find? (fun y => y.1 == a) = none := by
      cases hx : A.at_.find? (fun y => y.1 == a) with
      | none => rfl
      | some z => rw [hx] at hi; cases hi
    rw [List.find?_eq_none] at this
    exact this y hy (by simpa using hy2)
  · intro m hm'
    rw [u.free, ffB] at hm'
    obtain ⟨a, b⟩ := R.free m hm'
    obtain ⟨c, d, e⟩ := h.free m a
    have := R.le
    exact ⟨c, by omega, by rw [(nkf m b).2.2]; exact e⟩
  · rw [u.free, ffB]; exact R.nodup
  · rw [hDl, R.cnt, u.free, ffB, List.map_set]
    omega
  · rw [hDl, hDq]
    rcases R.grow with h1 | ⟨h1, h2⟩
    · omega
    · rw [h1] at hc
      have hs : (ns.map List.length).sum + 1 ≤ 50 * A.qs.length := by
        have e1 : ((ns.set k L).map List.length).sum ≤ 50 * A.qs.length := by
          have := sum_le_all ((ns.set k L).map List.length) 50 (fun x hx => by
            obtain ⟨l', hl', rfl⟩ := List.mem_map.1 hx
            obtain ⟨j, hj⟩ := List.mem_iff_getElem?.1 hl'
            rcases set_get hj with ⟨_, _, rfl⟩ | ⟨hjk, hj'⟩
            · omega
            · exact h.fifty j l' hj')
          simpa [h.len] using this
        rw [List.map_set] at e1
        omega
      simp at hc
      omega

/-- A frequency is set. -/
theorem AInv.setFreq (h : AInv A ns qs) {n k : Nat} {l1 l2 : List Nat} (f : Int) (hl : ns[k]? = some (l1 ++ n :: l2)) (hf : 0 ≤ f ∧ f ≤ 1000) :
    AInv (A.setNode n { (A.node n) with freq := f }) ns (qs.set k ((l1 ++ n :: l2).map (entOf A) |>.set l1.length ⟨(A.node n).key, f⟩)) := by
  have hm := h.mem k _ hl n (by simp)
  have hnl := hm.2.1
  have nb := h.bd.at_ hnl
  have nd : ∀ m, (A.setNode n { (A.node n) with freq := f }).node m = if m = n then { (A.node n) with freq := f } else A.node m := fun m => node_set hnl _ m
  have hlen : (A.setNode n { (A.node n) with freq := f }).l.length = A.l.length := setNode_l _ _
  have bd := h.bd.setNode n { (A.node n) with freq := f } ⟨nb.1, nb.2.1, nb.2.2.1, hf.1, hf.2⟩
  have same : ∀ m, ((A.setNode n { (A.node n) with freq := f }).node m).key = (A.node m).key ∧ ((A.setNode n { (A.node n) with freq := f }).node m).prev = (A.node m).prev ∧
      ((A.setNode n { (A.node n) with freq := f }).node m).next = (A.node m).next ∧ ((A.setNode n { (A.node n) with freq := f }).node m).q = (A.node m).q := by
    intro m
    rw [nd]
    split
    · rename_i e; subst e; exact ⟨rfl, rfl, rfl, rfl⟩
    · exact ⟨rfl, rfl, rfl, rfl⟩
  have eo : ∀ m, m ≠ n → entOf (A.setNode n { (A.node n) with freq := f }) m = entOf A m := by
    intro m hmn; unfold entOf; rw [nd, if_neg hmn]
  have en : entOf (A.setNode n { (A.node n) with freq := f }) n = ⟨(A.node n).key, f⟩ := by unfold entOf; rw [nd, if_pos rfl]
  refine ⟨bd, h.len, h.q8, h.ends, fun j l hj => Dll.congr (fun m _ => ⟨(same m).2.1, (same m).2.2.1⟩) (h.dll j l hj), fun j l hj m hm' => by rw [hlen, (same m).2.2.2]; exact h.mem j l hj m hm',
    h.nodup, h.fifty, ?_, fun key m => ?_, h.atn, fun m hm' => by rw [hlen, (same m).2.2.2]; exact h.free m hm', h.freen, by rw [hlen]; exact h.cnt, by rw [hlen]; exact h.lb⟩
  · have hnd := List.nodup_append.1 (h.nodup k _ hl)
    have hn2 := (List.nodup_cons.1 hnd.2.1).1
    have hn1 : ∀ m ∈ l1, m ≠ n := fun m hm' => hnd.2.2 m hm' n (by simp)
    have e1 : ((l1 ++ n :: l2).map (entOf A)).set l1.length ⟨(A.node n).key, f⟩ = (l1 ++ n :: l2).map (entOf (A.setNode n { (A.node n) with freq := f })) := by
      rw [List.map_append, List.map_cons, List.set_append_right _ _ (by simp)]
      simp only [List.length_map, Nat.sub_self, List.set_cons_zero, List.map_append, List.map_cons, en]
      rw [List.map_congr_left (fun m hm' => (eo m (hn1 m hm')).symm), List.map_congr_left (l := l2) (fun m hm' => (eo m (fun e => hn2 (e ▸ hm'))).symm)]
    rw [e1, h.ent, map_set_ent (fun j l hj hjl => List.map_congr_left (fun m hm' => eo m (fun e => by
      have := (h.mem j l hjl m hm').2.2
      rw [e, hm.2.2] at this
      omega)))]
    congr 1
    apply List.ext_getElem?
    intro j
    rw [List.getElem?_set]
    split
    · rename_i e; subst e
      split
      · exact hl.symm
      · rw [List.getElem?_eq_none (by omega)]
    · rfl
  · rw [show (A.setNode n { (A.node n) with freq := f }).idx key = A.idx key from rfl, h.idx key m]
    constructor
    · rintro ⟨j, l, a, b, c⟩; exact ⟨j, l, a, b, (same m).1.trans c⟩
    · rintro ⟨j, l, a, b, c⟩; exact ⟨j, l, a, b, (same m).1.symm.trans c⟩

theorem AInv.new (n : Nat) (hn : n ≤ 8) : AInv ⟨[⟨0, 0, 0, 0, 0⟩], [], List.replicate n ⟨0, 0, 0⟩, []⟩ (List.replicate n []) (List.replicate n []) := by
  have rep : ∀ (k : Nat) (l : List Nat), (List.replicate n ([] : List Nat))[k]? = some l → l = [] ∧ k < n := by
    intro k l h
    rw [List.getElem?_replicate] at h
    split at h
    · injection h with h; exact ⟨h.symm, by assumption⟩
    · cases h
  refine ⟨⟨?_, ?_⟩, by simp, by simpa using hn, ?_, ?_, ?_, ?_, ?_, by simp, ?_, by simp, by simp, by simp, by simp, by simp⟩
  · intro m x hx
    cases m with
    | zero => 
      simp at hx; subst hx
      exact ⟨by simp, by simp, by simp, by simp, by simp⟩
    | succ m => simp at hx
  · intro q x hx
    simp only [List.getElem?_replicate] at hx
    split at hx
    · injection hx with hx; subst hx; exact ⟨by simp, by simp, by simp⟩
    · cases hx
  · intro k l hl
    obtain ⟨rfl, hk⟩ := rep k l hl
    unfold Arena.ends
    simp [List.getElem?_replicate, hk]
  · intro k l hl; obtain ⟨rfl, hk⟩ := rep k l hl; trivial
  · intro k l hl; obtain ⟨rfl, hk⟩ := rep k l hl; simp
  · intro k l hl; obtain ⟨rfl, hk⟩ := rep k l hl; simp
  · intro k l hl; obtain ⟨rfl, hk⟩ := rep k l hl; simp
  · intro key m
    constructor
    · intro h; cases h
    · rintro ⟨k, l, a, b, _⟩
      obtain ⟨rfl, hk⟩ := rep k l a
      cases b
end
end Go.Proofs.YtemppijblfflgaaGreatDoor.Ev
namespace Go.Proofs.YtemppijblfflgaaGreatDoor.Ev

theorem skip_bounds (p : UInt8 → Bool) (s : Bytes) (i : Nat) (h : i ≤ s.length) : i ≤ skip p s i ∧ skip p s i ≤ s.length := by
  unfold skip
  have h2 := (List.takeWhile_sublist (p := p) (l := s.drop i)).length_le
  rw [List.length_drop] at h2
  omega

theorem skip_first (p : UInt8 → Bool) (s : Bytes) (i : Nat) (c : UInt8) (h : s[i]? = some c) (hp : p c = true) : i < skip p s i := by
  obtain ⟨hi, hc⟩ := List.getElem?_eq_some_iff.1 h
  unfold skip
  rw [List.drop_eq_getElem_cons hi, hc]
  simp [hp]

/-- A token lies behind the place at which the reading began, and the reading goes on behind it. -/
theorem lex_facts (s : Bytes) (i : Nat) (h : i ≤ s.length) :
    i ≤ (lex s i).1.pos ∧ (lex s i).1.pos ≤ (lex s i).2 ∧ (lex s i).2 ≤ s.length ∧ ((lex s i).1.kind ≠ kEnd → (lex s i).1.kind ≠ kNone → (lex s i).1.pos < (lex s i).2) := by
  obtain ⟨b1, b2⟩ := skip_bounds blank s i h
  cases hc : s[skip blank s i]? with
  | none =>
    have e : lex s i = (⟨kEnd, [], skip blank s i⟩, skip blank s i) := by unfold lex; simp only [hc]
    rw [e]
    exact ⟨b1, Nat.le_refl _, b2, fun h => absurd rfl h⟩
  | some c =>
    have hlt : skip blank s i < s.length := by
      rcases Nat.lt_or_ge (skip blank s i) s.length with h | h
      · exact h
      · rw [List.getElem?_eq_none h] at hc; cases hc
    cases hl : low c with
    | true =>
      obtain ⟨l1, l2⟩ := skip_bounds low s (skip blank s i) b2
      have l3 := skip_first low s _ c hc hl
      by_cases h8 : 8 < skip low s (skip blank s i) - skip blank s i
      · have e : lex s i = (⟨kNone, [], skip blank s i⟩, skip blank s i) := by unfold lex; simp only [hc, hl, if_true, h8]
        rw [e]
        exact ⟨b1, Nat.le_refl _, b2, fun _ h => absurd rfl h⟩
      · have e : (lex s i).1.pos = skip blank s i ∧ (lex s i).2 = skip low s (skip blank s i) := by unfold lex; simp only [hc, hl, if_true, h8, if_false, and_self]
        rw [e.1, e.2]
        exact ⟨b1, l1, l2, fun _ _ => l3⟩
    | false =>
      cases hf : fig c with
      | true =>
        obtain ⟨l1, l2⟩ := skip_bounds fig s (skip blank s i) b2
        have l3 := skip_first fig s _ c hc hf
        by_cases h8 : 3 < skip fig s (skip blank s i) - skip blank s i
        · have e : lex s i = (⟨kNone, [], skip blank s i⟩, skip blank s i) := by unfold lex; simp only [hc, hl, hf, if_true, h8, Bool.false_eq_true, if_false]
          rw [e]
          exact ⟨b1, Nat.le_refl _, b2, fun _ h => absurd rfl h⟩
        · have e : (lex s i).1.pos = skip blank s i ∧ (lex s i).2 = skip fig s (skip blank s i) := by unfold lex; simp only [hc, hl, hf, if_true, h8, if_false, Bool.false_eq_true, and_self]
          rw [e.1, e.2]
          exact ⟨b1, l1, l2, fun _ _ => l3⟩
      | false =>
        cases hp : punct c with
        | true =>
          have e : lex s i = (⟨[c], [c], skip blank s i⟩, skip blank s i + 1) := by unfold lex; simp only [hc, hl, hf, hp, if_true, Bool.false_eq_true, if_false]
          rw [e]
          exact ⟨b1, Nat.le_succ _, hlt, fun _ _ => Nat.lt_succ_self _⟩
        | false =>
          have e : lex s i = (⟨kNone, [], skip blank s i⟩, skip blank s i) := by unfold lex; simp only [hc, hl, hf, hp, Bool.false_eq_true, if_false]
          rw [e]
          exact ⟨b1, Nat.le_refl _, b2, fun _ h => absurd rfl h⟩

/-- A number's text: one to three figures. -/
def NumText (l : Bytes) : Prop := 1 ≤ l.length ∧ l.length ≤ 3 ∧ ∀ c ∈ l, fig c = true

theorem piece_skip (p : UInt8 → Bool) (s : Bytes) (i : Nat) : piece s i (skip p s i) = (s.drop i).takeWhile p := by
  unfold piece skip
  rw [List.drop_take, Nat.add_sub_cancel_left]
  exact (List.prefix_iff_eq_take.1 (List.takeWhile_prefix p)).symm

theorem kw_noNumber : ¬ kNumber ∈ keywords := by decide

theorem all_takeWhile (p : UInt8 → Bool) : ∀ (l : Bytes), ∀ c ∈ l.takeWhile p, p c = true
  | [], c, h => by simp at h
  | x :: l, c, h => by
    by_cases hx : p x = true
    · rw [List.takeWhile_cons_of_pos hx] at h
      rcases List.mem_cons.1 h with rfl | h
      · exact hx
      · exact all_takeWhile p l c h
    · rw [List.takeWhile_cons_of_neg hx] at h
      cases h

theorem lex_num (s : Bytes) (i : Nat) (hk : (lex s i).1.kind = kNumber) : NumText (lex s i).1.text := by
  cases hc : s[skip blank s i]? with
  | none =>
    have e : lex s i = (⟨kEnd, [], skip blank s i⟩, skip blank s i) := by unfold lex; simp only [hc]
    rw [e] at hk; exact absurd (show kEnd = kNumber from hk) (by decide)
  | some c =>
    cases hl : low c with
    | true =>
      by_cases h8 : 8 < skip low s (skip blank s i) - skip blank s i
      · have e : lex s i = (⟨kNone, [], skip blank s i⟩, skip blank s i) := by unfold lex; simp only [hc, hl, if_true, h8]
        rw [e] at hk; exact absurd (show kNone = kNumber from hk) (by decide)
      · have e : (lex s i).1.kind = if keywords.contains (piece s (skip blank s i) (skip low s (skip blank s i))) then piece s (skip blank s i) (skip low s (skip blank s i)) else kName := by unfold lex; simp only [hc, hl, if_true, h8, if_false]
        rw [e] at hk
        by_cases hm : keywords.contains (piece s (skip blank s i) (skip low s (skip blank s i))) = true
        · rw [if_pos hm] at hk
          rw [hk] at hm
          exact absurd (List.contains_iff_mem.1 hm) kw_noNumber
        · rw [if_neg hm] at hk
          exact absurd (show kName = kNumber from hk) (by decide)
    | false =>
      cases hf : fig c with
      | true =>
        by_cases h8 : 3 < skip fig s (skip blank s i) - skip blank s i
        · have e : lex s i = (⟨kNone, [], skip blank s i⟩, skip blank s i) := by unfold lex; simp only [hc, hl, hf, if_true, h8, Bool.false_eq_true, if_false]
          rw [e] at hk; exact absurd (show kNone = kNumber from hk) (by decide)
        · have e : (lex s i).1.text = piece s (skip blank s i) (skip fig s (skip blank s i)) := by unfold lex; simp only [hc, hl, hf, if_true, h8, if_false, Bool.false_eq_true]
          have l3 := skip_first fig s _ c hc hf
          rw [e, piece_skip]
          have e2 : skip fig s (skip blank s i) = skip blank s i + ((s.drop (skip blank s i)).takeWhile fig).length := rfl
          generalize skip fig s (skip blank s i) = x at *
          exact ⟨by omega, by omega, all_takeWhile fig _⟩
      | false =>
        cases hp : punct c with
        | true =>
          have e : lex s i = (⟨[c], [c], skip blank s i⟩, skip blank s i + 1) := by unfold lex; simp only [hc, hl, hf, hp, if_true, Bool.false_eq_true, if_false]
          rw [e] at hk
          have := congrArg List.length (show [c] = kNumber from hk)
          exact absurd this (by simp)
        | false =>
          have e : lex s i = (⟨kNone, [], skip blank s i⟩, skip blank s i) := by unfold lex; simp only [hc, hl, hf, hp, Bool.false_eq_true, if_false]
          rw [e] at hk; exact absurd (show kNone = kNumber from hk) (by decide)

/-- A name's text. -/
def NameT (l : Bytes) : Prop := 1 ≤ l.length ∧ l.length ≤ 8 ∧ (∀ c ∈ l, low c = true) ∧ ¬ l ∈ keywords

theorem kw_noName : ¬ kName ∈ keywords := by decide

theorem lex_name (s : Bytes) (i : Nat) (hk : (lex s i).1.kind = kName) : NameT (lex s i).1.text := by
  cases hc : s[skip blank s i]? with
  | none =>
    have e : lex s i = (⟨kEnd, [], skip blank s i⟩, skip blank s i) := by unfold lex; simp only [hc]
    rw [e] at hk; exact absurd (show kEnd = kName from hk) (by decide)
  | some c =>
    cases hl : low c with
    | true =>
      by_cases h8 : 8 < skip low s (skip blank s i) - skip blank s i
      · have e : lex s i = (⟨kNone, [], skip blank s i⟩, skip blank s i) := by unfold lex; simp only [hc, hl, if_true, h8]
        rw [e] at hk; exact absurd (show kNone = kName from hk) (by decide)
      · have e : (lex s i).1.kind = if keywords.contains (piece s (skip blank s i) (skip low s (skip blank s i))) then piece s (skip blank s i) (skip low s (skip blank s i)) else kName := by unfold lex; simp only [hc, hl, if_true, h8, if_false]
        have e1 : (lex s i).1.text = piece s (skip blank s i) (skip low s (skip blank s i)) := by unfold lex; simp only [hc, hl, if_true, h8, if_false]
        rw [e] at hk
        by_cases hm : keywords.contains (piece s (skip blank s i) (skip low s (skip blank s i))) = true
        · rw [if_pos hm] at hk
          rw [hk] at hm
          exact absurd (List.contains_iff_mem.1 hm) kw_noName
        · have l3 := skip_first low s _ c hc hl
          have hm' : ¬ (s.drop (skip blank s i)).takeWhile low ∈ keywords := by
            rw [← piece_skip]
            exact fun h => hm (List.contains_iff_mem.2 h)
          rw [e1, piece_skip]
          have e2 : skip low s (skip blank s i) = skip blank s i + ((s.drop (skip blank s i)).takeWhile low).length := rfl
          generalize skip low s (skip blank s i) = x at *
          exact ⟨by omega, by omega, all_takeWhile low _, hm'⟩
    | false =>
      cases hf : fig c with
      | true =>
        by_cases h8 : 3 < skip fig s (skip blank s i) - skip blank s i
        · have e : lex s i = (⟨kNone, [], skip blank s i⟩, skip blank s i) := by unfold lex; simp only [hc, hl, hf, if_true, h8, Bool.false_eq_true, if_false]
          rw [e] at hk; exact absurd (show kNone = kName from hk) (by decide)
        · have e : (lex s i).1.kind = kNumber := by unfold lex; simp only [hc, hl, hf, if_true, h8, if_false, Bool.false_eq_true]
          rw [e] at hk; exact absurd (show kNumber = kName from hk) (by decide)
      | false =>
        cases hp : punct c with
        | true =>
          have e : lex s i = (⟨[c], [c], skip blank s i⟩, skip blank s i + 1) := by unfold lex; simp only [hc, hl, hf, hp, if_true, Bool.false_eq_true, if_false]
          rw [e] at hk
          have := congrArg List.length (show [c] = kName from hk)
          exact absurd this (by simp)
        | false =>
          have e : lex s i = (⟨kNone, [], skip blank s i⟩, skip blank s i) := by unfold lex; simp only [hc, hl, hf, hp, Bool.false_eq_true, if_false]
          rw [e] at hk; exact absurd (show kNone = kName from hk) (by decide)

/-- How much is left: the measure of the reader. -/
def left (s : Bytes) (st : PS) : Nat := s.length + 1 - st.t.pos

/-- The reader's places are in order. -/
structure PS.Ok (s : Bytes) (st : PS) : Prop where
  i : st.i ≤ s.length
  pos : st.t.pos ≤ st.i
  more : st.t.kind ≠ kEnd → st.t.kind ≠ kNone → st.t.pos < st.i
  num : st.t.kind = kNumber → NumText st.t.text
  name : st.t.kind = kName → NameT st.t.text

theorem next_ok {s : Bytes} {st : PS} (h : st.Ok s) : (next s st).Ok s := by
  obtain ⟨a, b, c, d⟩ := lex_facts s st.i h.i
  exact ⟨c, b, d, lex_num s st.i, lex_name s st.i⟩

theorem next_left {s : Bytes} {st : PS} (h : st.Ok s) (h1 : st.t.kind ≠ kEnd) (h2 : st.t.kind ≠ kNone) : left s (next s st) < left s st := by
  obtain ⟨a, b, c, d⟩ := lex_facts s st.i h.i
  have := h.more h1 h2
  have := h.i
  unfold left
  show s.length + 1 - (lex s st.i).1.pos < _
  omega

theorem start_ok (s : Bytes) : (start s).Ok s := by
  obtain ⟨a, b, c, d⟩ := lex_facts s 0 (Nat.zero_le _)
  exact ⟨c, b, d, lex_num s 0, lex_name s 0⟩

/-- At 'none' the reading stands still. -/
theorem left_pos {s : Bytes} {st : PS} (h : st.Ok s) : 0 < left s st := by
  have := h.pos
  have := h.i
  unfold left
  omega
end Go.Proofs.YtemppijblfflgaaGreatDoor.Ev
namespace Go.Proofs.YtemppijblfflgaaGreatDoor.Ev

/-- On from st to st': nothing but the place and what is wrong has turned. -/
structure Fwd (s : Bytes) (st st' : PS) : Prop where
  ok : st'.Ok s
  left : left s st' ≤ left s st
  decls : st'.decls = st.decls
  freq : st'.freq = st.freq
  fseen : st'.fseen = st.fseen
  rules : st'.rules = st.rules
  depth : st'.depth = st.depth
  loops : st'.loops = st.loops
  wrong : st'.wrong = none → st.wrong = none

section
variable {s : Bytes} {st st' st'' : PS}
theorem Fwd.refl (h : st.Ok s) : Fwd s st st := ⟨h, Nat.le_refl _, rfl, rfl, rfl, rfl, rfl, rfl, id⟩
theorem Fwd.trans (h : Fwd s st st') (k : Fwd s st' st'') : Fwd s st st'' :=
  ⟨k.ok, Nat.le_trans k.left h.left, k.decls.trans h.decls, k.freq.trans h.freq, k.fseen.trans h.fseen, k.rules.trans h.rules, k.depth.trans h.depth, k.loops.trans h.loops, fun x => h.wrong (k.wrong x)⟩
theorem Fwd.next (h : st.Ok s) : Fwd s st (next s st) := by
  refine ⟨next_ok h, ?_, rfl, rfl, rfl, rfl, rfl, rfl, id⟩
  obtain ⟨a, b, c, d⟩ := lex_facts s st.i h.i
  have := h.pos
  unfold Ev.left
  show s.length + 1 - (lex s st.i).1.pos ≤ _
  omega
theorem note_t (e pos : Nat) (st : PS) : (note e pos st).t = st.t ∧ (note e pos st).i = st.i := by unfold note; cases st.wrong <;> exact ⟨rfl, rfl⟩
theorem Fwd.note (h : st.Ok s) (e pos : Nat) : Fwd s st (note e pos st) := by
  obtain ⟨a, b⟩ := note_t e pos st
  refine ⟨⟨by rw [b]; exact h.i, by rw [a, b]; exact h.pos, by rw [a, b]; exact h.more, by rw [a]; exact h.num, by rw [a]; exact h.name⟩, by unfold Ev.left; rw [a]; exact Nat.le_refl _, ?_, ?_, ?_, ?_, ?_, ?_, ?_⟩
  all_goals unfold Ev.note
  all_goals cases hw : st.wrong <;> simp_all
theorem note_wrong (e pos : Nat) (st : PS) : (note e pos st).wrong ≠ none := by
  unfold note; cases hw : st.wrong <;> simp [hw]

theorem want_ok {k : Bytes} {t : Tok} (h : want s k st = .ok t st') : st.t.kind = k ∧ t = st.t ∧ st' = next s st := by
  unfold want at h
  split at h
  · injection h with h1 h2; exact ⟨by assumption, h1.symm, h2.symm⟩
  · cases h

theorem bind_ok {α β : Type} {x : Out α} {f : α → PS → Out β} {b : β} {st : PS} (h : x.bind f = .ok b st) : ∃ a st1, x = .ok a st1 ∧ f a st1 = .ok b st := by
  cases x with
  | ok a st1 => exact ⟨a, st1, rfl, h⟩
  | bad e p => cases h
theorem map_ok {α β : Type} {x : Out α} {f : α → β} {b : β} {st : PS} (h : x.map f = .ok b st) : ∃ a, x = .ok a st ∧ f a = b := by
  cases x with
  | ok a st1 => injection h with h1 h2; exact ⟨a, by rw [h2], h1⟩
  | bad e p => cases h

theorem next_lt (h : st.Ok s) {k : Bytes} (hk : st.t.kind = k) (h1 : k ≠ kEnd) (h2 : k ≠ kNone) : left s (next s st) < left s st :=
  next_left h (by rw [hk]; exact h1) (by rw [hk]; exact h2)

theorem number_ok {least most n : Int} (h : st.Ok s) (e : number s least most st = .ok n st') : Fwd s st st' ∧ left s st' < left s st ∧ (st'.wrong = none → least ≤ n ∧ n ≤ most) := by
  unfold number at e
  obtain ⟨t, st1, e1, e2⟩ := bind_ok e
  obtain ⟨hk, rfl, rfl⟩ := want_ok e1
  injection e2 with e2 e3
  subst e2
  have h1 := next_ok h
  have hl := next_lt h hk (by decide) (by decide)
  split at e3
  · subst e3
    have f := Fwd.note h1 eNumber st.t.pos
    exact ⟨(Fwd.next h).trans f, Nat.lt_of_le_of_lt f.left hl, fun hw => absurd hw (note_wrong _ _ _)⟩
  · subst e3
    exact ⟨Fwd.next h, hl, fun _ => by omega⟩

theorem findFrom_range (name : Bytes) : ∀ (l : List Decl) (k : Nat), findFrom name l k = -1 ∨ ∃ (i : Nat) (d : Decl), l[i]? = some d ∧ d.name = name ∧ findFrom name l k = ((k + i : Nat) : Int)
  | [], k => .inl rfl
  | d :: l, k => by
    by_cases h : d.name = name
    · exact .inr ⟨0, d, rfl, h, by rw [findFrom, if_pos h]; rfl⟩
    · rcases findFrom_range name l (k + 1) with h1 | ⟨i, d', h1, h3, h2⟩
      · exact .inl (by rw [findFrom, if_neg h, h1])
      · exact .inr ⟨i + 1, d', by simpa using h1, h3, by rw [findFrom, if_neg h, h2]; congr 1; omega⟩

/-- A name's number: of a variable, or not. -/
def NameW (l : List Decl) (v : Bool) (k : Int) : Prop := Ix l.length k ∧ ((declAt l k).kind == 2) = v

theorem name_ok {v : Bool} {k : Int} (h : st.Ok s) (e : name s v st = .ok k st') : Fwd s st st' ∧ left s st' < left s st ∧ (st'.wrong = none → NameW st.decls v k) := by
  unfold name at e
  obtain ⟨t, st1, e1, e2⟩ := bind_ok e
  obtain ⟨hk, rfl, rfl⟩ := want_ok e1
  injection e2 with e2 e3
  have h1 := next_ok h
  have hl := next_lt h hk (by decide) (by decide)
  have hd : (next s st).decls = st.decls := rfl
  unfold nameNote at e3
  rw [hd] at e2 e3
  split at e3
  · subst e3
    have f := Fwd.note h1 eNone st.t.pos
    exact ⟨(Fwd.next h).trans f, Nat.lt_of_le_of_lt f.left hl, fun hw => absurd hw (note_wrong _ _ _)⟩
  · split at e3
    · subst e3
      have f := Fwd.note h1 eKind st.t.pos
      exact ⟨(Fwd.next h).trans f, Nat.lt_of_le_of_lt f.left hl, fun hw => absurd hw (note_wrong _ _ _)⟩
    · rename_i h0 h2
      subst e3
      refine ⟨Fwd.next h, hl, fun _ => ⟨?_, ?_⟩⟩
      · rcases findFrom_range st.t.text st.decls 0 with hf | ⟨i, d, hi, _, hf⟩
        · exact absurd (show find st.decls st.t.text < 0 by unfold find; omega) h0
        · have := (List.getElem?_eq_some_iff.1 hi).1
          rw [← e2]
          unfold find Ix
          rw [hf]
          omega
      · rw [← e2]
        simpa using h2

/-! ## What stands in a tree that was read -/
def ValW (l : List Decl) : Val → Prop
  | .num n => 0 ≤ n ∧ n ≤ 999
  | .var n => NameW l true n
  | .len n => NameW l false n
  | .freq => True
def CKW (l : List Decl) : CK → Prop
  | .full n => NameW l false n
  | .empty n => NameW l false n
  | .warm n => NameW l false n
  | .less a b => ValW l a ∧ ValW l b
def PrimW (l : List Decl) : Prim → Prop
  | .put q _ => NameW l false q
  | .evict q => NameW l false q
  | .cool q => NameW l false q
  | .shift q p _ => NameW l false q ∧ NameW l false p
  | .inc v => NameW l true v
  | .dec v => NameW l true v
  | _ => True
def BlkW (l : List Decl) : Blk → Prop
  | .nil => True
  | .prim p r => PrimW l p ∧ BlkW l r
  | .ite c t o e r => CKW l c.k ∧ BlkW l t ∧ BlkW l e ∧ BlkW l r
  | .rep n c b r => CKW l c.k ∧ BlkW l b ∧ BlkW l r ∧ 1 ≤ n ∧ n ≤ 50

/-- What holds of every tree that was read: no else, no statements of it; how deep; how large. -/
def Blk.Form : Blk → Prop
  | .nil => True
  | .prim _ r => r.Form
  | .ite _ t o e r => t.Form ∧ e.Form ∧ r.Form ∧ (o = false → e = .nil)
  | .rep _ _ b r => b.Form ∧ r.Form
def Blk.deep : Blk → Nat
  | .nil => 0
  | .prim _ r => r.deep
  | .ite _ t o e r => max (1 + t.deep) (max (if o then 1 + e.deep else 0) r.deep)
  | .rep _ _ b r => max (1 + b.deep) r.deep
def Blk.nest : Blk → Nat
  | .nil => 0
  | .prim _ r => r.nest
  | .ite _ t _ e r => max t.nest (max e.nest r.nest)
  | .rep _ _ b r => max (1 + b.nest) r.nest
def Blk.size : Blk → Nat
  | .nil => 0
  | .prim _ r => 1 + r.size
  | .ite _ t _ e r => 1 + t.size + e.size + r.size
  | .rep _ _ b r => 1 + b.size + r.size

theorem app_W {l : List Decl} : ∀ (b r : Blk), BlkW l (b.app r) ↔ BlkW l b ∧ BlkW l r
  | .nil, r => by simp [Blk.app, BlkW]
  | .prim p x, r => by simp [Blk.app, BlkW, app_W x r, and_assoc]
  | .ite c t o e x, r => by simp [Blk.app, BlkW, app_W x r, and_assoc]
  | .rep n c b x, r => by
    simp only [Blk.app, BlkW, app_W x r]
    constructor
    · rintro ⟨a, b, ⟨c, d⟩, e⟩; exact ⟨⟨a, b, c, e⟩, d⟩
    · rintro ⟨⟨a, b, c, e⟩, d⟩; exact ⟨a, b, ⟨c, d⟩, e⟩
theorem app_Form : ∀ (b r : Blk), b.Form → r.Form → (b.app r).Form
  | .nil, r, _, h => h
  | .prim p x, r, a, h => app_Form x r a h
  | .ite c t o e x, r, ⟨a1, a2, a3, a4⟩, h => ⟨a1, a2, app_Form x r a3 h, a4⟩
  | .rep n c b x, r, ⟨a1, a2⟩, h => ⟨a1, app_Form x r a2 h⟩
theorem app_deep : ∀ (b r : Blk), (b.app r).deep = max b.deep r.deep
  | .nil, r => by simp [Blk.app, Blk.deep]
  | .prim p x, r => by simp [Blk.app, Blk.deep, app_deep x r]
  | .ite c t o e x, r => by simp only [Blk.app, Blk.deep, app_deep x r]; omega
  | .rep n c b x, r => by simp only [Blk.app, Blk.deep, app_deep x r]; omega
theorem app_nest : ∀ (b r : Blk), (b.app r).nest = max b.nest r.nest
  | .nil, r => by simp [Blk.app, Blk.nest]
  | .prim p x, r => by simp [Blk.app, Blk.nest, app_nest x r]
  | .ite c t o e x, r => by simp only [Blk.app, Blk.nest, app_nest x r]; omega
  | .rep n c b x, r => by simp only [Blk.app, Blk.nest, app_nest x r]; omega
theorem app_size : ∀ (b r : Blk), (b.app r).size = b.size + r.size
  | .nil, r => by simp [Blk.app, Blk.size]
  | .prim p x, r => by simp only [Blk.app, Blk.size, app_size x r]; omega
  | .ite c t o e x, r => by simp only [Blk.app, Blk.size, app_size x r]; omega
  | .rep n c b x, r => by simp only [Blk.app, Blk.size, app_size x r]; omega

theorem NameW.ix {l : List Decl} {v : Bool} {k : Int} (h : NameW l v k) : Ix l.length k := h.1
theorem BlkW.ok {l : List Decl} : ∀ (b : Blk), BlkW l b → b.Form → BlkOk l b
  | .nil, _, _ => trivial
  | .prim p r, ⟨a, b⟩, h => by
    refine ⟨?_, BlkW.ok r b h⟩
    have q2 : ∀ {k : Int}, NameW l false k → (declAt l k).kind ≠ 2 := fun h e => by have := h.2; rw [e] at this; exact absurd this (by decide)
    cases p
    case shift => exact ⟨a.1.ix, a.2.ix, q2 a.2⟩
    case put => exact ⟨NameW.ix a, q2 a⟩
    case drop => trivial
    case bump => trivial
    all_goals exact NameW.ix a
  | .ite c t o e r, ⟨a, b, d, f⟩, ⟨h1, h2, h3, h4⟩ => by
    refine ⟨?_, BlkW.ok t b h1, BlkW.ok e d h2, BlkW.ok r f h3, h4⟩
    cases hc : c.k with
    | less x y =>
      rw [hc] at a
      obtain ⟨a1, a2⟩ := a
      constructor
      · cases x <;> first | trivial | exact NameW.ix a1
      · cases y <;> first | trivial | exact NameW.ix a2
    | full n => rw [hc] at a; exact NameW.ix a
    | empty n => rw [hc] at a; exact NameW.ix a
    | warm n => rw [hc] at a; exact NameW.ix a
  | .rep n c b r, ⟨a, d, f, g, _⟩, ⟨h1, h2⟩ => by
    refine ⟨?_, BlkW.ok b d h1, BlkW.ok r f h2, by omega⟩
    cases hc : c.k with
    | less x y =>
      rw [hc] at a
      obtain ⟨a1, a2⟩ := a
      constructor
      · cases x <;> first | trivial | exact NameW.ix a1
      · cases y <;> first | trivial | exact NameW.ix a2
    | full n => rw [hc] at a; exact NameW.ix a
    | empty n => rw [hc] at a; exact NameW.ix a
    | warm n => rw [hc] at a; exact NameW.ix a

/-! ## The calls -/
theorem value_ok {v : Val} (h : st.Ok s) (e : value s st = .ok v st') : Fwd s st st' ∧ left s st' < left s st ∧ (st'.wrong = none → ValW st.decls v) := by
  unfold value at e
  split at e
  · obtain ⟨a, e1, rfl⟩ := map_ok e
    exact number_ok h e1
  · split at e
    · rename_i hk
      obtain ⟨a, e1, rfl⟩ := map_ok e
      obtain ⟨f, l, w⟩ := name_ok (next_ok h) e1
      exact ⟨(Fwd.next h).trans f, Nat.lt_trans l (next_lt h hk (by decide) (by decide)), w⟩
    · split at e
      · rename_i hk
        injection e with e1 e2
        subst e1 e2
        exact ⟨Fwd.next h, next_lt h hk (by decide) (by decide), fun _ => trivial⟩
      · obtain ⟨a, e1, rfl⟩ := map_ok e
        exact name_ok h e1

theorem condBase_ok {c : Cond} (h : st.Ok s) (e : condBase s st = .ok c st') : Fwd s st st' ∧ left s st' < left s st ∧ (st'.wrong = none → CKW st.decls c.k) := by
  have one : ∀ {k : Bytes} {f : Int → Cond}, st.t.kind = k → k ≠ kEnd → k ≠ kNone → (∀ n, NameW st.decls false n → CKW st.decls (f n).k) → (name s false (next s st)).map f = .ok c st' →
      Fwd s st st' ∧ left s st' < left s st ∧ (st'.wrong = none → CKW st.decls c.k) := by
    intro k f hk h1 h2 hf e
    obtain ⟨a, e1, rfl⟩ := map_ok e
    obtain ⟨g, l, w⟩ := name_ok (next_ok h) e1
    exact ⟨(Fwd.next h).trans g, Nat.lt_trans l (next_lt h hk h1 h2), fun x => hf _ (w x)⟩
  unfold condBase at e
  split at e
  · rename_i hk; exact one (f := fun n => ⟨.full n, 0⟩) hk (by decide) (by decide) (fun _ x => x) e
  · split at e
    · rename_i hk; exact one (f := fun n => ⟨.empty n, 0⟩) hk (by decide) (by decide) (fun _ x => x) e
    · split at e
      · rename_i hk; exact one (f := fun n => ⟨.warm n, 0⟩) hk (by decide) (by decide) (fun _ x => x) e
      · obtain ⟨a, st1, e1, e2⟩ := bind_ok e
        obtain ⟨t, st2, e3, e4⟩ := bind_ok e2
        obtain ⟨b, e5, rfl⟩ := map_ok e4
        obtain ⟨f1, l1, w1⟩ := value_ok h e1
        obtain ⟨_, _, rfl⟩ := want_ok e3
        have f2 := Fwd.next f1.ok
        obtain ⟨f3, l3, w3⟩ := value_ok f2.ok e5
        refine ⟨(f1.trans f2).trans f3, by have := f2.left; omega, fun x => ⟨w1 (f2.wrong (f3.wrong x)), ?_⟩⟩
        have := w3 x
        rw [f2.decls, f1.decls] at this
        exact this

theorem cond_ok : ∀ {n : Nat} {st : PS} {c : Cond}, st.Ok s → cond s n st = .ok c st' → Fwd s st st' ∧ left s st' < left s st ∧ (st'.wrong = none → CKW st.decls c.k)
  | 0, _, _, _, e => by cases e
  | n + 1, st, c, h, e => by
    unfold cond at e
    split at e
    · rename_i hk
      obtain ⟨a, e1, rfl⟩ := map_ok e
      obtain ⟨f, l, w⟩ := cond_ok (next_ok h) e1
      exact ⟨(Fwd.next h).trans f, Nat.lt_trans l (next_lt h hk (by decide) (by decide)), w⟩
    · exact condBase_ok h e

/-- What is known of a block, or a statement, that was read. -/
structure GotB (s : Bytes) (st st' : PS) (b : Blk) : Prop where
  fwd : Fwd s st st'
  w : st'.wrong = none → BlkW st.decls b
  form : b.Form
  deep : st.depth + b.deep ≤ 8
  nest : st.loops + b.nest ≤ 2
  size : b.size + left s st' ≤ left s st

theorem prim_got {st st' : PS} {x : Prim} (f : Fwd s st st') (l : left s st' < left s st) (w : st'.wrong = none → PrimW st.decls x) (hd : st.depth ≤ 8) (hl : st.loops ≤ 2) : GotB s st st' (.prim x .nil) :=
  ⟨f, fun y => ⟨w y, trivial⟩, trivial, by simp [Blk.deep]; exact hd, by simp [Blk.nest]; exact hl, by simp [Blk.size]; omega⟩

mutual
theorem block_ok : ∀ {n : Nat} {st st' : PS} {b : Blk}, st.Ok s → st.depth ≤ 8 → st.loops ≤ 2 → block s n st = .ok b st' →
    Fwd s st st' ∧ (st'.wrong = none → BlkW st.decls b) ∧ b.Form ∧ st.depth + 1 + b.deep ≤ 8 ∧ st.loops + b.nest ≤ 2 ∧ b.size + 2 + left s st' ≤ left s st
  | 0, _, _, _, _, _, _, e => by unfold block at e; cases e
  | n + 1, st, st', b, h, hd, hl, e => by
    unfold block at e
    split at e
    · cases e
    · rename_i h8
      obtain ⟨t, st1, e1, e2⟩ := bind_ok e
      obtain ⟨b', st2, e3, e4⟩ := bind_ok e2
      obtain ⟨hk, _, rfl⟩ := want_ok e1
      injection e4 with e4 e5
      subst e4
      have f1 := Fwd.next h
      have l1 := next_lt h hk (by decide) (by decide)
      have hd' : st.depth < 8 := by
        rcases Nat.lt_or_ge st.depth 8 with x | x
        · exact x
        · exact absurd ⟨hk, by omega⟩ h8
      have ok1 : ({ next s st with depth := (next s st).depth + 1 } : PS).Ok s := ⟨f1.ok.i, f1.ok.pos, f1.ok.more, f1.ok.num, f1.ok.name⟩
      obtain ⟨g, hkc⟩ := stmts_ok ok1 (by show st.depth + 1 ≤ 8; omega) hl e3
      have g2 : (st2.depth - 1) = st.depth := by have := g.fwd.depth; simp at this; rw [this]; rfl
      have ok2 : ({ st2 with depth := st2.depth - 1 } : PS).Ok s := ⟨g.fwd.ok.i, g.fwd.ok.pos, g.fwd.ok.more, g.fwd.ok.num, g.fwd.ok.name⟩
      have f3 := Fwd.next ok2
      have l3 : left s (next s { st2 with depth := st2.depth - 1 }) < left s st2 := next_lt ok2 hkc (by decide) (by decide)
      have gl := g.size
      have gl' : b'.size + left s st2 ≤ left s (next s st) := gl
      subst e5
      refine ⟨⟨f3.ok, by omega, f3.decls.trans g.fwd.decls, f3.freq.trans g.fwd.freq, f3.fseen.trans g.fwd.fseen, f3.rules.trans g.fwd.rules, f3.depth.trans g2, f3.loops.trans g.fwd.loops, fun x => g.fwd.wrong (f3.wrong x)⟩,
        fun x => g.w (f3.wrong x), g.form, g.deep, g.nest, by omega⟩
theorem stmts_ok : ∀ {n : Nat} {st st' : PS} {b : Blk}, st.Ok s → st.depth ≤ 8 → st.loops ≤ 2 → stmts s n st = .ok b st' → GotB s st st' b ∧ st'.t.kind = kClose
  | 0, _, _, _, _, _, _, e => by unfold stmts at e; cases e
  | n + 1, st, st', b, h, hd, hl, e => by
    unfold stmts at e
    split at e
    · rename_i hk
      injection e with e1 e2
      subst e1 e2
      exact ⟨⟨Fwd.refl h, fun _ => trivial, trivial, by simp [Blk.deep]; exact hd, by simp [Blk.nest]; exact hl, by simp [Blk.size]⟩, hk⟩
    · obtain ⟨x, st1, e1, e2⟩ := bind_ok e
      obtain ⟨r, e3, rfl⟩ := map_ok e2
      have g1 := stmt_ok h hd hl e1
      obtain ⟨g2, hc⟩ := stmts_ok g1.fwd.ok (by rw [g1.fwd.depth]; exact hd) (by rw [g1.fwd.loops]; exact hl) e3
      refine ⟨⟨g1.fwd.trans g2.fwd, fun y => (app_W _ _).2 ⟨g1.w (g2.fwd.wrong y), by have := g2.w y; rw [g1.fwd.decls] at this; exact this⟩, app_Form _ _ g1.form g2.form, ?_, ?_, ?_⟩, hc⟩
      · have a := g1.deep; have b := g2.deep
        rw [g1.fwd.depth] at b
        rw [app_deep]; omega
      · have a := g1.nest; have b := g2.nest
        rw [g1.fwd.loops] at b
        rw [app_nest]; omega
      · have a := g1.size; have b := g2.size
        rw [app_size]; omega
theorem stmt_ok : ∀ {n : Nat} {st st' : PS} {b : Blk}, st.Ok s → st.depth ≤ 8 → st.loops ≤ 2 → stmt s n st = .ok b st' → GotB s st st' b
  | 0, _, _, _, _, _, _, e => by unfold stmt at e; cases e
  | n + 1, st, st', b, h, hd, hl, e => by
    have semi : ∀ {x : Prim} {st1 : PS}, Fwd s st st1 → left s st1 < left s st → (st1.wrong = none → PrimW st.decls x) → ((want s kSemi st1).bind fun _ st => .ok (.prim x .nil) st) = Out.ok b st' → GotB s st st' b := by
      intro x st1 f l w e
      obtain ⟨t, st2, e1, e2⟩ := bind_ok e
      obtain ⟨hk, _, rfl⟩ := want_ok e1
      injection e2 with e2 e3
      subst e2 e3
      have f2 := Fwd.next f.ok
      exact prim_got (f.trans f2) (by have := f2.left; omega) (fun y => w (f2.wrong y)) hd hl
    have tk : ∀ {k : Bytes} {st1 : PS}, st1.Ok s → Fwd s st1 (take s k st1).2 := by
      intro k st1 h1
      unfold take
      split
      · exact Fwd.next h1
      · exact Fwd.refl h1
    have nx : ∀ {k : Bytes}, st.t.kind = k → k ≠ kEnd → k ≠ kNone → Fwd s st (next s st) ∧ left s (next s st) < left s st := fun hk h1 h2 => ⟨Fwd.next h, next_lt h hk h1 h2⟩
    have one : ∀ {k : Bytes} {v : Bool} {x : Int → Prim}, st.t.kind = k → k ≠ kEnd → k ≠ kNone → (∀ q, NameW st.decls v q → PrimW st.decls (x q)) →
        ((name s v (next s st)).bind fun q st => (want s kSemi st).bind fun _ st => .ok (.prim (x q) .nil) st) = Out.ok b st' → GotB s st st' b := by
      intro k v x hk h1 h2 hx e
      obtain ⟨f, l⟩ := nx hk h1 h2
      obtain ⟨q, st1, e1, e2⟩ := bind_ok e
      obtain ⟨f1, l1, w1⟩ := name_ok f.ok e1
      exact semi (f.trans f1) (by omega) (fun y => hx q (w1 y)) e2
    unfold stmt at e
    extract_lets sm at e
    by_cases hk : st.t.kind = kPut
    · rw [if_pos hk] at e
      obtain ⟨f, l⟩ := nx hk (by decide) (by decide)
      obtain ⟨q, st1, e1, e2⟩ := bind_ok e
      obtain ⟨f1, l1, w1⟩ := name_ok f.ok e1
      have f2 := tk (k := kTail) f1.ok
      exact semi (x := .put q (take s kTail st1).1) ((f.trans f1).trans f2) (by have := f2.left; omega) (fun y => w1 (f2.wrong y)) e2
    rw [if_neg hk] at e
    by_cases hk : st.t.kind = kEvict
    · rw [if_pos hk] at e
      exact one (x := .evict) hk (by decide) (by decide) (fun _ x => x) e
    rw [if_neg hk] at e
    by_cases hk : st.t.kind = kCool
    · rw [if_pos hk] at e
      exact one (x := .cool) hk (by decide) (by decide) (fun _ x => x) e
    rw [if_neg hk] at e
    by_cases hk : st.t.kind = kShift
    · rw [if_pos hk] at e
      obtain ⟨f, l⟩ := nx hk (by decide) (by decide)
      obtain ⟨q, st1, e1, e2⟩ := bind_ok e
      obtain ⟨f1, l1, w1⟩ := name_ok f.ok e1
      obtain ⟨q', st2, e3, e4⟩ := bind_ok e2
      obtain ⟨f2, l2, w2⟩ := name_ok f1.ok e3
      have f3 := tk (k := kTail) f2.ok
      refine semi (x := .shift q q' (take s kTail st2).1) (((f.trans f1).trans f2).trans f3) (by have := f3.left; omega) (fun y => ⟨w1 (f2.wrong (f3.wrong y)), ?_⟩) e4
      have := w2 (f3.wrong y)
      rw [f1.decls] at this
      exact this
    rw [if_neg hk] at e
    by_cases hk : st.t.kind = kInc
    · rw [if_pos hk] at e
      exact one (x := .inc) hk (by decide) (by decide) (fun _ x => x) e
    rw [if_neg hk] at e
    by_cases hk : st.t.kind = kDec
    · rw [if_pos hk] at e
      exact one (x := .dec) hk (by decide) (by decide) (fun _ x => x) e
    rw [if_neg hk] at e
    by_cases hk : st.t.kind = kDrop
    · rw [if_pos hk] at e
      obtain ⟨f, l⟩ := nx hk (by decide) (by decide)
      exact semi (x := .drop) f l (fun _ => trivial) e
    rw [if_neg hk] at e
    by_cases hk : st.t.kind = kBump
    · rw [if_pos hk] at e
      obtain ⟨f, l⟩ := nx hk (by decide) (by decide)
      exact semi (x := .bump) f l (fun _ => trivial) e
    rw [if_neg hk] at e
    by_cases hk : st.t.kind = kIf
    · rw [if_pos hk] at e
      obtain ⟨f, l⟩ := nx hk (by decide) (by decide)
      obtain ⟨c, st1, e1, e2⟩ := bind_ok e
      obtain ⟨f1, l1, w1⟩ := cond_ok f.ok e1
      obtain ⟨t, st2, e3, e4⟩ := bind_ok e2
      have d1 : st1.depth = st.depth := (f.trans f1).depth
      have p1 : st1.loops = st.loops := (f.trans f1).loops
      obtain ⟨f2, w2, m2, dd2, nn2, z2⟩ := block_ok f1.ok (by omega) (by omega) e3
      split at e4
      · rename_i hk2
        obtain ⟨el, st3, e5, e6⟩ := bind_ok e4
        have f3 := Fwd.next f2.ok
        have l3 := next_lt f2.ok hk2 (by decide) (by decide)
        have d2 : (next s st2).depth = st.depth := (f2.trans f3).depth.trans d1
        have p2 : (next s st2).loops = st.loops := (f2.trans f3).loops.trans p1
        obtain ⟨f4, w4, m4, dd4, nn4, z4⟩ := block_ok f3.ok (by omega) (by omega) e5
        injection e6 with e6 e7
        subst e6 e7
        have F := (((f.trans f1).trans f2).trans f3).trans f4
        refine ⟨F, fun y => ?_, ⟨m2, m4, trivial, fun x => by cases x⟩, ?_, ?_, ?_⟩
        · have y3 := f4.wrong y
          have y2 := f3.wrong y3
          have y1 := f2.wrong y2
          refine ⟨w1 y1, ?_, ?_, trivial⟩
          · have := w2 y2; rw [f1.decls] at this; exact this
          · have := w4 y; rw [f3.decls, f2.decls, f1.decls] at this; exact this
        · simp only [Blk.deep, if_true]; omega
        · simp only [Blk.nest]; omega
        · simp only [Blk.size]; omega
      · injection e4 with e6 e7
        subst e6 e7
        refine ⟨(f.trans f1).trans f2, fun y => ?_, ⟨m2, trivial, trivial, fun _ => rfl⟩, ?_, ?_, ?_⟩
        · have y1 := f2.wrong y
          refine ⟨w1 y1, ?_, trivial, trivial⟩
          have := w2 y; rw [f1.decls] at this; exact this
        · simp only [Blk.deep, Bool.false_eq_true, if_false]; omega
        · simp only [Blk.nest]; omega
        · simp only [Blk.size]; omega
    rw [if_neg hk] at e
    by_cases hk : st.t.kind = kRepeat
    · rw [if_pos hk] at e
      split at e
      · cases e
      · rename_i h2
        obtain ⟨f, l⟩ := nx hk (by decide) (by decide)
        obtain ⟨k, st1, e1, e2⟩ := bind_ok e
        obtain ⟨f1, l1, w1⟩ := number_ok f.ok e1
        obtain ⟨t, st2, e3, e4⟩ := bind_ok e2
        obtain ⟨hk2, _, rfl⟩ := want_ok e3
        have f2 := Fwd.next f1.ok
        obtain ⟨c, st3, e5, e6⟩ := bind_ok e4
        obtain ⟨f3, l3, w3⟩ := cond_ok f2.ok e5
        obtain ⟨b', st4, e7, e8⟩ := bind_ok e6
        have F3 := ((f.trans f1).trans f2).trans f3
        have ok3 : ({ st3 with loops := st3.loops + 1 } : PS).Ok s := ⟨f3.ok.i, f3.ok.pos, f3.ok.more, f3.ok.num, f3.ok.name⟩
        have d3 := F3.depth
        have p3 := F3.loops
        obtain ⟨f4, w4, m4, dd4, nn4, z4⟩ := block_ok ok3 (by show st3.depth ≤ 8; omega) (by show st3.loops + 1 ≤ 2; omega) e7
        injection e8 with e8 e9
        subst e8 e9
        have dd4' : st3.depth + 1 + b'.deep ≤ 8 := dd4
        have nn4' : st3.loops + 1 + b'.nest ≤ 2 := nn4
        have z4' : b'.size + 2 + left s st4 ≤ left s st3 := z4
        have z5 : left s ({ st4 with loops := st4.loops - 1 } : PS) = left s st4 := rfl
        have hl2 := f2.left
        refine ⟨⟨⟨f4.ok.i, f4.ok.pos, f4.ok.more, f4.ok.num, f4.ok.name⟩, by omega, f4.decls.trans F3.decls, f4.freq.trans F3.freq, f4.fseen.trans F3.fseen, f4.rules.trans F3.rules, f4.depth.trans F3.depth, ?_, fun y => F3.wrong (f4.wrong y)⟩, fun y => ?_, ⟨m4, trivial⟩, ?_, ?_, ?_⟩
        · have := f4.loops
          show st4.loops - 1 = st.loops
          simp at this
          omega
        · have y3 := f4.wrong y
          have y2 := f3.wrong y3
          have y1 := f2.wrong y2
          refine ⟨?_, ?_, trivial, w1 y1⟩
          · have := w3 y3; rw [f2.decls, f1.decls] at this; exact this
          · have := w4 y
            have hd3 : ({ st3 with loops := st3.loops + 1 } : PS).decls = st.decls := F3.decls
            rw [hd3] at this; exact this
        · simp only [Blk.deep]; omega
        · simp only [Blk.nest]; omega
        · simp only [Blk.size]; omega
    rw [if_neg hk] at e
    cases e
end
end
end Go.Proofs.YtemppijblfflgaaGreatDoor.Ev
namespace Go.Proofs.YtemppijblfflgaaGreatDoor.Ev

structure DeclW (d : Decl) : Prop where
  kind : d.kind ≤ 2
  name : NameT d.name
  lo : 1 ≤ d.max
  hi : d.max ≤ if d.kind = 2 then 99 else 50

structure DeclsW (l : List Decl) : Prop where
  len : l.length ≤ 8
  each : ∀ d ∈ l, DeclW d
  nodup : (l.map (·.name)).Nodup

def FreqW (seen : Bool) (f : Int) : Prop := if seen then 1 ≤ f ∧ f ≤ 99 else f = 0

structure RuleW (l : List Decl) (x : Int × Blk) : Prop where
  key : x.1 = -1 ∨ NameW l false x.1
  w : BlkW l x.2
  form : x.2.Form
  deep : 1 + x.2.deep ≤ 8
  nest : x.2.nest ≤ 2

structure RulesW (l : List Decl) (r : List (Int × Blk)) : Prop where
  each : ∀ x ∈ r, RuleW l x
  nodup : (r.map (·.1)).Nodup

def sizes (r : List (Int × Blk)) : Nat := (r.map (fun x => x.2.size)).sum

/-- What holds of the reader between declarations and rules. -/
structure Mid (s : Bytes) (st : PS) : Prop where
  ok : st.Ok s
  depth : st.depth = 0
  loops : st.loops = 0
  dl : st.decls.length + left s st ≤ 701
  rl : st.rules.length + left s st ≤ 701
  sz : sizes st.rules + left s st ≤ 701
  w : st.wrong = none → DeclsW st.decls ∧ FreqW st.fseen st.freq ∧ RulesW st.decls st.rules

section
variable {s : Bytes} {st st' : PS}

theorem note_parts (e pos : Nat) (st : PS) : (note e pos st).decls = st.decls ∧ (note e pos st).freq = st.freq ∧ (note e pos st).fseen = st.fseen ∧ (note e pos st).rules = st.rules ∧ (note e pos st).depth = st.depth ∧ (note e pos st).loops = st.loops ∧
    left s (note e pos st) = left s st := by
  unfold note
  cases hw : st.wrong <;> exact ⟨rfl, rfl, rfl, rfl, rfl, rfl, rfl⟩

theorem declNote_parts (n : Tok) (h : st.Ok s) : Fwd s st (declNote n st) ∧ left s (declNote n st) = left s st ∧ ((declNote n st).wrong = none → find st.decls n.text < 0 ∧ st.decls.length ≠ 8) := by
  unfold declNote
  have h1 : Fwd s st (if 0 ≤ find st.decls n.text then note eTwice n.pos st else st) ∧ left s (if 0 ≤ find st.decls n.text then note eTwice n.pos st else st) = left s st ∧
      ((if 0 ≤ find st.decls n.text then note eTwice n.pos st else st).wrong = none → find st.decls n.text < 0) := by
    split
    · exact ⟨Fwd.note h _ _, (note_parts _ _ _).2.2.2.2.2.2, fun x => absurd x (note_wrong _ _ _)⟩
    · exact ⟨Fwd.refl h, rfl, fun _ => by omega⟩
  simp only
  generalize (if 0 ≤ find st.decls n.text then note eTwice n.pos st else st) = st1 at *
  obtain ⟨a, b, c⟩ := h1
  split
  · exact ⟨a.trans (Fwd.note a.ok _ _), (note_parts _ _ _).2.2.2.2.2.2.trans b, fun x => absurd x (note_wrong _ _ _)⟩
  · rename_i h8
    exact ⟨a, b, fun x => ⟨c x, by rw [← a.decls]; exact h8⟩⟩

theorem find_neg {l : List Decl} {name : Bytes} (h : find l name < 0) : name ∉ l.map (·.name) := by
  intro hm
  obtain ⟨d, hd, rfl⟩ := List.mem_map.1 hm
  have : ∀ (l : List Decl) (k : Nat), d ∈ l → 0 ≤ findFrom d.name l k := by
    intro l
    induction l with
    | nil => intro k h; cases h
    | cons x l ih =>
      intro k hx
      rw [findFrom]
      split
      · omega
      · rename_i hne
        rcases List.mem_cons.1 hx with rfl | hx
        · exact absurd rfl hne
        · exact ih _ hx
  have := this l 0 hd
  unfold find at h
  omega

theorem decl_mid (h : Mid s st) (hk : isDecl st.t.kind = true) (hr : st.rules = []) (e : decl s st = .ok () st') : Mid s st' ∧ st'.rules = [] ∧ left s st' < left s st := by
  have hne : st.t.kind ≠ kEnd ∧ st.t.kind ≠ kNone := by
    constructor
    · intro x; rw [x] at hk; exact absurd hk (by decide)
    · intro x; rw [x] at hk; exact absurd hk (by decide)
  have f0 := Fwd.next h.ok
  have l0 := next_left h.ok hne.1 hne.2
  unfold decl at e
  simp only at e
  split at e
  · obtain ⟨n, st1, e1, e2⟩ := bind_ok e
    obtain ⟨t, st2, e3, e4⟩ := bind_ok e2
    injection e4 with _ e4
    subst e4
    obtain ⟨hk3, _, rfl⟩ := want_ok e3
    have h1 : ∃ x : PS, x = (if (next s st).fseen = true then note eTwice st.t.pos (next s st) else next s st) ∧ Fwd s (next s st) x ∧ (x.wrong = none → (next s st).fseen = false) := by
      refine ⟨_, rfl, ?_⟩
      split
      · exact ⟨Fwd.note f0.ok _ _, fun x => absurd x (note_wrong _ _ _)⟩
      · rename_i hf; exact ⟨Fwd.refl f0.ok, fun _ => by simpa using hf⟩
    obtain ⟨x, hx, f1, w1⟩ := h1
    rw [← hx] at e1
    have ok2 : ({ x with fseen := true } : PS).Ok s := ⟨f1.ok.i, f1.ok.pos, f1.ok.more, f1.ok.num, f1.ok.name⟩
    obtain ⟨f2, l2, w2⟩ := number_ok ok2 e1
    have ok3 : ({ st1 with freq := n } : PS).Ok s := ⟨f2.ok.i, f2.ok.pos, f2.ok.more, f2.ok.num, f2.ok.name⟩
    have f3 := Fwd.next ok3
    have l1 := f1.left
    have l2' : left s st1 < left s x := l2
    have l3 : left s (next s { st1 with freq := n }) ≤ left s st1 := f3.left
    have d1 : (next s { st1 with freq := n }).decls = st.decls := f3.decls.trans (f2.decls.trans (f1.decls.trans f0.decls))
    have r1 : (next s { st1 with freq := n }).rules = st.rules := f3.rules.trans (f2.rules.trans (f1.rules.trans f0.rules))
    refine ⟨⟨f3.ok, f3.depth.trans (f2.depth.trans (f1.depth.trans (f0.depth.trans h.depth))), f3.loops.trans (f2.loops.trans (f1.loops.trans (f0.loops.trans h.loops))), ?_, ?_, ?_, ?_⟩, r1.trans hr, by omega⟩
    · rw [d1]; have := h.dl; omega
    · rw [r1]; have := h.rl; omega
    · rw [r1]; have := h.sz; omega
    · intro hw
      have y3 := f3.wrong hw
      have y2 := f2.wrong y3
      obtain ⟨a, b, c⟩ := h.w (f0.wrong (f1.wrong y2))
      refine ⟨by rw [d1]; exact a, ?_, by rw [d1, r1]; exact c⟩
      have fs : (next s { st1 with freq := n }).fseen = true := f3.fseen.trans f2.fseen
      have fq : (next s { st1 with freq := n }).freq = n := f3.freq
      rw [fs, fq]
      exact w2 y3
  · obtain ⟨n, st1, e1, e2⟩ := bind_ok e
    obtain ⟨m, st2, e3, e4⟩ := bind_ok e2
    obtain ⟨t, st3, e5, e6⟩ := bind_ok e4
    injection e6 with _ e6
    subst e6
    obtain ⟨hk1, rfl, rfl⟩ := want_ok e1
    obtain ⟨hk5, _, rfl⟩ := want_ok e5
    have f1 := Fwd.next f0.ok
    obtain ⟨f2, l2, w2⟩ := declNote_parts (next s st).t f1.ok
    obtain ⟨f3, l3, w3⟩ := number_ok f2.ok e3
    have f4 := Fwd.next f3.ok
    have F := (((f0.trans f1).trans f2).trans f3).trans f4
    have hle := F.left
    have l1 := f1.left
    have l4 := f4.left
    have okF : ({ next s st2 with decls := (next s st2).decls ++ [⟨declKind st.t.kind, (next s st).t.text, m⟩] } : PS).Ok s := ⟨f4.ok.i, f4.ok.pos, f4.ok.more, f4.ok.num, f4.ok.name⟩
    have lF : left s ({ next s st2 with decls := (next s st2).decls ++ [⟨declKind st.t.kind, (next s st).t.text, m⟩] } : PS) = left s (next s st2) := rfl
    have d1 : (next s st2).decls = st.decls := F.decls
    have r1 : (next s st2).rules = st.rules := F.rules
    refine ⟨⟨okF, F.depth.trans h.depth, F.loops.trans h.loops, ?_, ?_, ?_, ?_⟩, r1.trans hr, by rw [lF]; omega⟩
    · rw [lF]; show ((next s st2).decls ++ [_]).length + _ ≤ 701
      rw [d1]; have := h.dl; simp; omega
    · rw [lF]; show (next s st2).rules.length + _ ≤ 701
      rw [r1]; have := h.rl; omega
    · rw [lF]; show sizes (next s st2).rules + _ ≤ 701
      rw [r1]; have := h.sz; omega
    · intro hw
      have y4 : (next s st2).wrong = none := hw
      have y3 := f4.wrong y4
      have y2 := f3.wrong y3
      obtain ⟨a, b, c⟩ := h.w (f0.wrong (f1.wrong (f2.wrong y2)))
      obtain ⟨n1, n2⟩ := w2 y2
      have hd2 : (next s (next s st)).decls = st.decls := f1.decls.trans f0.decls
      rw [hd2] at n1 n2
      refine ⟨?_, ?_, ?_⟩
      · show DeclsW ((next s st2).decls ++ [_])
        rw [d1]
        refine ⟨by have := a.len; simp; omega, ?_, ?_⟩
        · intro d hd
          rcases List.mem_append.1 hd with hd | hd
          · exact a.each d hd
          · simp at hd
            subst hd
            refine ⟨?_, f0.ok.name hk1, (w3 y3).1, ?_⟩
            · unfold declKind; simp only; split <;> (try split) <;> omega
            · have := (w3 y3).2
              unfold declMost at this
              unfold declKind
              simp only
              split at this
              · rename_i hv; rw [if_pos hv]; simpa using this
              · rename_i hv; rw [if_neg hv]
                split <;> simpa using this
        · rw [List.map_append, List.nodup_append]
          refine ⟨a.nodup, by simp, fun x hx y hy => ?_⟩
          simp at hy
          subst hy
          rintro rfl
          exact find_neg n1 hx
      · show FreqW (next s st2).fseen (next s st2).freq
        rw [F.fseen, F.freq]; exact b
      · show RulesW ((next s st2).decls ++ [_]) (next s st2).rules
        rw [r1, hr]
        exact ⟨fun x hx => (by cases hx), (by simp)⟩

theorem declsR_mid : ∀ (n : Nat) {st st' : PS}, Mid s st → st.rules = [] → declsR s n st = .ok () st' → Mid s st' ∧ st'.rules = []
  | 0, _, _, _, _, e => by cases e
  | n + 1, st, st', h, hr, e => by
    unfold declsR at e
    split at e
    · rename_i hk
      obtain ⟨u, st1, e1, e2⟩ := bind_ok e
      obtain ⟨a, b, _⟩ := decl_mid h hk hr e1
      exact declsR_mid n a b e2
    · injection e with _ e
      subst e
      exact ⟨h, hr⟩

theorem ruleOf_none {r : List (Int × Blk)} {k : Int} (h : (ruleOf r k).isSome = false) : k ∉ r.map (·.1) := by
  intro hm
  obtain ⟨x, hx, rfl⟩ := List.mem_map.1 hm
  unfold ruleOf at h
  rw [Option.isSome_map, Option.isSome_eq_false_iff, Option.isNone_iff_eq_none, List.find?_eq_none] at h
  exact h x hx (by simp)

theorem ruleHead_mid {k : Int} (h : st.Ok s) (hk : st.t.kind = kOn) (e : ruleHead s st = .ok k st') :
    Fwd s st st' ∧ left s st' < left s st ∧ (st'.wrong = none → (k = -1 ∨ NameW st.decls false k) ∧ k ∉ st.rules.map (·.1)) := by
  have f0 := Fwd.next h
  have l0 := next_lt h hk (by decide) (by decide)
  unfold ruleHead at e
  simp only at e
  obtain ⟨k', st1, e1, e2⟩ := bind_ok e
  injection e2 with e2 e3
  subst e2
  have h1 : Fwd s (next s st) st1 ∧ (st1.wrong = none → k' = -1 ∨ NameW st.decls false k') := by
    split at e1
    · injection e1 with e1 e4
      subst e1 e4
      exact ⟨Fwd.next f0.ok, fun _ => .inl rfl⟩
    · obtain ⟨a, b, c⟩ := name_ok f0.ok e1
      exact ⟨a, fun x => .inr (c x)⟩
  obtain ⟨f1, w1⟩ := h1
  have hl := f1.left
  have hru : st1.rules = st.rules := f1.rules.trans f0.rules
  split at e3
  · subst e3
    have f2 := Fwd.note f1.ok eRule st.t.pos
    exact ⟨(f0.trans f1).trans f2, by have := f2.left; omega, fun x => absurd x (note_wrong _ _ _)⟩
  · rename_i hc
    subst e3
    refine ⟨f0.trans f1, by omega, fun x => ⟨w1 x, ruleOf_none ?_⟩⟩
    rw [x, hru] at hc
    simpa using hc

theorem rule_mid {n : Nat} (h : Mid s st) (hk : st.t.kind = kOn) (e : rule s n st = .ok () st') : Mid s st' ∧ left s st' < left s st ∧ st'.decls = st.decls := by
  unfold rule at e
  obtain ⟨k, st1, e1, e2⟩ := bind_ok e
  obtain ⟨b, st2, e3, e4⟩ := bind_ok e2
  injection e4 with _ e4
  obtain ⟨f1, l1, w1⟩ := ruleHead_mid h.ok hk e1
  obtain ⟨f2, w2, m2, dd2, nn2, z2⟩ := block_ok f1.ok (by rw [f1.depth, h.depth]; omega) (by rw [f1.loops, h.loops]; omega) e3
  rw [f1.depth, h.depth] at dd2
  rw [f1.loops, h.loops] at nn2
  have F := f1.trans f2
  split at e4
  · rename_i hw
    have hw' : st2.wrong = none := by simpa using hw
    subst e4
    have lF : left s ({ st2 with rules := st2.rules ++ [(k, b)] } : PS) = left s st2 := rfl
    refine ⟨⟨⟨F.ok.i, F.ok.pos, F.ok.more, F.ok.num, F.ok.name⟩, F.depth.trans h.depth, F.loops.trans h.loops, ?_, ?_, ?_, ?_⟩, by omega, F.decls⟩
    · rw [lF]; show st2.decls.length + _ ≤ 701
      rw [F.decls]; have := h.dl; omega
    · rw [lF]; show (st2.rules ++ [(k, b)]).length + _ ≤ 701
      rw [F.rules]; have := h.rl; simp; omega
    · rw [lF]; show sizes (st2.rules ++ [(k, b)]) + _ ≤ 701
      rw [F.rules]; have := h.sz; unfold sizes at *; simp; omega
    · intro _
      obtain ⟨a, b', c⟩ := h.w (F.wrong hw')
      obtain ⟨x1, x2⟩ := w1 (f2.wrong hw')
      refine ⟨by rw [show ({ st2 with rules := st2.rules ++ [(k, b)] } : PS).decls = st.decls from F.decls]; exact a, ?_, ?_⟩
      · show FreqW st2.fseen st2.freq
        rw [F.fseen, F.freq]; exact b'
      · show RulesW st2.decls (st2.rules ++ [(k, b)])
        rw [F.decls, F.rules]
        refine ⟨fun x hx => ?_, ?_⟩
        · rcases List.mem_append.1 hx with hx | hx
          · exact c.each x hx
          · simp at hx
            subst hx
            exact ⟨x1, by have := w2 hw'; rw [f1.decls] at this; exact this, m2, by show 1 + b.deep ≤ 8; omega, by show b.nest ≤ 2; omega⟩
        · rw [List.map_append, List.nodup_append]
          refine ⟨c.nodup, by simp, fun x hx y hy => ?_⟩
          simp at hy
          subst hy
          rintro rfl
          exact x2 hx
  · rename_i hw
    subst e4
    refine ⟨⟨F.ok, F.depth.trans h.depth, F.loops.trans h.loops, by rw [F.decls]; have := h.dl; omega, by rw [F.rules]; have := h.rl; omega, by rw [F.rules]; have := h.sz; omega, fun x => by simp [x] at hw⟩, by omega, F.decls⟩

theorem rulesR_mid {m : Nat} : ∀ (n : Nat) {st st' : PS}, Mid s st → rulesR s m n st = .ok () st' → Mid s st'
  | 0, _, _, _, e => by cases e
  | n + 1, st, st', h, e => by
    unfold rulesR at e
    split at e
    · rename_i hk
      obtain ⟨u, st1, e1, e2⟩ := bind_ok e
      exact rulesR_mid n (rule_mid h hk e1).1 e2
    · injection e with _ e
      subst e
      exact h

theorem start_mid (s : Bytes) (h : s.length ≤ 700) : Mid s (start s) := by
  have hl : left s (start s) ≤ 701 := by unfold left; omega
  refine ⟨start_ok s, rfl, rfl, by simpa [start] using hl, by simpa [start] using hl, by simpa [start, sizes] using hl, fun _ => ⟨⟨by simp [start], fun d hd => (by cases hd), by simp [start]⟩, rfl, ⟨fun x hx => (by cases hx), by simp [start]⟩⟩⟩

/-- What holds of a policy. -/
structure PolW (p : Policy) : Prop where
  decls : DeclsW p.decls
  freq : 0 ≤ p.freq ∧ p.freq ≤ 99
  rules : RulesW p.decls p.rules
  miss : (missOf p.rules).isSome
  size : sizes p.rules ≤ 700
  rl : p.rules.length ≤ 700

theorem read_W {p : Policy} (h : read s = .ok p) : PolW p := by
  unfold read at h
  split at h
  · cases h
  · rename_i h700
    split at h
    · cases h
    · rename_i t st e
      split at h
      · cases h
      · rename_i hw
        split at h
        · cases h
        · rename_i hm
          injection h with h
          subst h
          unfold readAll at e
          obtain ⟨u, st1, e1, e2⟩ := bind_ok e
          obtain ⟨u2, st2, e3, e4⟩ := bind_ok e2
          obtain ⟨a, b⟩ := declsR_mid 702 (start_mid s (by omega)) rfl e1
          have c := rulesR_mid 702 a e3
          obtain ⟨_, _, rfl⟩ := want_ok e4
          have f := Fwd.next c.ok
          obtain ⟨x, y, z⟩ := c.w (f.wrong hw)
          have hp := left_pos c.ok
          refine ⟨x, ?_, z, by simpa [Option.isSome_iff_ne_none] using hm, ?_, ?_⟩
          · show 0 ≤ st2.freq ∧ st2.freq ≤ 99
            unfold FreqW at y
            split at y <;> omega
          · have := c.sz; show sizes st2.rules ≤ 700; omega
          · have := c.rl; show st2.rules.length ≤ 700; omega
end
end Go.Proofs.YtemppijblfflgaaGreatDoor.Ev
namespace Go.Proofs.YtemppijblfflgaaGreatDoor.Ev

/-- Values and frequencies within their bounds. -/
structure SInv (p : Policy) (s : St) : Prop where
  q : s.q.length = p.decls.length
  v : s.vars.length = p.decls.length
  fr : ∀ (k : Nat) l, s.q[k]? = some l → ∀ e ∈ l, 0 ≤ e.freq ∧ e.freq ≤ p.freq
  vr : ∀ (k : Nat) (x : Int), s.vars[k]? = some x → 0 ≤ x ∧ x ≤ (declAt p.decls (k : Int)).max

/-- The steps over the arena: the arena, the values, what was evicted. -/
structure AR where
  A : Arena
  vars : List Int
  out : List Int

def alen (A : Arena) (q : Int) : Nat := A.len q.toNat
def afull (l : List Decl) (A : Arena) (q : Int) : Bool := decide ((declAt l q).max ≤ (alen A q : Int))

def alast (p : Policy) (key : Int) (x : Prim) (r : AR) : Except Nat AR :=
  match x with
  | .cool _ => .ok { r with A := r.A.tune key (-1) p.freq }
  | .evict q => .ok { r with A := r.A.out key, out := if resident p.decls q then r.out ++ [key] else r.out }
  | .shift q t tl =>
    if afull p.decls (r.A.out key) t then .error eFull
    else .ok { r with A := (r.A.out key).in_ key (r.A.outFreq key) t.toNat tl, out := if resident p.decls q && !resident p.decls t then r.out ++ [key] else r.out }
  | _ => .ok r

def aprim (p : Policy) (key : Int) (x : Prim) (r : AR) : Except Nat AR :=
  match x with
  | .put q t =>
    if afull p.decls (r.A.out key) q then .error eFull
    else .ok { r with A := (r.A.out key).in_ key (r.A.outFreq key) q.toNat t, out := if resident p.decls (r.A.where_ key) && !resident p.decls q then r.out ++ [key] else r.out }
  | .drop => .ok { r with A := r.A.out key, out := if resident p.decls (r.A.where_ key) then r.out ++ [key] else r.out }
  | .inc v => .ok { r with vars := r.vars.set v.toNat (clampUp ((r.vars[v.toNat]?).getD 0) 1 (declAt p.decls v).max) }
  | .dec v => .ok { r with vars := r.vars.set v.toNat (clampUp ((r.vars[v.toNat]?).getD 0) (-1) (declAt p.decls v).max) }
  | .bump => .ok { r with A := r.A.tune key 1 p.freq }
  | .cool q => if alen r.A q = 0 then .error eEmpty else alast p (r.A.tail q.toNat) (.cool q) r
  | .evict q => if alen r.A q = 0 then .error eEmpty else alast p (r.A.tail q.toNat) (.evict q) r
  | .shift q t tl => if alen r.A q = 0 then .error eEmpty else alast p (r.A.tail q.toNat) (.shift q t tl) r

section
variable {A : Arena} {ns : List (List Nat)} {p : Policy} {s : St}

theorem eraseIdx_mid {α : Type} (l1 l2 : List α) (x : α) : (l1 ++ x :: l2).eraseIdx l1.length = l1 ++ l2 := by
  rw [List.eraseIdx_append_of_length_le (Nat.le_refl _)]
  simp

theorem queue_toNat (s : St) (k : Int) : s.queue k = (s.q[k.toNat]?).getD [] := rfl
theorem queue_nat (s : St) (k : Nat) : s.queue (k : Int) = (s.q[k]?).getD [] := rfl

/-- A key leaves, if it is anywhere. -/
theorem out_st (h : AInv A ns s.q) (key : Int) :
    (∀ n, A.idx key = some n → ∃ q, A.CanUnlink n q) ∧ (A.out key).idx key = none ∧ (A.out key).qs.length = A.qs.length ∧
    match s.find key with
    | none => A.out key = A ∧ A.outFreq key = 0 ∧ A.where_ key = -1
    | some (k, i) => (∃ ns', AInv (A.out key) ns' (s.out k i).q) ∧ A.outFreq key = (entAt (s.queue k) i).freq ∧ (entAt (s.queue k) i).key = key ∧ A.where_ key = k ∧ (∃ l, s.q[k]? = some l ∧ i < l.length) := by
  have hfind : s.find key = (⟨s.q, s.vars⟩ : St).find key := rfl
  cases hi : A.idx key with
  | none =>
    have e : A.out key = A := by unfold Arena.out; rw [hi]
    rw [hfind, h.find_none hi s.vars, e]
    exact ⟨fun n hn => (by cases hn), hi, rfl, rfl, by unfold Arena.outFreq; rw [hi], by unfold Arena.where_; rw [hi]⟩
  | some n =>
    obtain ⟨k, l1, l2, a, b, c, d⟩ := h.find_some hi s.vars
    obtain ⟨x1, x2, x3⟩ := h.outAt hi a
    have e : A.out key = A.outAt key n := by unfold Arena.out; rw [hi]
    have hq : s.queue (k : Int) = (l1 ++ n :: l2).map (entOf A) := by rw [queue_nat, h.at_q a]; rfl
    rw [hfind, b, e]
    refine ⟨fun m hm => (by injection hm with hm; subst hm; exact ⟨k, x2⟩), ?_, ?_, ?_⟩
    · have := idx_erase h.atn key key
      rw [if_pos rfl] at this
      exact this
    · rw [← x1.len, List.length_set, h.len]
    · refine ⟨⟨ns.set k (l1 ++ l2), ?_⟩, ?_, ?_, ?_, ⟨_, h.at_q a, by simp⟩⟩
      · have e2 : (s.out k l1.length).q = s.q.set k ((l1 ++ l2).map (entOf A)) := by
          unfold St.out
          simp only
          rw [h.at_q a]
          simp only [Option.getD_some]
          congr 1
          have := eraseIdx_mid (l1.map (entOf A)) (l2.map (entOf A)) (entOf A n)
          simpa using this
        rw [e2]
        exact x1
      · rw [hq, entAt_map]
        unfold Arena.outFreq
        rw [hi]
        exact x3
      · rw [hq, entAt_map]; exact c
      · unfold Arena.where_; rw [hi]; exact d

theorem in_st (h : AInv A ns s.q) {key f q : Int} (t : Bool) (hi : A.idx key = none) (hq : Ix s.q.length q) (hf : 0 ≤ f ∧ f ≤ 1000) (h50 : (s.queue q).length + 1 ≤ 50) :
    A.CanIn key f q.toNat ∧ ∃ ns', AInv (A.in_ key f q.toNat t) ns' (s.setQueue q (if t then s.queue q ++ [⟨key, f⟩] else ⟨key, f⟩ :: s.queue q)).q := by
  obtain ⟨l, hl⟩ := h.get (k := q.toNat) (by rw [← h.qlen]; unfold Ix at hq; omega)
  have e : s.queue q = l.map (entOf A) := by rw [queue_toNat, h.at_q hl]; rfl
  rw [e] at h50 ⊢
  obtain ⟨a, b⟩ := h.in_ t hi hl hf (by simpa using h50)
  exact ⟨a, _, b⟩

theorem alen_st (h : AInv A ns s.q) {q : Int} (hq : Ix s.q.length q) : alen A q = (s.queue q).length := by
  unfold alen
  have := h.len_ s.vars (k := q.toNat) (by rw [← h.qlen]; unfold Ix at hq; omega)
  rw [this]
  unfold Ix at hq
  have e : ((q.toNat : Nat) : Int) = q := by omega
  rw [e]
end

theorem set_self {α : Type} {l : List α} {k : Nat} {x : α} (h : l[k]? = some x) : l.set k x = l := by
  apply List.ext_getElem?
  intro j
  rw [List.getElem?_set]
  split
  · rename_i e; subst e
    split
    · exact h.symm
    · rw [List.getElem?_eq_none (by omega)]
  · rfl

section
variable {A : Arena} {ns : List (List Nat)} {p : Policy} {s : St}
/-- A frequency goes up or down by one. -/
theorem tune_st (h : AInv A ns s.q) (key by_ most : Int) (hm : 0 ≤ most ∧ most ≤ 99) (hfr : ∀ (k : Nat) l, s.q[k]? = some l → ∀ e ∈ l, 0 ≤ e.freq ∧ e.freq ≤ most) (hb : by_ = 1 ∨ by_ = -1) :
    match s.find key with
    | none => A.tune key by_ most = A
    | some (k, i) => ∃ l, s.q[k]? = some l ∧ i < l.length ∧ ∃ ns', AInv (A.tune key by_ most) ns' (s.q.set k (setFreq l i (clampUp (entAt l i).freq by_ most))) := by
  have hfind : s.find key = (⟨s.q, s.vars⟩ : St).find key := rfl
  cases hi : A.idx key with
  | none =>
    rw [hfind, h.find_none hi s.vars]
    unfold Arena.tune
    rw [hi]
  | some n =>
    obtain ⟨k, l1, l2, a, b, c, d⟩ := h.find_some hi s.vars
    rw [hfind, b]
    refine ⟨_, h.at_q a, by simp, ns, ?_⟩
    have e : A.tune key by_ most = A.setNode n { (A.node n) with freq := clampUp (A.node n).freq by_ most } := by unfold Arena.tune; rw [hi]
    rw [e]
    have hf := hfr k _ (h.at_q a) (entOf A n) (by simp)
    have hf' : 0 ≤ (A.node n).freq ∧ (A.node n).freq ≤ most := hf
    have := h.setFreq (clampUp (A.node n).freq by_ most) a (by unfold clampUp; omega)
    unfold setFreq
    rw [entAt_map]
    exact this

theorem max_le (hp : PolW p) {q : Int} (hq : Ix p.decls.length q) : 1 ≤ (declAt p.decls q).max ∧ (declAt p.decls q).max ≤ 99 ∧ ((declAt p.decls q).kind ≠ 2 → (declAt p.decls q).max ≤ 50) := by
  unfold Ix at hq
  have hl : q.toNat < p.decls.length := by omega
  have hd := hp.decls.each _ (List.getElem_mem hl)
  have e : declAt p.decls q = p.decls[q.toNat] := by unfold declAt; rw [List.getElem?_eq_getElem hl]; rfl
  rw [e]
  have := hd.hi
  refine ⟨hd.lo, ?_, fun h => ?_⟩
  · split at this <;> omega
  · rw [if_neg h] at this; exact this

theorem SInv.set_queue (hs : SInv p s) {k : Nat} {l : List Ent} (hl : ∀ e ∈ l, 0 ≤ e.freq ∧ e.freq ≤ p.freq) : SInv p { s with q := s.q.set k l } := by
  refine ⟨by simpa using hs.q, hs.v, fun j m hj e he => ?_, hs.vr⟩
  rcases set_get hj with ⟨_, _, rfl⟩ | ⟨_, hj'⟩
  · exact hl e he
  · exact hs.fr j m hj' e he

theorem SInv.queue (hs : SInv p s) (k : Int) : ∀ e ∈ s.queue k, 0 ≤ e.freq ∧ e.freq ≤ p.freq := by
  intro e he
  rw [queue_toNat] at he
  cases hq : s.q[k.toNat]? with
  | none => rw [hq] at he; cases he
  | some l => rw [hq] at he; exact hs.fr _ _ hq e he

theorem SInv.out (hs : SInv p s) (k i : Nat) : SInv p (s.out k i) := by
  unfold St.out
  refine hs.set_queue (fun e he => ?_)
  have := List.mem_of_mem_eraseIdx he
  exact hs.queue k e (by rw [queue_nat]; exact this)

theorem entAt_mem {l : List Ent} {i : Nat} (h : i < l.length) : entAt l i ∈ l := by
  unfold entAt
  rw [List.getElem?_eq_getElem h]
  exact List.getElem_mem h

theorem ent_eta (e : Ent) {key f : Int} (h1 : e.key = key) (h2 : e.freq = f) : e = ⟨key, f⟩ := by
  cases e; simp at h1 h2; subst h1 h2; rfl

theorem dropLast_eraseIdx {α : Type} (l : List α) : l.eraseIdx (l.length - 1) = l.dropLast := by
  rcases List.eq_nil_or_concat l with h | ⟨l0, a, h⟩
  · subst h; rfl
  · rw [List.concat_eq_append] at h
    subst h
    have := eraseIdx_mid l0 [] a
    simpa using this

theorem leaves_eq (l : List Decl) (f key : Int) (r : Run) : Run.leaves l f key r = ⟨r.s, if resident l f then r.gone ++ [key] else r.gone⟩ := by
  unfold Run.leaves; split <;> rfl

/-- What 'comes' does, in the arena's words: of a key that is nowhere. -/
theorem comes_st (h : AInv A ns s.q) (hs : SInv p s) (hp : PolW p) {key f q from_ : Int} (t : Bool) (out : List Int) (hi : A.idx key = none) (hq : Ix p.decls.length q) (hqq : (declAt p.decls q).kind ≠ 2) (hf : 0 ≤ f ∧ f ≤ p.freq) :
    afull p.decls A q = decide ((declAt p.decls q).max ≤ ((s.queue q).length : Int)) ∧
    (comes p.decls ⟨key, f⟩ from_ q t ⟨s, out⟩ = .error eFull ∧ afull p.decls A q = true ∨
     ∃ r', comes p.decls ⟨key, f⟩ from_ q t ⟨s, out⟩ = .ok r' ∧ afull p.decls A q = false ∧ r'.gone = (if resident p.decls from_ && !resident p.decls q then out ++ [key] else out) ∧ r'.s.vars = s.vars ∧
       A.CanIn key f q.toNat ∧ (∃ ns', AInv (A.in_ key f q.toNat t) ns' r'.s.q) ∧ SInv p r'.s) := by
  have hq' : Ix s.q.length q := by rw [hs.q]; exact hq
  have e : afull p.decls A q = decide ((declAt p.decls q).max ≤ ((s.queue q).length : Int)) := by unfold afull; rw [alen_st h hq']
  refine ⟨e, ?_⟩
  obtain ⟨m1, m2, m3⟩ := max_le hp hq
  have m3 := m3 hqq
  have hfq := hp.freq
  unfold comes
  by_cases hfull : (declAt p.decls q).max ≤ ((s.queue q).length : Int)
  · left
    rw [if_pos hfull, e]
    exact ⟨rfl, by simpa using hfull⟩
  · right
    rw [if_neg hfull, e]
    obtain ⟨a, b⟩ := in_st h t hi hq' ⟨hf.1, by omega⟩ (by omega)
    have hmem : ∀ x ∈ (if t then s.queue q ++ [⟨key, f⟩] else ⟨key, f⟩ :: s.queue q), 0 ≤ x.freq ∧ x.freq ≤ p.freq := by
      intro x hx
      have : x ∈ s.queue q ∨ x = ⟨key, f⟩ := by
        cases t
        · simp at hx; exact hx.elim .inr .inl
        · simp at hx; exact hx
      rcases this with h1 | h1
      · exact hs.queue q x h1
      · subst h1; exact hf
    have hS : SInv p (s.setQueue q (if t then s.queue q ++ [⟨key, f⟩] else ⟨key, f⟩ :: s.queue q)) := hs.set_queue hmem
    refine ⟨_, rfl, by simpa using hfull, ?_, ?_, a, ?_, ?_⟩
    · cases hr : resident p.decls q with
      | true => simp
      | false => simp [leaves_eq]
    · simp only [leaves_eq]; split <;> rfl
    · simp only [leaves_eq]; split <;> exact b
    · simp only [leaves_eq]; split <;> exact hS

theorem var_some (hs : SInv p s) {v : Int} (hv : Ix p.decls.length v) : ∃ x, s.vars[v.toNat]? = some x ∧ s.var v = x ∧ 0 ≤ x ∧ x ≤ (declAt p.decls v).max := by
  have hl : v.toNat < s.vars.length := by rw [hs.v]; unfold Ix at hv; omega
  have h1 := List.getElem?_eq_getElem hl
  have h2 := hs.vr _ _ h1
  have e : ((v.toNat : Nat) : Int) = v := by unfold Ix at hv; omega
  rw [e] at h2
  exact ⟨_, h1, by unfold St.var; rw [h1]; rfl, h2⟩

theorem SInv.set_var (hs : SInv p s) {v x : Int} (hv : Ix p.decls.length v) (hx : 0 ≤ x ∧ x ≤ (declAt p.decls v).max) : SInv p { s with vars := s.vars.set v.toNat x } := by
  refine ⟨hs.q, by simpa using hs.v, hs.fr, fun j y hj => ?_⟩
  rcases set_get hj with ⟨rfl, _, rfl⟩ | ⟨_, hj'⟩
  · have e : ((v.toNat : Nat) : Int) = v := by unfold Ix at hv; omega
    rw [e]; exact hx
  · exact hs.vr j y hj'

/-- The steps do what the tree's words say. -/
theorem prim_st (h : AInv A ns s.q) (hs : SInv p s) (hp : PolW p) (key : Int) (x : Prim) (hx : PrimOk p.decls x) (out : List Int) :
    match prim p key x ⟨s, out⟩ with
    | .error e => aprim p key x ⟨A, s.vars, out⟩ = .error e
    | .ok r' => ∃ A' ns', aprim p key x ⟨A, s.vars, out⟩ = .ok ⟨A', r'.s.vars, r'.gone⟩ ∧ AInv A' ns' r'.s.q ∧ SInv p r'.s := by
  have hfq := hp.freq
  cases x with
  | put q t =>
    obtain ⟨_, o2, o3, o4⟩ := out_st h key
    unfold prim aprim
    dsimp only
    cases hfd : s.find key with
    | none =>
      rw [hfd] at o4
      obtain ⟨e1, e2, e3⟩ := o4
      rw [e1] at o2 ⊢
      rw [e2, e3]
      obtain ⟨_, c⟩ := comes_st (from_ := -1) h hs hp t out o2 hx.1 hx.2 ⟨Int.le_refl 0, hfq.1⟩
      rcases c with ⟨c1, c2⟩ | ⟨r', c1, c2, c3, c4, c5, ⟨ns', c6⟩, c7⟩
      · simp only [c1, c2, if_true]
      · simp only [c1, c2, Bool.false_eq_true, if_false]
        exact ⟨_, ns', by rw [c3, c4], c6, c7⟩
    | some ki =>
      obtain ⟨k, i⟩ := ki
      dsimp only
      rw [hfd] at o4
      obtain ⟨⟨ns1, e0⟩, e2, e3, e4, l, e5, e6⟩ := o4
      have hm : entAt (s.queue (k : Int)) i ∈ s.queue (k : Int) := entAt_mem (by rw [queue_nat, e5]; exact e6)
      have hfr := hs.queue (k : Int) _ hm
      rw [← e2] at hfr
      rw [ent_eta _ e3 e2.symm, e4]
      obtain ⟨_, c⟩ := comes_st (s := s.out k i) (from_ := k) e0 (hs.out k i) hp t out o2 hx.1 hx.2 hfr
      rcases c with ⟨c1, c2⟩ | ⟨r', c1, c2, c3, c4, c5, ⟨ns', c6⟩, c7⟩
      · simp only [c1, c2, if_true]
      · simp only [c1, c2, Bool.false_eq_true, if_false]
        exact ⟨_, ns', by rw [c3, c4]; rfl, c6, c7⟩
  | drop =>
    obtain ⟨_, o2, o3, o4⟩ := out_st h key
    unfold prim aprim
    dsimp only
    cases hfd : s.find key with
    | none =>
      rw [hfd] at o4
      obtain ⟨e1, e2, e3⟩ := o4
      rw [e1, e3]
      exact ⟨A, ns, rfl, h, hs⟩
    | some ki =>
      obtain ⟨k, i⟩ := ki
      dsimp only
      rw [hfd] at o4
      obtain ⟨⟨ns1, e0⟩, e2, e3, e4, _⟩ := o4
      rw [e4]
      simp only [leaves_eq]
      exact ⟨_, ns1, rfl, e0, hs.out k i⟩
  | inc v =>
    obtain ⟨y, y1, y2, y3, y4⟩ := var_some hs hx
    unfold prim aprim
    dsimp only
    simp only [y1, y2, Option.getD_some]
    have e : clampUp y 1 (declAt p.decls v).max = if y < (declAt p.decls v).max then y + 1 else y := by unfold clampUp; split <;> omega
    rw [e]
    split
    · exact ⟨A, ns, rfl, h, hs.set_var hx (by omega)⟩
    · rw [set_self y1]; exact ⟨A, ns, rfl, h, hs⟩
  | dec v =>
    obtain ⟨y, y1, y2, y3, y4⟩ := var_some hs hx
    unfold prim aprim
    dsimp only
    simp only [y1, y2, Option.getD_some]
    have e : clampUp y (-1) (declAt p.decls v).max = if 0 < y then y - 1 else y := by unfold clampUp; split <;> omega
    rw [e]
    split
    · exact ⟨A, ns, rfl, h, hs.set_var hx (by omega)⟩
    · rw [set_self y1]; exact ⟨A, ns, rfl, h, hs⟩
  | bump =>
    have tt := tune_st h key 1 p.freq hfq hs.fr (.inl rfl)
    unfold prim aprim
    dsimp only
    cases hfd : s.find key with
    | none => rw [hfd] at tt; rw [tt]; exact ⟨A, ns, rfl, h, hs⟩
    | some ki =>
      obtain ⟨k, i⟩ := ki
      dsimp only
      rw [hfd] at tt
      obtain ⟨l, t1, t2, ns', t3⟩ := tt
      have hq : s.queue (k : Int) = l := by rw [queue_nat, t1]; rfl
      simp only [hq]
      have hfr := hs.fr k l t1 _ (entAt_mem t2)
      have e : clampUp (entAt l i).freq 1 p.freq = if (entAt l i).freq < p.freq then (entAt l i).freq + 1 else (entAt l i).freq := by unfold clampUp; split <;> omega
      rw [e] at t3
      split
      · rename_i hlt
        rw [if_pos hlt] at t3
        refine ⟨_, ns', rfl, t3, hs.set_queue (fun x hx => ?_)⟩
        rcases List.mem_or_eq_of_mem_set hx with hx | rfl
        · exact hs.fr k l t1 x hx
        · simp; omega
      · rename_i hlt
        rw [if_neg hlt] at t3
        have e2 : setFreq l i (entAt l i).freq = l := by unfold setFreq; exact set_self (by unfold entAt; rw [List.getElem?_eq_getElem t2]; rfl)
        rw [e2, set_self t1] at t3
        exact ⟨_, ns', rfl, t3, hs⟩
  | cool q =>
    have hq' : Ix s.q.length q := by rw [hs.q]; exact hx
    unfold prim aprim
    dsimp only
    rw [alen_st h hq']
    by_cases hne : s.queue q = []
    · simp [hne]
    · have hl0 : (s.queue q).length ≠ 0 := fun e => hne (List.length_eq_zero_iff.1 e)
      rw [if_neg hne, if_neg hl0]
      have eq : ((q.toNat : Nat) : Int) = q := by have hx' : Ix p.decls.length q := hx; unfold Ix at hx'; omega
      have hk : q.toNat < A.qs.length := by rw [← h.qlen]; unfold Ix at hq'; omega
      have hne' : (⟨s.q, s.vars⟩ : St).queue (q.toNat : Int) ≠ [] := by rw [eq]; exact hne
      have htl := h.tail_ s.vars hk hne'
      have hft := h.find_tail s.vars hk hne'
      rw [eq] at htl hft
      have htl' : A.tail q.toNat = (lastEnt (s.queue q)).key := htl
      have hft' : s.find (lastEnt (s.queue q)).key = some (q.toNat, (s.queue q).length - 1) := hft
      have tt := tune_st h (lastEnt (s.queue q)).key (-1) p.freq hfq hs.fr (.inr rfl)
      rw [hft'] at tt
      obtain ⟨l, t1, t2, ns', t3⟩ := tt
      have hq : s.queue q = l := by rw [queue_toNat, t1]; rfl
      rw [htl']
      unfold alast
      simp only [hq] at *
      have hfr := hs.fr _ l t1 _ (entAt_mem t2)
      have e : clampUp (entAt l (l.length - 1)).freq (-1) p.freq = if 0 < (entAt l (l.length - 1)).freq then (entAt l (l.length - 1)).freq - 1 else (entAt l (l.length - 1)).freq := by unfold clampUp; split <;> omega
      rw [e] at t3
      have el : lastEnt l = entAt l (l.length - 1) := rfl
      split
      · rename_i hlt
        rw [el] at hlt
        rw [if_pos hlt] at t3
        refine ⟨_, ns', rfl, t3, hs.set_queue (fun x hx => ?_)⟩
        rcases List.mem_or_eq_of_mem_set hx with hx | rfl
        · exact hs.fr _ l t1 x hx
        · simp [el]; omega
      · rename_i hlt
        rw [el] at hlt
        rw [if_neg hlt] at t3
        have e2 : setFreq l (l.length - 1) (entAt l (l.length - 1)).freq = l := by unfold setFreq; exact set_self (by unfold entAt; rw [List.getElem?_eq_getElem t2]; rfl)
        rw [e2, set_self t1] at t3
        exact ⟨_, ns', rfl, t3, hs⟩
  | evict q =>
    have hq' : Ix s.q.length q := by rw [hs.q]; exact hx
    unfold prim aprim
    dsimp only
    rw [alen_st h hq']
    by_cases hne : s.queue q = []
    · simp [hne]
    · have hl0 : (s.queue q).length ≠ 0 := fun e => hne (List.length_eq_zero_iff.1 e)
      rw [if_neg hne, if_neg hl0]
      have eq : ((q.toNat : Nat) : Int) = q := by have hx' : Ix p.decls.length q := hx; unfold Ix at hx'; omega
      have hk : q.toNat < A.qs.length := by rw [← h.qlen]; unfold Ix at hq'; omega
      have hne' : (⟨s.q, s.vars⟩ : St).queue (q.toNat : Int) ≠ [] := by rw [eq]; exact hne
      have htl := h.tail_ s.vars hk hne'
      have hft := h.find_tail s.vars hk hne'
      rw [eq] at htl hft
      have htl' : A.tail q.toNat = (lastEnt (s.queue q)).key := htl
      have hft' : s.find (lastEnt (s.queue q)).key = some (q.toNat, (s.queue q).length - 1) := hft
      obtain ⟨_, o2, o3, o4⟩ := out_st h (lastEnt (s.queue q)).key
      rw [hft'] at o4
      obtain ⟨⟨ns1, e0⟩, e2, e3, e4, _⟩ := o4
      have eo : s.out q.toNat ((s.queue q).length - 1) = s.setQueue q (s.queue q).dropLast := by
        unfold St.out St.setQueue
        rw [← dropLast_eraseIdx]
        rfl
      rw [eo] at e0
      rw [htl']
      unfold alast
      simp only [leaves_eq]
      exact ⟨_, ns1, rfl, e0, by rw [← eo]; exact hs.out _ _⟩
  | shift q t tl =>
    have hq' : Ix s.q.length q := by rw [hs.q]; exact hx.1
    have hx1 := hx.1
    unfold prim aprim
    dsimp only
    rw [alen_st h hq']
    by_cases hne : s.queue q = []
    · simp [hne]
    · have hl0 : (s.queue q).length ≠ 0 := fun e => hne (List.length_eq_zero_iff.1 e)
      rw [if_neg hne, if_neg hl0]
      have eq : ((q.toNat : Nat) : Int) = q := by unfold Ix at hx1; omega
      have hk : q.toNat < A.qs.length := by rw [← h.qlen]; unfold Ix at hq'; omega
      have hne' : (⟨s.q, s.vars⟩ : St).queue (q.toNat : Int) ≠ [] := by rw [eq]; exact hne
      have htl := h.tail_ s.vars hk hne'
      have hft := h.find_tail s.vars hk hne'
      rw [eq] at htl hft
      have htl' : A.tail q.toNat = (lastEnt (s.queue q)).key := htl
      have hft' : s.find (lastEnt (s.queue q)).key = some (q.toNat, (s.queue q).length - 1) := hft
      obtain ⟨_, o2, o3, o4⟩ := out_st h (lastEnt (s.queue q)).key
      rw [hft'] at o4
      obtain ⟨⟨ns1, e0⟩, e2, e3, e4, _⟩ := o4
      have eo : s.out q.toNat ((s.queue q).length - 1) = s.setQueue q (s.queue q).dropLast := by
        unfold St.out St.setQueue
        rw [← dropLast_eraseIdx]
        rfl
      have hs1 : SInv p (s.setQueue q (s.queue q).dropLast) := by rw [← eo]; exact hs.out _ _
      rw [eo] at e0
      rw [eq] at e2 e3
      have hm : lastEnt (s.queue q) ∈ s.queue q := entAt_mem (by omega)
      have hfr := hs.queue q _ hm
      have e2' : A.outFreq (lastEnt (s.queue q)).key = (lastEnt (s.queue q)).freq := e2
      rw [htl']
      unfold alast
      rw [e2']
      obtain ⟨_, c⟩ := comes_st (s := s.setQueue q (s.queue q).dropLast) (from_ := q) e0 hs1 hp tl out o2 hx.2.1 hx.2.2 hfr
      have ee : (⟨(lastEnt (s.queue q)).key, (lastEnt (s.queue q)).freq⟩ : Ent) = lastEnt (s.queue q) := rfl
      rw [ee] at c
      rcases c with ⟨c1, c2⟩ | ⟨r', c1, c2, c3, c4, c5, ⟨ns', c6⟩, c7⟩
      · simp only [c1, c2, if_true]
      · simp only [c1, c2, Bool.false_eq_true, if_false]
        exact ⟨_, ns', by rw [c3, c4]; rfl, c6, c7⟩
end
end Go.Proofs.YtemppijblfflgaaGreatDoor.Ev
namespace Go.Proofs.YtemppijblfflgaaGreatDoor.Ev

/-- The counts behind a call of Access. -/
def cntUp (c : Cnt) (hit : Bool) (n : Nat) : Cnt := ⟨c.hits + (if hit then 1 else 0), c.misses + (if hit then 0 else 1), c.evicted + n⟩

theorem most_le {l : List Decl} : ∀ (b : Blk) (k : Nat), BlkW l b → b.nest ≤ k → b.most ≤ 50 ^ k * b.size
  | .nil, k, _, _ => Nat.zero_le _
  | .prim x r, k, h, hn => by
    have h1 := most_le r k h.2 hn
    have h2 : 1 ≤ 50 ^ k := Nat.one_le_pow _ _ (by omega)
    simp only [Blk.most, Blk.size, Nat.mul_add, Nat.mul_one]
    omega
  | .ite c t o e r, k, h, hn => by
    simp only [Blk.nest] at hn
    have h1 := most_le t k h.2.1 (by omega)
    have h2 := most_le e k h.2.2.1 (by omega)
    have h3 := most_le r k h.2.2.2 (by omega)
    simp only [Blk.most, Blk.size, Nat.mul_add]
    omega
  | .rep n c b r, 0, h, hn => by
    simp only [Blk.nest] at hn
    omega
  | .rep n c b r, k + 1, h, hn => by
    simp only [Blk.nest] at hn
    have h1 := most_le b k h.2.1 (by omega)
    have h3 := most_le r (k + 1) h.2.2.1 (by omega)
    have h4 := h.2.2.2
    have h5 : n.toNat * b.most ≤ 50 * (50 ^ k * b.size) := Nat.mul_le_mul (by omega) h1
    have e : 50 ^ (k + 1) * b.size = 50 * (50 ^ k * b.size) := by rw [Nat.pow_succ, Nat.mul_comm (50 ^ k) 50, Nat.mul_assoc]
    simp only [Blk.most, Blk.size, Nat.mul_add]
    omega

theorem ruleOf_memW {r : List (Int × Blk)} {k : Int} {b : Blk} (h : ruleOf r k = some b) : (k, b) ∈ r := by
  unfold ruleOf at h
  rw [Option.map_eq_some_iff] at h
  obtain ⟨x, hx, rfl⟩ := h
  have h1 := List.find?_some hx
  have h2 := List.mem_of_find?_eq_some hx
  have h3 : x.1 = k := by simpa using h1
  rw [← h3]
  exact h2

theorem sizes_ge : ∀ {l : List (Int × Blk)} {x : Int × Blk}, x ∈ l → x.2.size ≤ sizes l
  | [], x, h => by cases h
  | y :: l, x, h => by
    have e : sizes (y :: l) = y.2.size + sizes l := by simp [sizes]
    rcases List.mem_cons.1 h with rfl | h
    · omega
    · have := sizes_ge h; omega

theorem rule_most {p : Policy} (hp : PolW p) {k : Int} {b : Blk} (h : ruleOf p.rules k = some b) : b.most ≤ 1750000 := by
  have hm := ruleOf_memW h
  have hW := hp.rules.each _ hm
  have h1 := most_le b 2 hW.w hW.nest
  have h2 : b.size ≤ sizes p.rules := sizes_ge (x := (k, b)) hm
  have h3 := hp.size
  have h4 : (50 : Nat) ^ 2 * b.size ≤ 2500 * 700 := Nat.mul_le_mul (by decide) (by omega)
  omega

theorem rule_ok {p : Policy} (hp : PolW p) {k : Int} {b : Blk} (h : ruleOf p.rules k = some b) : BlkOk p.decls b := by
  have hW := hp.rules.each _ (ruleOf_memW h)
  exact BlkW.ok b hW.w hW.form
end Go.Proofs.YtemppijblfflgaaGreatDoor.Ev
