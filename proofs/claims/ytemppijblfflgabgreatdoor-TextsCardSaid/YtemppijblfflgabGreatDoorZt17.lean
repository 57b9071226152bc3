/- What a row's list of variables gives a walk: one at a time, out of the midst of the list. After the library's LaidTwo, LaidTab. Over any program. What a row's list gives this claim's walks: the errors and the words, where they lie. A law's frame: its arguments read as they did; a world in which the listed variables hold what they are laid as. A law's frame over a script: its argument opened; the words and the table as a law finds them. The law's world: a step where there is no engine; a step of no kind. The law's world: a fresh list in hand; an engine has turned on both sides. Conditions: none. -/
import Derived.Stop.LaidErr
import Derived.Lib.LaidTab
import Derived.LaidHandle
import Derived.LaidLaws
import Derived.Test.YtemppijblfflgabGreatDoorRows
import Derived.Test.YtemppijblfflgabGreatDoorCards
import Derived.Test.YtemppijblfflgabGreatDoorTie
import Derived.ProofKit
import Derived.OpenShut
import Derived.Carry
import Derived.Deep.DeepHandedRow
import Derived.Deep.DeepWitnessRowRef
import Derived.Lib.LaidIn
import Derived.Deep.Slices
import Derived.SizedLaws
import Derived.SliceStrings
import Derived.Test.YtemppijblfflgabGreatDoorZt02
import Derived.Test.YtemppijblfflgabGreatDoorZt10
import Derived.Test.YtemppijblfflgabGreatDoorZt15
import Derived.Test.YtemppijblfflgabGreatDoorZt16
set_option linter.all false
namespace Go.Proofs.YtemppijblfflgabGreatDoor.Ev
open Go Go.RowKit

theorem laidVars_mem {P : Program} {w : World} {n : String} {d : DataW Unit} : ∀ {l : List (String × DataW Unit)} {ps : List MemPlace}, DataW.LaidVars P w l ps → (n, d) ∈ l →
    ∃ g t cs fuel p, P.globalNamed n = some g ∧ (P.globals[g]?).map (·.type) = some t ∧ w.var? P n = some cs ∧ DataW.trod (fun _ => ()) P w 0 (fun _ => true) false fuel t cs.toList = some (d, p) ∧
      (∀ x ∈ MemPlace.row ⟨g, 0, none⟩ cs.size, x ∈ ps) ∧ ∀ x ∈ p, x ∈ ps
  | [], _, _, h => by cases h
  | (n', d') :: l, ps, h, hm => by
    obtain ⟨g, t, cs, fuel, p, q, h1, h2, h3, h4, h5, rfl⟩ := h
    rcases List.mem_cons.1 hm with e | hm
    · injection e with e1 e2
      subst e1 e2
      exact ⟨g, t, cs, fuel, p, h1, h2, h3, h4, fun x hx => List.mem_append_left _ (List.mem_append_left _ hx), fun x hx => List.mem_append_left _ (List.mem_append_right _ hx)⟩
    · obtain ⟨g', t', cs', fuel', p', a, b, c, d, e, f⟩ := laidVars_mem h5 hm
      exact ⟨g', t', cs', fuel', p', a, b, c, d, fun x hx => List.mem_append_right _ (e x hx), fun x hx => List.mem_append_right _ (f x hx)⟩

/-- The parts of the row's condition: no handles, handles. -/
theorem laidMetH_split {P : Program} {l : List (String × DataW Unit)} {W : World} (h : laidMetH P l W) {n0 : String} {d0 : DataW Unit} (h0 : (n0, d0) ∈ l) (hh : d0.handleName?.isSome = true) :
    laidMet P (l.filter fun x => x.2.handleName?.isNone) W ∧ handlesMet P (l.filter fun x => x.2.handleName?.isSome) W := by
  unfold laidMetH at h
  have hm : (n0, d0) ∈ l.filter fun x => x.2.handleName?.isSome := List.mem_filter.2 ⟨h0, hh⟩
  split at h
  · rename_i e
    rw [e] at hm
    cases hm
  · rename_i a b e
    rw [e]
    exact h

/-- A sentinel: its variable holds a pointer to a block that holds its text. -/
theorem sentinel_mem {P : Program} {n nm : String} {text : List UInt8} {l : List (String × DataW Unit)} {W : World} {g : Nat} {ti tp te ts : TypeId} {ms : Array (String × TypeId)} {f : Field}
    (h : laidMet P l W) (hmem : (n, DataW.iface nm (.ptr (.agg [.lit (.string text)]))) ∈ l)
    (hg : P.globalNamed n = some g) (ht : (P.globals[g]?).map (·.type) = some ti)
    (hi : P.underlying ti = some (.interface ms)) (hrow : ∀ u, P.typeName? 3 u = some nm → u = tp)
    (hp : P.underlying tp = some (.pointer te)) (he : P.underlying te = some (.struct #[f])) (hft : f.type = ts) (hfo : f.offset = 0) (hs : P.underlying ts = some .string) (hc : P.cellsOf te = 1) (hcs : P.cellsOf ts = 1) :
    ∃ (a : Addr) (s : ByteArray), W.cell? ⟨g, 0, none⟩ = some (.iface tp (.pointer (some a))) ∧ W.cell? a = some (.string s) ∧ s.data.toList = text ∧ ∃ (c : Array Value) (t : TypeId), W.heap[a.block]? = some (.cells c t (0, 0)) := by
  obtain ⟨ps, hv, hnd, hrows⟩ := h
  obtain ⟨g', t', cs, fuel, p, h1, h2, h3, h4, h5, h6⟩ := laidVars_mem hv hmem
  obtain rfl := Option.some.inj (hg.symm.trans h1)
  obtain rfl := Option.some.inj (ht.symm.trans h2)
  obtain ⟨l0⟩ := cs
  have ok0 : ∀ u v, l0 = [.iface u v] → Value.okWide P W .any 0 u v := fun u v e => by
    subst e
    exact (hrows g 0 (h5 _ (by simp [MemPlace.row]))).2 u v (by simpa using World.var?_cell h1 h3 0)
  obtain ⟨a, s, rfl, hc0, hs0, hz0, rfl⟩ := errorString_of_trod hi hrow hp he hft hfo hs hc hcs h4 ok0
  refine ⟨a, s, by simpa using World.var?_cell h1 h3 0, hc0, hs0, ?_⟩
  exact (hrows a.block a.off (h6 _ (by simp [MemPlace.row]))).1

def strData (l : List Bytes) : DataW Unit := .agg (l.map fun s => .lit (.string s))

theorem cells_of_strs {H : Type} {enc : TypeId × Value → H} {P : Program} {w : World} {base : Nat} {sp : Nat → Bool} {held : Bool} {fuel : Nat} {t e : TypeId} {n : Nat} {cs : List Value} {zs : List Bytes} {p : List MemPlace}
    (ht : P.underlying t = some (.array n e)) (he : P.underlying e = some .string) (hce : P.cellsOf e = 1) (hct : P.cellsOf t = n)
    (h : DataW.trod enc P w base sp held fuel t cs = some (.agg (zs.map fun s => .lit (.string s)), p)) : cs = zs.map vs := by
  cases fuel with
  | zero => simp [DataW.trod] at h
  | succ fuel =>
    simp only [DataW.trod, ht, hce, hct, Nat.mul_one] at h
    split at h
    · rename_i hl
      obtain ⟨xs, hm, hx⟩ := Option.map_eq_some_iff.1 h
      have hxs : xs.map (·.1) = zs.map fun z => (DataW.lit (.string z) : DataW H) := by
        have := congrArg Prod.fst hx
        simpa using this
      have hxl : xs.length = n := by simpa using Lib.mapM_length hm
      have hzl : zs.length = n := by
        have := congrArg List.length hxs
        simp at this
        omega
      apply List.ext_getElem?
      intro i
      by_cases hi : i < n
      · obtain ⟨b, hb, hf⟩ := Lib.mapM_at hm i i (by simp [hi])
        obtain ⟨z, hc, rfl, _⟩ := DataW.trod_string he hf
        have h1 : cs[i]? = some (.string z) := by
          have := congrArg (·[0]?) hc
          simpa [List.getElem?_take, List.getElem?_drop] using this
        have h2 : (xs.map (·.1))[i]? = some (DataW.lit (.string z.data.toList) : DataW H) := by simp [hb]
        rw [hxs] at h2
        simp only [List.getElem?_map, Option.map_eq_some_iff, DataW.lit.injEq, Lit.string.injEq] at h2
        obtain ⟨z', hz', e⟩ := h2
        have e2 : vs z' = .string z := by
          rw [e]
        rw [h1, List.getElem?_map, hz', Option.map_some, e2]
      · rw [List.getElem?_eq_none (by omega), List.getElem?_eq_none (by simp; omega)]
    · cases h

/-- An array of texts: what a walk reads at place i. -/
theorem strs_mem {P : Program} {n : String} {zs : List Bytes} {l : List (String × DataW Unit)} {W : World} {g : Nat} {t e : TypeId} {m : Nat}
    (h : laidMet P l W) (hmem : (n, strData zs) ∈ l) (hg : P.globalNamed n = some g) (hty : (P.globals[g]?).map (·.type) = some t) (ht : P.underlying t = some (.array m e)) (he : P.underlying e = some .string) (hce : P.cellsOf e = 1) (hct : P.cellsOf t = m)
    (i : Nat) (hi : i < zs.length) : W.cell? ⟨g, i, none⟩ = some (vs (zs.getD i [])) := by
  obtain ⟨ps, hv, hnd, hrows⟩ := h
  obtain ⟨g', t', cs, fuel, p, h1, h2, h3, h4, h5, h6⟩ := laidVars_mem hv hmem
  obtain rfl := Option.some.inj (hg.symm.trans h1)
  obtain rfl := Option.some.inj (hty.symm.trans h2)
  have hc := cells_of_strs ht he hce hct h4
  have hcell := World.var?_cell h1 h3 i
  rw [show cs = (zs.map vs).toArray from by rw [← hc]] at hcell
  simpa [List.getD, hi] using hcell
end Go.Proofs.YtemppijblfflgabGreatDoor.Ev
namespace Go.Proofs.YtemppijblfflgabGreatDoor.Ev
open Go Go.RowKit

def errText (k : Nat) : Bytes :=
  if k = 1 then [116, 111, 111, 32, 108, 111, 110, 103] else if k = 2 then [115, 121, 110, 116, 97, 120, 32, 101, 114, 114, 111, 114] else if k = 3 then [116, 111, 111, 32, 100, 101, 101, 112] else if k = 4 then [100, 101, 99, 108, 97, 114, 101, 100, 32, 116, 119, 105, 99, 101] else if k = 5 then [110, 111, 116, 32, 100, 101, 99, 108, 97, 114, 101, 100] else if k = 6 then [111, 102, 32, 97, 110, 111, 116, 104, 101, 114, 32, 107, 105, 110, 100] else if k = 7 then [97, 32, 110, 117, 109, 98, 101, 114, 32, 98, 101, 121, 111, 110, 100, 32, 105, 116, 115, 32, 98, 111, 117, 110, 100, 115] else if k = 8 then [97, 32, 115, 101, 99, 111, 110, 100, 32, 114, 117, 108, 101] else if k = 9 then [116, 111, 111, 32, 109, 97, 110, 121, 32, 110, 97, 109, 101, 115] else if k = 10 then [110, 111, 32, 114, 117, 108, 101, 32, 102, 111, 114, 32, 97, 32, 109, 105, 115, 115] else if k = 11 then [97, 32, 113, 117, 101, 117, 101, 32, 105, 115, 32, 102, 117, 108, 108] else if k = 12 then [97, 32, 113, 117, 101, 117, 101, 32, 105, 115, 32, 101, 109, 112, 116, 121] else []
theorem errText_inj : ∀ j k, 1 ≤ j → j ≤ 12 → 1 ≤ k → k ≤ 12 → errText j = errText k → j = k := by
  have h : ∀ j : Fin 13, ∀ k : Fin 13, 1 ≤ j.val → 1 ≤ k.val → errText j.val = errText k.val → j.val = k.val := by decide
  intro j k h1 h2 h3 h4 e
  exact h ⟨j, by omega⟩ ⟨k, by omega⟩ h1 h3 e

theorem rowErr (u : TypeId) (h : Tryz.prog.typeName? 3 u = some "*errors.errorString") : u = 304 :=
  typeName_ptr_named (nm := "errors.errorString") (by kernel_rfl) (by kernel_rfl) (by decide) u h
theorem cellsES : Tryz.prog.cellsOf 306 = 1 := by kernel_rfl
theorem cellsStr : Tryz.prog.cellsOf 9 = 1 := by kernel_rfl
theorem cellsKw : Tryz.prog.cellsOf 237 = 24 := by kernel_rfl
theorem etNamed : Tryz.prog.globalNamed "errors.errorType" = some 2 := by kernel_rfl
theorem rtCut : (Tryz.prog.cutTypes.find? (·.1 == "internal/reflectlite.rtype")).map (·.2) = some 242 := by kernel_rfl
theorem oneRowErr : ((List.range 333).filter fun t => Tryz.prog.rowNamed t [101, 114, 114, 111, 114]) = [96] := by kernel_rfl
theorem typesSize : Tryz.prog.types.size = 333 := by kernel_rfl

/-- The list bears the errors, the words, the handle. -/
structure Bears (l : List (String × DataW Unit)) : Prop where
  et : ("errors.errorType", Rows.laid_errors_errorType) ∈ l
  kw : ("evictor/policy.keywords", Rows.laid_evictor_policy_keywords) ∈ l
  e1 : ("evictor/policy.ErrLong", Rows.laid_evictor_policy_ErrLong) ∈ l
  e2 : ("evictor/policy.ErrSyntax", Rows.laid_evictor_policy_ErrSyntax) ∈ l
  e3 : ("evictor/policy.ErrDeep", Rows.laid_evictor_policy_ErrDeep) ∈ l
  e4 : ("evictor/policy.ErrTwice", Rows.laid_evictor_policy_ErrTwice) ∈ l
  e5 : ("evictor/policy.ErrNone", Rows.laid_evictor_policy_ErrNone) ∈ l
  e6 : ("evictor/policy.ErrKind", Rows.laid_evictor_policy_ErrKind) ∈ l
  e7 : ("evictor/policy.ErrNumber", Rows.laid_evictor_policy_ErrNumber) ∈ l
  e8 : ("evictor/policy.ErrRule", Rows.laid_evictor_policy_ErrRule) ∈ l
  e9 : ("evictor/policy.ErrMany", Rows.laid_evictor_policy_ErrMany) ∈ l
  e10 : ("evictor/policy.ErrMiss", Rows.laid_evictor_policy_ErrMiss) ∈ l
  e11 : ("evictor/code.ErrFull", Rows.laid_evictor_code_ErrFull) ∈ l
  e12 : ("evictor/code.ErrEmpty", Rows.laid_evictor_code_ErrEmpty) ∈ l

/-- A sentinel of this program. -/
def ErrAt (W : World) (k : Nat) (a : Addr) : Prop :=
  W.cell? ⟨errGlobal k, 0, none⟩ = some (.iface 304 (.pointer (some a))) ∧ (∃ s : ByteArray, W.cell? a = some (.string s) ∧ s.data.toList = errText k) ∧ ∃ (c : Array Value) (t : TypeId), W.heap[a.block]? = some (.cells c t (0, 0))

section
variable {l : List (String × DataW Unit)} {W : World}
theorem errAt_of {n : String} {k g : Nat} (h : laidMet Tryz.prog (l.filter fun x => x.2.handleName?.isNone) W) (hm : (n, DataW.iface "*errors.errorString" (.ptr (.agg [.lit (.string (errText k))]))) ∈ l)
    (hg : Tryz.prog.globalNamed n = some g) (ht : (Tryz.prog.globals[g]?).map (·.type) = some 96) (hk : errGlobal k = g) : ∃ a, ErrAt W k a := by
  obtain ⟨a, s, h1, h2, h3, h4⟩ := sentinel_mem h (List.mem_filter.2 ⟨hm, rfl⟩) hg ht Tryz.underlying96 rowErr Tryz.underlying304 Tryz.underlying306 rfl rfl Tryz.underlying9 cellsES cellsStr
  exact ⟨a, by rw [hk]; exact h1, ⟨s, h2, h3⟩, h4⟩
theorem gN1 : Tryz.prog.globalNamed "evictor/policy.ErrLong" = some 0 := by kernel_rfl
theorem gT1 : (Tryz.prog.globals[0]?).map (·.type) = some 96 := by kernel_rfl
theorem gN2 : Tryz.prog.globalNamed "evictor/policy.ErrSyntax" = some 6 := by kernel_rfl
theorem gT2 : (Tryz.prog.globals[6]?).map (·.type) = some 96 := by kernel_rfl
theorem gN3 : Tryz.prog.globalNamed "evictor/policy.ErrDeep" = some 7 := by kernel_rfl
theorem gT3 : (Tryz.prog.globals[7]?).map (·.type) = some 96 := by kernel_rfl
theorem gN4 : Tryz.prog.globalNamed "evictor/policy.ErrTwice" = some 8 := by kernel_rfl
theorem gT4 : (Tryz.prog.globals[8]?).map (·.type) = some 96 := by kernel_rfl
theorem gN5 : Tryz.prog.globalNamed "evictor/policy.ErrNone" = some 9 := by kernel_rfl
theorem gT5 : (Tryz.prog.globals[9]?).map (·.type) = some 96 := by kernel_rfl
theorem gN6 : Tryz.prog.globalNamed "evictor/policy.ErrKind" = some 10 := by kernel_rfl
theorem gT6 : (Tryz.prog.globals[10]?).map (·.type) = some 96 := by kernel_rfl
theorem gN7 : Tryz.prog.globalNamed "evictor/policy.ErrNumber" = some 11 := by kernel_rfl
theorem gT7 : (Tryz.prog.globals[11]?).map (·.type) = some 96 := by kernel_rfl
theorem gN8 : Tryz.prog.globalNamed "evictor/policy.ErrRule" = some 12 := by kernel_rfl
theorem gT8 : (Tryz.prog.globals[12]?).map (·.type) = some 96 := by kernel_rfl
theorem gN9 : Tryz.prog.globalNamed "evictor/policy.ErrMany" = some 13 := by kernel_rfl
theorem gT9 : (Tryz.prog.globals[13]?).map (·.type) = some 96 := by kernel_rfl
theorem gN10 : Tryz.prog.globalNamed "evictor/policy.ErrMiss" = some 1 := by kernel_rfl
theorem gT10 : (Tryz.prog.globals[1]?).map (·.type) = some 96 := by kernel_rfl
theorem gN11 : Tryz.prog.globalNamed "evictor/code.ErrFull" = some 4 := by kernel_rfl
theorem gT11 : (Tryz.prog.globals[4]?).map (·.type) = some 96 := by kernel_rfl
theorem gN12 : Tryz.prog.globalNamed "evictor/code.ErrEmpty" = some 5 := by kernel_rfl
theorem gT12 : (Tryz.prog.globals[5]?).map (·.type) = some 96 := by kernel_rfl
theorem gNkw : Tryz.prog.globalNamed "evictor/policy.keywords" = some 14 := by kernel_rfl
theorem gTkw : (Tryz.prog.globals[14]?).map (·.type) = some 237 := by kernel_rfl

theorem env_of (h : laidMetH Tryz.prog l W) (b : Bears l) : ∃ ea, Env W.heap.size ea W ∧ ErrObj W.heap.size ea W := by
  obtain ⟨h1, h2⟩ := laidMetH_split h b.et rfl
  have hex : ∀ k, ∃ a, 1 ≤ k → k ≤ 12 → ErrAt W k a := by
    intro k
    by_cases hk : 1 ≤ k ∧ k ≤ 12
    · have : ∃ a, ErrAt W k a := by
        have hc : k = 1 ∨ k = 2 ∨ k = 3 ∨ k = 4 ∨ k = 5 ∨ k = 6 ∨ k = 7 ∨ k = 8 ∨ k = 9 ∨ k = 10 ∨ k = 11 ∨ k = 12 := by omega
        rcases hc with rfl | rfl | rfl | rfl | rfl | rfl | rfl | rfl | rfl | rfl | rfl | rfl
        · exact errAt_of h1 b.e1 gN1 gT1 rfl
        · exact errAt_of h1 b.e2 gN2 gT2 rfl
        · exact errAt_of h1 b.e3 gN3 gT3 rfl
        · exact errAt_of h1 b.e4 gN4 gT4 rfl
        · exact errAt_of h1 b.e5 gN5 gT5 rfl
        · exact errAt_of h1 b.e6 gN6 gT6 rfl
        · exact errAt_of h1 b.e7 gN7 gT7 rfl
        · exact errAt_of h1 b.e8 gN8 gT8 rfl
        · exact errAt_of h1 b.e9 gN9 gT9 rfl
        · exact errAt_of h1 b.e10 gN10 gT10 rfl
        · exact errAt_of h1 b.e11 gN11 gT11 rfl
        · exact errAt_of h1 b.e12 gN12 gT12 rfl
      obtain ⟨a, ha⟩ := this
      exact ⟨a, fun _ _ => ha⟩
    · exact ⟨⟨0, 0, none⟩, fun h3 h4 => absurd ⟨h3, h4⟩ hk⟩
  obtain ⟨ea, hea⟩ := Classical.axiomOfChoice hex
  have hkw : ∀ j, j < 24 → W.cell? ⟨14, j, none⟩ = some (vs (keywords.getD j [])) := fun j hj =>
    strs_mem (zs := keywords) h1 (List.mem_filter.2 ⟨b.kw, rfl⟩) gNkw gTkw Tryz.underlying237 Tryz.underlying9 cellsStr cellsKw j hj
  have het : W.cell? ⟨2, 0, none⟩ = some (.iface 242 (.agg #[.pointer (some ⟨21, 96, none⟩)])) := by
    obtain ⟨name, u, ty, e1, e2, e3, e4, e5⟩ := h2 _ (List.mem_filter.2 ⟨b.et, rfl⟩)
    have en : name = [101, 114, 114, 111, 114] := (Option.some.inj e1).symm
    subst en
    obtain rfl := Option.some.inj (rtCut.symm.trans e2)
    have hm : ty ∈ (List.range 333).filter fun t => Tryz.prog.rowNamed t [101, 114, 114, 111, 114] := List.mem_filter.2 ⟨List.mem_range.2 (by rw [← typesSize]; exact e3), e4⟩
    rw [oneRowErr] at hm
    obtain rfl := List.mem_singleton.1 hm
    have hh : typeHandle Tryz.prog 96 = .pointer (some ⟨21, 96, none⟩) := by kernel_rfl
    rw [hh] at e5
    simpa using World.var?_cell etNamed e5 0
  have hlt : ∀ k, 1 ≤ k → k ≤ 12 → (ea k).block < W.heap.size := fun k k1 k2 => by
    obtain ⟨_, ⟨s, hs, _⟩, _⟩ := hea k k1 k2
    exact World.block_lt_of_cell? W _ hs
  refine ⟨ea, ⟨Nat.le_refl _, fun k k1 k2 => (hea k k1 k2).1, fun k k1 k2 => World.block_lt_of_cell? W _ (hea k k1 k2).1, hkw, World.block_lt_of_cell? W _ (hkw 0 (by omega))⟩,
    ⟨fun k k1 k2 => (hea k k1 k2).2.2, hlt, fun j k j1 j2 k1 k2 e => ?_, het, World.block_lt_of_cell? W _ het⟩⟩
  obtain ⟨_, ⟨s, hs, ht⟩, _⟩ := hea j j1 j2
  obtain ⟨_, ⟨s', hs', ht'⟩, _⟩ := hea k k1 k2
  rw [e] at hs
  rw [hs] at hs'
  injection hs' with hs'
  injection hs' with hs'
  subst hs'
  exact errText_inj j k j1 j2 k1 k2 (ht.symm.trans ht')
end
end Go.Proofs.YtemppijblfflgabGreatDoor.Ev
namespace Go.Proofs.YtemppijblfflgabGreatDoor.Ev
open Go Go.ChangeShapes Go.WideShapes Go.ChangeAt Go.RowKit
open Go.ChangeMaps (open_string shut_string)

theorem ownKnob_ : ownKnob Tryz.prog.godebug = none := by kernel_rfl
theorem laidOut_ : laidOutB Tryz.prog = true := by kernel_rfl

section
variable {H : Type} {enc : TypeId × Value → H} {P : Program}

/-- Behind a call that has turned nothing that was there, the arguments read as they did. -/
theorem trodAll_stays (hl : laidOutB P = true) {W W' : World} (hb : Below W.heap.size W W') {sp : Nat → Bool} : ∀ {ts : List TypeId} {vs : List Value} {ds : List (DataW H)} {ps : List MemPlace}, (∀ t ∈ ts, P.readableRec t = true ∧ t < P.types.size) →
    DataW.TrodAll enc P W 0 (fun _ => true) true ts vs ds ps → (∀ x ∈ ps, x.block < W.heap.size) → (∀ p ∈ ps, sp p.block = true) → DataW.TrodAll enc P W' 0 sp true ts vs ds ps
  | [], _, _, _, _, h, _, _ => by
    obtain ⟨rfl, rfl, rfl⟩ := trodAll_nil h
    exact trodAll_mk0
  | t :: ts, _, _, _, hts, h, hlt, hs => by
    obtain ⟨v, vs1, d, ds1, a, b, rfl, rfl, rfl, h1, h2⟩ := trodAll_cons h
    have ht := hts t (List.mem_cons_self ..)
    exact ⟨a, b, WideElems.Trod_stays hl ht.1 ht.2 h1 (fun x hx => hb.same (hlt x (List.mem_append_left _ hx))) (fun x hx => hs x (List.mem_append_left _ hx)),
      trodAll_stays hl hb (fun t ht => hts t (List.mem_cons_of_mem _ ht)) h2 (fun x hx => hlt x (List.mem_append_right _ hx)) (fun x hx => hs x (List.mem_append_right _ hx)), rfl⟩

/-- What is asked of a law's end. -/
theorem post_true {f : Func} {s : ChangeSpec} {W W' : World} {args : Array Value} {ds gs : List (DataW H)} {before : List MemPlace} {tb : TypeId} (hl : laidOutB P = true) (hv : s.vars = [])
    (hW : DataW.Whole enc P f.params.toList s.vars false W args.toList ds gs before) (hfn : ∀ ds' : List (DataW H), ds'.length = f.params.size → s.fn H ds' = { results := [.lit (.bool true)], args := ds' })
    (hrt : f.resultTypes = #[tb]) (htb : P.underlying tb = some .bool) (hts : ∀ t ∈ f.params.toList, P.readableRec t = true ∧ t < P.types.size) (hk : Kept (fun b => W.heap.size ≤ b) W W') :
    s.post enc P f false true false false W args (.bool true) W' := by
  have hb : Below W.heap.size W W' := hk.below (fun k h => h)
  have hlt : ∀ p ∈ before, p.block < W.heap.size := fun p hp => hW.lt p hp
  have hold : ∀ p ∈ before, (fun b => decide (b < W.heap.size)) p.block = true := fun p hp => by simpa using hlt p hp
  have hW' := hW
  obtain ⟨p, q, hA0, hV, rfl, hfz, hnd⟩ := hW
  have hA : DataW.TrodAll enc P W 0 (fun _ => true) true f.params.toList args.toList ds p := hA0
  rw [hv] at hV
  obtain ⟨rfl, rfl⟩ := trodVars_none hV
  rw [List.append_nil] at hlt hold
  have hlen : ∀ {ts : List TypeId} {vs : List Value} {ds : List (DataW H)} {ps : List MemPlace}, DataW.TrodAll enc P W 0 (fun _ => true) true ts vs ds ps → ds.length = ts.length := by
    intro ts
    induction ts with
    | nil => intro vs ds ps h; obtain ⟨rfl, rfl, rfl⟩ := trodAll_nil h; rfl
    | cons t ts ih =>
      intro vs ds ps h
      obtain ⟨v, vs1, d, ds1, a, b, rfl, rfl, rfl, h1, h2⟩ := trodAll_cons h
      simp [ih h2]
  have hd : ds.length = f.params.size := by rw [hlen hA]; simp
  have e : s.fn H (ds ++ []) = { results := [.lit (.bool true)], args := ds } := by rw [List.append_nil]; exact hfn ds hd
  have hres : ∀ (b : Nat) (sp : Nat → Bool) (hd : Bool), DataW.TrodAll enc P W' b sp hd f.resultTypes.toList ((Value.bool true).resultList f.resultTypes.size) (s.fn H (ds ++ [])).results [] := by
    intro b sp hd
    rw [e, hrt]
    exact trodAll_mk1 (shut_bool htb true)
  have hargs : ∀ sp : Nat → Bool, (∀ x ∈ p, sp x.block = true) → DataW.TrodAll enc P W' 0 sp true f.params.toList args.toList (s.fn H (ds ++ [])).args p := by
    intro sp hs
    rw [e]
    exact trodAll_stays hl hb hts hA hlt hs
  have hvars : ∀ sp : Nat → Bool, DataW.TrodVars enc P W' sp s.vars (s.fn H (ds ++ [])).vars [] := by
    intro sp
    rw [e, hv]
    exact rfl
  refine ⟨ds, [], p ++ [], [], p, [], hW', hres _ _ _, hargs _ hold, hvars _, World.keptBut_mono (fun x hx => ⟨hx, .inr (by simpa using hx)⟩) (hb.frame (· ∈ p ++ [])), fun _ => ?_⟩
  refine ⟨ok_one hrt rfl (okWide_bool_mk htb true), _, _, ([] ++ p) ++ [], ⟨[] ++ p, [], trodAll_append (hargs _ (fun _ _ => rfl)) (hres _ _ _), hvars _, rfl, ?_, ?_⟩, ?_⟩
  · intro b off hp
    have hin : MemPlace.cell b off ∈ p ++ [] := by simpa using hp
    rw [hb.frozen (hlt _ (by simpa using hin))]
    exact hfz b off hin
  · intro ha
    have := hnd ha
    simpa using this
  · intro x hx _
    simpa using hx
end

/-! ## A world in which the listed variables hold what they are laid as -/
def litV : DataW Unit → Value
  | .lit (.int k n) => .int k n
  | .lit (.string s) => .string ⟨s.toArray⟩
  | _ => undef
def aggV : DataW Unit → Array Value
  | .agg l => (l.map litV).toArray
  | .slice l _ => (l.map litV).toArray
  | _ => #[]
def errB (k : Nat) : Obj := .cells #[.string ⟨(errText k).toArray⟩] 306
def putV (h : Array Obj) (g : Nat) (cs : Array Value) : Array Obj := h.modify g fun
  | .cells _ t frozen => .cells cs t frozen
  | o => o
noncomputable def laidWorld (os : Os) : World :=
  let N := (World.settled Tryz.prog os).heap.size
  let w0 := World.holding Tryz.prog os ⟨#[errB 1, errB 2, errB 3, errB 4, errB 5, errB 6, errB 7, errB 8, errB 9, errB 10, errB 11, errB 12,
    .cells #[.string ⟨#[118, 97, 108, 117, 101, 32, 111, 117, 116, 32, 111, 102, 32, 114, 97, 110, 103, 101]⟩] 306,
    .cells #[.string ⟨#[105, 110, 118, 97, 108, 105, 100, 32, 115, 121, 110, 116, 97, 120]⟩] 306,
    .cells (aggV Rows.laid_evictor_evictorref_words) 9], #[], []⟩
  let e (i : Nat) : Array Value := #[.iface 304 (.pointer (some ⟨N + i, 0, none⟩))]
  let h := w0.heap
  let h := putV h 0 (e 0)
  let h := putV h 6 (e 1)
  let h := putV h 7 (e 2)
  let h := putV h 8 (e 3)
  let h := putV h 9 (e 4)
  let h := putV h 10 (e 5)
  let h := putV h 11 (e 6)
  let h := putV h 12 (e 7)
  let h := putV h 13 (e 8)
  let h := putV h 1 (e 9)
  let h := putV h 4 (e 10)
  let h := putV h 5 (e 11)
  let h := putV h 18 (e 12)
  let h := putV h 17 (e 13)
  let h := putV h 14 (aggV Rows.laid_evictor_policy_keywords)
  let h := putV h 15 (aggV Rows.laid_internal_strconv_uint64pow10)
  let h := putV h 19 (aggV Rows.laid_math_bits_deBruijn32tab)
  let h := putV h 20 (aggV Rows.laid_math_bits_deBruijn64tab)
  let h := putV h 2 #[.iface 242 (.agg #[.pointer (some ⟨21, 96, none⟩)])]
  let h := putV h 3 #[.slice (some ⟨N + 14, 0, none⟩) 24 24]
  { w0 with heap := h }
end Go.Proofs.YtemppijblfflgabGreatDoor.Ev
namespace Go.Proofs.YtemppijblfflgabGreatDoor.Ev
open Go Go.ChangeShapes Go.WideShapes Go.ChangeAt Go.RowKit

theorem weights_all {H : Type} {P : Program} {e : TypeId} {d : DataW H} {n : Nat} (hn : n ∈ d.weights P e) : ∀ {l : List (DataW H)}, d ∈ l → n ∈ DataW.weightsAll P e l
  | [], h => by cases h
  | x :: l, h => by
    simp only [DataW.weightsAll, List.mem_append]
    rcases List.mem_cons.1 h with rfl | h
    · exact .inl hn
    · exact .inr (weights_all hn h)
theorem cellsOp : Tryz.prog.cellsOf 27 = 4 := by kernel_rfl
theorem cellsStr_ : Tryz.prog.cellsOf 9 = 1 := by kernel_rfl
theorem cellsInt_ : Tryz.prog.cellsOf 3 = 1 := by kernel_rfl
theorem cellsU64_ : Tryz.prog.cellsOf 25 = 1 := by kernel_rfl
theorem bytesOp : Tryz.prog.bytesOf 27 = 40 := by kernel_rfl

section
variable {H : Type} {enc : TypeId × Value → H} {W : World}
set_option maxRecDepth 100000 in
theorem op_of {n : Nat} {D : DataW H} {Pl : List MemPlace} {cs : List Value} (hl : cs.length = 4) (h2 : DataW.trod enc Tryz.prog W 0 (fun _ => true) true n 27 cs = some (D, Pl)) (hsz : ∀ n ∈ D.weights Tryz.prog 27, n ≤ reachBytes) :
    ∃ x : OpL, OpB x ∧ cs = encOp x := by
  obtain ⟨xs, k, _, hxy, _, hxl, hf⟩ := DataW.trod_struct Tryz.underlying27 h2
  match cs, hl, xs, hxl with
  | [v0, v1, v2, v3], _, [y0, y1, y2, y3], _ =>
    have g0 := hf 0 _ rfl
    have g1 := hf 1 _ rfl
    have g2 := hf 2 _ rfl
    have g3 := hf 3 _ rfl
    simp only [cellsInt_, cellsU64_, cellsStr_, List.drop_zero, List.drop_succ_cons, List.take_succ_cons, List.take_zero, List.getElem?_cons_zero, List.getElem?_cons_succ] at g0 g1 g2 g3
    obtain ⟨z0, e0, r0, b0⟩ := DataW.trod_int Tryz.underlying3 g0
    obtain ⟨z1, e1, r1, b1⟩ := DataW.trod_int Tryz.underlying3 g1
    obtain ⟨z2, e2, r2, b2⟩ := DataW.trod_int Tryz.underlying25 g2
    obtain ⟨s, e3, r3, b3⟩ := DataW.trod_string Tryz.underlying9 g3
    obtain rfl := (List.cons.inj e0).1
    obtain rfl := (List.cons.inj e1).1
    obtain rfl := (List.cons.inj e2).1
    obtain rfl := (List.cons.inj e3).1
    have hs : s.data.toList.length ≤ reachBytes := by
      have hD := congrArg Prod.fst hxy
      simp only at hD
      subst hD
      refine hsz _ ?_
      simp only [DataW.weights, Tryz.underlying27]
      simp [DataW.weightsEach, DataW.weights, r0, r1, r2, r3]
    refine ⟨⟨z0, z1, z2, s.data.toList⟩, ⟨(bounds_i64 b0).1, (bounds_i64 b0).2, (bounds_i64 b1).1, (bounds_i64 b1).2, ?_⟩, rfl⟩
    unfold reachBytes at hs
    show s.data.toList.length ≤ 140737488351232
    omega
instance opInh : Inhabited OpL := ⟨⟨0, 0, 0, []⟩⟩
set_option maxRecDepth 100000 in
theorem script_of {b0 : Nat} {v : Value} {d : DataW H} {p : List MemPlace} (hv : Value.okWide Tryz.prog W .any b0 22 v) (h : DataW.Trod enc Tryz.prog W 0 (fun _ => true) true 22 v d p) (hsz : ∀ n ∈ d.weights Tryz.prog 22, n ≤ reachBytes) :
    ∃ l, ScriptR W v l := by
  obtain ⟨a0, len0, cap0, rfl⟩ := okWide_slice Tryz.underlying22 hv
  obtain ⟨n, hn⟩ := h
  rcases Go.Deep.open_slice Tryz.underlying22 hn with ⟨h1, _⟩ | ⟨a, len, cap, m, n', D, Pl, h1, _, h2, h3, h4, hx, h5⟩
  · simp [Value.cells] at h1
    obtain ⟨rfl, rfl, rfl⟩ := h1
    exact ⟨[], none, 0, rfl, Nat.zero_le _, fun x hx => by simp at hx, fun k x hx => by simp at hx⟩
  · simp [Value.cells] at h1
    obtain ⟨rfl, rfl, rfl⟩ := h1
    have hd := congrArg Prod.fst hx
    simp only at hd
    subst hd
    have hm : len0 ≤ m := by simp only [if_true] at h4; omega
    have hw : ∀ i, i < len0 → ∀ q ∈ (D i).weights Tryz.prog 27, q ≤ reachBytes := fun i hi q hq => hsz q (by
      simp only [DataW.weights, Tryz.underlying22]
      exact List.mem_cons_of_mem _ (List.mem_append_left _ (weights_all hq (List.mem_map.2 ⟨i, List.mem_range.2 hi, rfl⟩))))
    have hlen : len0 * 40 ≤ reachBytes := by
      have := hsz ((len0 + (m - len0)) * 40) (by
        simp only [DataW.weights, Tryz.underlying22, bytesOp, List.length_map, List.length_range]
        exact List.mem_cons_self ..)
      have h6 : len0 + (m - len0) = m := by omega
      rw [h6] at this
      omega
    unfold reachBytes at hlen
    have each : ∀ i, i < len0 → ∃ x : OpL, OpB x ∧ ∀ j, j < 4 → W.cell? ((a.add (i * 4)).add j) = (encOp x)[j]? := by
      intro i hi
      obtain ⟨cs, h6, h7⟩ := h5 i (by omega)
      rw [cellsOp] at h6
      obtain ⟨_, hl, hc⟩ := World.cells?_some h6
      obtain ⟨x, hb, rfl⟩ := op_of hl h7 (hw i hi)
      exact ⟨x, hb, hc⟩
    obtain ⟨f, hf⟩ := Go.Deep.choose_lt each
    refine ⟨(List.range len0).map f, some a, cap0, by simp, by simp; omega, fun x hx => ?_, fun k x hx => ?_⟩
    · obtain ⟨i, hi, rfl⟩ := List.mem_map.1 hx
      exact (hf i (List.mem_range.1 hi)).1
    · have hk : k < len0 := by
        have := (List.getElem?_eq_some_iff.1 hx).1
        simpa using this
      rw [List.getElem?_map, List.getElem?_range hk] at hx
      obtain rfl := Option.some.inj hx
      obtain ⟨b, off, spot⟩ := a
      have hc := (hf k hk).2
      have hspot : spot = none := by
        have h8 : W.cell? ((Addr.add ⟨b, off, spot⟩ (0 * 4)).add 0) = some (.int .i64 (f 0).kind) := (hf 0 (by omega)).2 0 (by omega)
        simpa [Addr.add] using World.cell?_spot h8
      subst hspot
      have h9 : ∀ j, j < 4 → W.cell? ⟨b, off + k * 4 + j, none⟩ = (encOp (f k))[j]? := fun j hj => by
        have := hc j hj
        rwa [Go.WideShapes.add_plain, Go.WideShapes.add_plain] at this
      exact ⟨b, off, rfl, World.block_lt_of_cell? W _ (h9 0 (by omega)), h9⟩
end

theorem gNwd : Tryz.prog.globalNamed "evictor/evictorref.words" = some 3 := by kernel_rfl
theorem gTwd : (Tryz.prog.globals[3]?).map (·.type) = some 210 := by kernel_rfl
theorem wordsLaid : (Rows.laid_evictor_evictorref_words : DataW Unit) = .slice (keywords.map fun s => .lit (.string s)) [] := rfl
theorem words_of {l : List (String × DataW Unit)} {W : World} (h : laidMetH Tryz.prog l W) (b : Bears l) (hm : ("evictor/evictorref.words", Rows.laid_evictor_evictorref_words) ∈ l) : ∃ gx, WordsG W gx := by
  obtain ⟨h1, _⟩ := laidMetH_split h b.et rfl
  obtain ⟨ps, hv, hnd, hrows⟩ := h1
  obtain ⟨g', t', cs, fuel, p, e1, e2, e3, e4, e5, e6⟩ := laidVars_mem hv (List.mem_filter.2 ⟨hm, rfl⟩)
  obtain rfl := Option.some.inj (gNwd.symm.trans e1)
  obtain rfl := Option.some.inj (gTwd.symm.trans e2)
  rcases open_strings Tryz.underlying210 Tryz.underlying9 cellsStr_ e4 with ⟨_, hx⟩ | ⟨a, len, cap, ss, hcs, _, hl, hm2, hz, hx, hcell, hsz⟩
  · have hd := congrArg Prod.fst hx
    simp only at hd
    rw [wordsLaid] at hd
    cases hd
  · have hd := congrArg Prod.fst hx
    simp only at hd
    rw [wordsLaid] at hd
    injection hd with ha hb
    simp only [if_true] at hz
    have hk : keywords.length = 24 := rfl
    have ha2 := congrArg List.length ha
    have hb2 := congrArg List.length hb
    simp only [strs, List.length_map, List.length_take, List.length_drop, List.length_nil, hk] at ha2 hb2
    have hl24 : len = 24 := by omega
    have hc24 : cap = 24 := by omega
    subst hl24 hc24
    obtain ⟨bk, off, spot⟩ := a
    have hspot : spot = none := by simpa [Addr.add] using World.cell?_spot (hcell 0 (by omega))
    subst hspot
    have hh : W.cell? ⟨3, 0, none⟩ = some (.slice (some ⟨bk, off, none⟩) 24 24) := by
      have := World.var?_cell e1 e3 0
      rw [show cs = #[Value.slice (some ⟨bk, off, none⟩) 24 24] from by rw [← Array.toArray_toList (xs := cs), hcs]] at this
      simpa using this
    have hat : ∀ j, j < 24 → W.cell? ⟨bk, off + j, none⟩ = some (vs (keywords.getD j [])) := by
      intro j hj
      have h3 := hcell j (by omega)
      rw [Go.WideShapes.add_plain] at h3
      rw [h3]
      have h4 : (keywords.map fun s => (DataW.lit (.string s) : DataW Unit))[j]? = (strs (ss.take 24))[j]? := by rw [ha]
      unfold strs at h4
      have hj2 : j < (ss.take 24).length := by rw [List.length_take]; omega
      rw [List.getElem?_map, List.getElem?_map, List.getElem?_eq_getElem (by rw [hk]; exact hj), List.getElem?_eq_getElem hj2] at h4
      simp only [Option.map_some, Option.some.injEq, DataW.lit.injEq, Lit.string.injEq, List.getElem_take] at h4
      have e7 : keywords.getD j [] = keywords[j]'(by rw [hk]; exact hj) := by rw [List.getD, List.getElem?_eq_getElem (by rw [hk]; exact hj)]; rfl
      have e8 : ss.getD j ByteArray.empty = ss[j]'(by omega) := by rw [List.getD, List.getElem?_eq_getElem (by omega)]; rfl
      rw [e7, e8, h4]
    exact ⟨(bk, off), hh, hat, World.block_lt_of_cell? W _ hh, World.block_lt_of_cell? W _ (hat 0 (by omega))⟩
end Go.Proofs.YtemppijblfflgabGreatDoor.Ev
namespace Go.Proofs.YtemppijblfflgabGreatDoor.Ev
open Go Go.RowKit

section
variable {w0 w : World} {gw : Nat} {o : Nat → Nat} {E : List Eng} {ps : List (Nat × Nat)} {ves vls : Value} {vl : List Value} {m : Nat} {x : OpL}
set_option maxRecDepth 100000 in
set_option maxHeartbeats 4000000 in
theorem step_empty (h : LW (fun _ => True) w0 w gw o E ps ves vls vl m) (hp : ps.length = 0) (hk : x.kind ≠ 1) :
    Calls Tryz.prog 13 #[.pointer (some ⟨gw, 0, none⟩), opV x] w (OutStL w0 gw m) := by
  obtain ⟨kd, a, key, s⟩ := x
  change kd ≠ 1 at hk
  change ps.length = 0 at hp
  have c0 := h.row.cell 0
  have rl := h.row.lt
  obtain ⟨aes, ces, rfl⟩ := h.es.any_
  simp at c0
  rw [hp] at c0
  have H := Lib.hid h
  clear h
  unfold opV
  go_enter Tryz.func13, Tryz.ntmps13
  go_wp2
  go_ret
  exact ⟨rfl, o, E, ps, _, vls, vl, (H.out.later ((Kept.refl _ _).alloc (Nat.le_refl _) _)).up (Nat.le_succ _)⟩
end
end Go.Proofs.YtemppijblfflgabGreatDoor.Ev
namespace Go.Proofs.YtemppijblfflgabGreatDoor.Ev
open Go Go.RowKit

section
variable {w0 w w' : World} {gw : Nat} {o : Nat → Nat} {E : List Eng} {ps : List (Nat × Nat)} {ves vls : Value} {vl : List Value} {m : Nat}
/-- An engine has turned on both sides; v: a list that it gave; P: which of the new blocks are the engine's. -/
theorem LW.turn (h : LW (fun _ => True) w0 w gw o E ps ves vls vl m) {i : Nat} {e e' : Eng} {p : Nat × Nat} (he : E[i]? = some e) (hp : ps[i]? = some p) {T : Nat → Prop} (hk : Kept T w w')
    (hT : ∀ b, T b → b < w.heap.size → w0.heap.size ≤ b ∧ (o b = 3 + 2 * i ∨ o b = 4 + 2 * i)) (P : Nat → Bool) {v : Value} (hv : ∀ b, v.ownBlock = some b → w.heap.size ≤ b ∧ P b = true)
    (h2 : EngR (fun b => ((o b = 3 + 2 * i ∧ w0.heap.size ≤ b ∧ b < w.heap.size) ∨ (w.heap.size ≤ b ∧ P b = true)) ∧ v.ownBlock ≠ some b) w' p.1 e')
    (h3 : MR (fun b => (o b = 4 + 2 * i ∧ w0.heap.size ≤ b ∧ b < w.heap.size) ∨ (w.heap.size ≤ b ∧ P b = false)) w' p.2 e') (hc : CntB e'.n (m + 1)) :
    LW (fun _ => True) w0 w' gw (fun b => if b < w.heap.size then o b else if v.ownBlock = some b then 2 else if P b = true then 3 + 2 * i else 4 + 2 * i) (E.set i e') ps ves vls vl (m + 1) := by
  have hq : LW (fun j => j ≠ i) w0 w' gw (fun b => if b < w.heap.size then o b else if v.ownBlock = some b then 2 else if P b = true then 3 + 2 * i else 4 + 2 * i) E ps ves vls vl (m + 1) :=
    (LW.move (K' := fun j => j ≠ i) h hk (fun b hb => if_pos hb) (fun b hb hlt => by
      obtain ⟨a, c⟩ := hT b hb hlt
      exact ⟨a, by omega, by omega, fun j hj => by omega⟩) (fun _ _ => trivial)).up (Nat.le_succ _)
  have hw0 := h.kept.size
  refine ⟨hq.row, hq.es, hq.ls, hq.lists, by rw [List.length_set]; exact hq.len, fun j e1 p1 _ he1 hp1 => ?_, hq.kept, hq.gw, hq.nl, by rw [List.length_set]; exact hq.ne⟩
  by_cases hj : j = i
  · subst hj
    have hi : j < E.length := (List.getElem?_eq_some_iff.1 he).1
    rw [List.getElem?_set_self hi] at he1
    injection he1 with he1
    subst he1
    obtain rfl := Option.some.inj (hp.symm.trans hp1)
    refine ⟨h2.shrink.mono fun b hb => ?_, h3.mono fun b hlt hb => ?_, hc⟩
    · obtain ⟨⟨h4, h6⟩, h7⟩ := hb
      rcases h4 with ⟨a, b1, c⟩ | ⟨c, h5⟩
      · exact ⟨⟨(if_pos c).trans a, b1⟩, h7⟩
      · exact ⟨⟨(if_neg (Nat.not_lt.2 c)).trans ((if_neg h6).trans (if_pos h5)), by omega⟩, h7⟩
    · rcases hb with ⟨a, b1, c⟩ | ⟨c, h5⟩
      · exact ⟨⟨(if_pos c).trans a, b1⟩, hlt⟩
      · exact ⟨⟨(if_neg (Nat.not_lt.2 c)).trans ((if_neg (fun e => by have := (hv b e).2; rw [h5] at this; cases this)).trans (if_neg (by rw [h5]; decide))), by omega⟩, hlt⟩
  · rw [List.getElem?_set_ne (Ne.symm hj)] at he1
    exact hq.eng j e1 p1 hj he1 hp1
theorem LW.at_eng (h : LW (fun _ => True) w0 w gw o E ps ves vls vl m) {i : Nat} {p : Nat × Nat} (hp : ps[i]? = some p) :
    ∃ e, E[i]? = some e ∧ EngR (fun b => (o b = 3 + 2 * i ∧ w0.heap.size ≤ b) ∧ b < w.heap.size) w p.1 e ∧ MR (fun b => (o b = 4 + 2 * i ∧ w0.heap.size ≤ b) ∧ b < w.heap.size) w p.2 e ∧ CntB e.n m := by
  have hi : i < E.length := by rw [← h.len]; exact (List.getElem?_eq_some_iff.1 hp).1
  exact ⟨_, List.getElem?_eq_getElem hi, h.eng i _ p trivial (List.getElem?_eq_getElem hi) hp⟩
end
end Go.Proofs.YtemppijblfflgabGreatDoor.Ev
