/- Fifo: walked. Fifo: for every input the law returns true. Conditions: none. -/
import Derived.SevenTiedAt
import Derived.Test.YtemppijblfflgaaGreatDoorZb16
import Derived.Test.YtemppijblfflgaaGreatDoorZb17
set_option linter.all false
set_option linter.unusedSimpArgs false
set_option linter.unusedVariables false
namespace Go.Proofs.YtemppijblfflgaaGreatDoor.Ev
open Go Go.RowKit

theorem LoopE.of_load0 {w w1 w' : World} {p : Policy} {x : Ending} (hk : Kept (fun b => w.heap.size ≤ b) w w1) (h : OutKL w1 p x w') : ∃ ge S, x = .returned (.pointer (some ⟨ge, 0, none⟩)) ∧ LoopE w w' S ge (Eng.new p) 0 := by
  obtain ⟨ge, rfl, hk2, hE⟩ := h
  exact ⟨ge, _, rfl, LoopE.start (hk.trans (hk2.mono (fun b hb => Nat.le_trans hk.size hb))) (hE.mono (fun b hb => ⟨Nat.le_trans hk.size hb.1, hb.2⟩))⟩

theorem cat_ok0 {P : Program} {a b : ByteArray} (h : a.size + b.size ≤ 9223372036854775807) : ∀ W : World, (Op.stringOp .add a b).run P W = .ok (.string (a ++ b)) W := fun W => run_string_add_sum W _ _ h
theorem dig_len0 {n : Int} (h0 : 0 ≤ n) (h : n ≤ 99) : (digits n).length ≤ 3 := (digits_ok (n := n) h0 (by omega)).2.1

section
variable {B : Nat} {ea : Nat → Addr} {w : World}

set_option maxRecDepth 100000 in
set_option maxHeartbeats 8000000 in
theorem fifo_walk (he : Env B ea w) (ho : ErrObj B ea w) {vk : Value} {keys : List Int} (hk : KeysR w vk keys) (c : Int) (h1 : -9223372036854775808 ≤ c) (h2 : c ≤ 9223372036854775807) :
    Calls Tryz.prog 3 #[vk, .int .i64 c] w (TrueK w) := by
  obtain ⟨xk, ck, rfl⟩ := hk.shape
  obtain ⟨k0, hpk, hk0⟩ := pickN_nat c (n := 50) (by omega)
  have hpick := pick_any (w := w) c 50 h1 h2 (by omega) (by omega)
  have hfig := fig_any (w := w) (n := 1 + (k0 : Int)) (by omega) (by omega)
  rw [hpk] at hpick
  have d3 := dig_len0 (n := 1 + (k0 : Int)) (by omega) (by omega)
  have s1 := cat_ok0 (P := Tryz.prog) (a := ⟨#[113, 117, 101, 117, 101, 32, 114, 32]⟩) (b := ⟨(digits (1 + (k0 : Int))).toArray⟩) (by simp only [size_vs, List.length_cons, List.length_nil]; omega)
  have s2 := cat_ok0 (P := Tryz.prog) (a := ⟨#[113, 117, 101, 117, 101, 32, 114, 32]⟩ ++ ⟨(digits (1 + (k0 : Int))).toArray⟩) (b := ⟨#[59, 32, 111, 110, 32, 109, 105, 115, 115, 32, 123, 32, 105, 102, 32, 102, 117, 108, 108, 32, 114, 32, 123, 32, 101, 118, 105, 99, 116, 32, 114, 59, 32, 125, 32, 112, 117, 116, 32, 114, 59, 32, 125]⟩) (by simp only [ByteArray.size_append, size_vs, List.length_cons, List.length_nil]; omega)
  have hT : (⟨#[113, 117, 101, 117, 101, 32, 114, 32]⟩ : ByteArray) ++ ⟨(digits (1 + (k0 : Int))).toArray⟩ ++ ⟨#[59, 32, 111, 110, 32, 109, 105, 115, 115, 32, 123, 32, 105, 102, 32, 102, 117, 108, 108, 32, 114, 32, 123, 32, 101, 118, 105, 99, 116, 32, 114, 59, 32, 125, 32, 112, 117, 116, 32, 114, 59, 32, 125]⟩ = ⟨(fifoTxt (1 + (k0 : Int))).toArray⟩ := by
    rw [vs_app, vs_app]
    unfold fifoTxt fifoT0 fifoT1
    simp only [List.cons_append, List.nil_append, List.append_assoc]
  have HT := Lib.hid hT
  clear d3 hT
  have HE := Lib.hid he
  have HO := Lib.hid ho
  have HK := Lib.hid hk
  have HP := Lib.hid hpick
  have HF := Lib.hid hfig
  clear he ho hk hpick hfig hpk h1 h2
  go_enter Tryz.func3, Tryz.ntmps3
  go_wp2_with fail
  refine HP.out.mono ?_
  rintro e w0 ⟨rfl, rfl⟩
  go_wp2_with fail
  refine HF.out.mono ?_
  rintro e w1 ⟨rfl, hk1⟩
  have hload := kload_any (HE.out.kept hk1 (fun b hb => Nat.le_trans HE.out.size hb)) (HO.out.kept hk1 (fun b hb => Nat.le_trans HE.out.size hb)) (fifoRead (n := 1 + (k0 : Int)) (by omega)) (q := [114]) (fifo_keys (1 + k0) [] ⟨0, 0, 0⟩)
  unfold vs at *
  rw [← HT.out] at hload
  have HL := Lib.hid hload
  have K1 := Lib.hid hk1
  clear hload hk1
  go_wp2_with fail
  refine HL.out.mono ?_
  rintro e w2 hh
  obtain ⟨ge, S0, rfl, hL0⟩ := LoopE.of_load0 K1.out hh
  have L0 := Lib.hid hL0
  clear hL0 hh s1 s2 K1 HL
  go_wp2
  go_loopg [23, 6] keys.length (fun gg s23 s6 wr => ∃ (k : Nat) (S : Nat → Prop) (l : List Int) (cn : Cnt), k ≤ keys.length ∧ k ≤ 16384 ∧ keys.length - k ≤ gg ∧ s23 = .int .i64 k ∧ l.length ≤ 1 + k0 ∧ LoopE w0 wr S ge (fifoEng (1 + k0) l cn) k ∧ OwnL wr S s6 l)
  case atStart => exact ⟨0, S0, [], ⟨0, 0, 0⟩, Nat.zero_le _, Nat.zero_le _, by omega, rfl, Nat.zero_le _, L0.out, OwnL.nil _ _⟩
  case round =>
    obtain ⟨k, S, l, cn, hk, hk2, hg, rfl, hl, L, O⟩ := hrel
    have HL := Lib.hid L
    have HOL := Lib.hid O
    by_cases hlt : k < keys.length
    · obtain ⟨key, hx⟩ : ∃ x, keys[k]? = some x := ⟨_, List.getElem?_eq_getElem hlt⟩
      obtain ⟨gk, ok, rfl, hc0, hgk, hm2⟩ := HK.out.at_ hx
      have hc := (L.kept.cell (p := ⟨gk, ok + k, none⟩) (by simp only; omega)).trans hc0
      unfold maxLen at hm2
      clear hx hc0
      by_cases hb : k = 16384
      · have e1 : ((k : Int) == 16384) = true := by simp; omega
        have e2 : decide ((k : Int) = 16384) = true := by simp; omega
        have hk3 := L.kept
        clear L O hb
        go_wp2
        go_ret
        exact ⟨rfl, hk3⟩
      · have e1 : ((k : Int) == 16384) = false := by simp; omega
        have e2 : decide ((k : Int) = 16384) = false := by simp; omega
        obtain ⟨al, cl, rfl⟩ := O.shape
        have hat := at_any O.lr (by omega) key
        cases hp : place l key with
        | some i =>
          have ea : atI l key = (i : Int) := by unfold atI; rw [hp]
          rw [ea] at hat
          have ha : (fifoEng (1 + k0) l cn).access key = .ok true [] (fifoEng (1 + k0) l (cntUp cn true 0)) := by
            have := fifo_access (n := 1 + k0) (by omega) hl cn key
            simpa [fifoOut, fifoNext, hp] using this
          have htold := ltold_any HE.out HO.out L (by omega) ha (fifo_keys (1 + k0) l _) (.inl ⟨rfl, rfl⟩) (fun b hb => by cases hb) O (by omega)
          have HAT := Lib.hid hat
          have HTO := Lib.hid htold
          have hi : 0 ≤ (i : Int) := by omega
          clear hat ea hp L O ha htold
          go_wp2_with fail
          refine HAT.out.mono ?_
          rintro x wx ⟨rfl, rfl⟩
          go_wp2_with fail
          refine HTO.out.mono ?_
          rintro x w' ⟨rfl, S', L', hO⟩
          have HL' := Lib.hid L'
          have HOO := Lib.hid hO
          clear L' hO
          go_wp2
          go_roundg (keys.length - (k + 1))
          case measure => omega
          case rel => exact ⟨k + 1, S', l, _, by omega, by omega, by omega, by go_num, hl, HL'.out, HOO.out _ _ HOL.out⟩
        | none =>
          have ea : atI l key = -1 := by unfold atI; rw [hp]
          rw [ea] at hat
          have hax := fifo_access (n := 1 + k0) (by omega) hl cn key
          have HAT := Lib.hid hat
          by_cases hfull : l.length = 1 + k0
          · have f1 : ((l.length : Int) == 1 + (k0 : Int)) = true := by simp; omega
            have f2 : decide ((l.length : Int) = 1 + (k0 : Int)) = true := by simp; omega
            obtain ⟨gl, cl', e', hSg, hlc, hcm, hgl⟩ := O.form (by omega)
            injection e' with e3 e4 e5
            subst e3 e5
            have hcap : ¬ cl = k0 := by omega
            have hll : k0 < l.length := by omega
            have hfr := O.from_ (k := k0) (by omega) (c := cl - k0) (by omega) (by unfold maxLen at *; omega)
            have hwo := own_without O (by omega) (i := k0) (by omega)
            have ek : 1 + k0 - 1 = k0 := by omega
            have ha : (fifoEng (1 + k0) l cn).access key = .ok false (l.drop k0) (fifoEng (1 + k0) (key :: l.eraseIdx k0) (cntUp cn false (l.drop k0).length)) := by
              simpa [fifoOut, fifoNext, missOut, missNext, hp, hfull, ek] using hax
            have hle : (l.eraseIdx k0).length = k0 := by rw [List.length_eraseIdx_of_lt (by omega)]; omega
            unfold maxLen at hcm
            have HFR := Lib.hid hfr
            have HWO := Lib.hid hwo
            have HA := Lib.hid ha
            have HLE := Lib.hid hle
            clear hat ea hp L O hax hfull hfr hwo ek ha hle
            have e7 : 1 + (k0 : Int) - 1 = (k0 : Int) := by omega
            go_wp2_with fail
            refine HAT.out.mono ?_
            rintro x wx ⟨rfl, rfl⟩
            go_wp2_with fail
            refine HWO.out.mono ?_
            rintro x wy ho
            obtain ⟨vy, rfl, hoy, hLy, hky⟩ := ho.own HL.out
            have hfront := front_any hoy.lr (by rw [HLE.out]; omega) key
            have HOY := Lib.hid hoy
            have HFRO := Lib.hid hfront
            have KY := Lib.hid hky
            have HLY := Lib.hid hLy
            clear ho hoy hLy hfront hky
            go_wp2_with fail
            refine HFRO.out.mono ?_
            rintro x wz ho
            obtain ⟨vz, rfl, hoz, hLz, hkz⟩ := ho.own HLY.out
            have hlz : (key :: l.eraseIdx k0).length ≤ 1 + k0 := by rw [List.length_cons, HLE.out]; omega
            have hfz := (HFR.out.later KY.out (fun b hb => hb)).later hkz (fun b hb => hb)
            have htold := ltold_any HE.out HO.out hLz (by omega) HA.out (fifo_keys (1 + k0) _ _) hfz (fun b hb => by injection hb with hb; exact hb ▸ hSg) hoz (by omega)
            have HTO := Lib.hid htold
            have HOZ := Lib.hid hoz
            clear ho hoz hLz hkz hfz htold
            go_wp2_with fail
            refine HTO.out.mono ?_
            rintro x w' ⟨rfl, S', L', hO⟩
            have HL' := Lib.hid L'
            have HOO := Lib.hid hO
            clear L' hO
            go_wp2
            go_roundg (keys.length - (k + 1))
            case measure => omega
            case rel => exact ⟨k + 1, S', _, _, by omega, by omega, by omega, by go_num, hlz, HL'.out, HOO.out _ _ HOZ.out⟩
          · have f1 : ((l.length : Int) == 1 + (k0 : Int)) = false := by simp; omega
            have f2 : decide ((l.length : Int) = 1 + (k0 : Int)) = false := by simp; omega
            have ha : (fifoEng (1 + k0) l cn).access key = .ok false [] (fifoEng (1 + k0) (key :: l) (cntUp cn false 0)) := by
              simpa [fifoOut, fifoNext, missOut, missNext, hp, hfull] using hax
            have hfront := front_any O.lr (by omega) key
            have HA := Lib.hid ha
            have HFRO := Lib.hid hfront
            clear hat ea hp L O hax hfront ha
            go_wp2_with fail
            refine HAT.out.mono ?_
            rintro x wx ⟨rfl, rfl⟩
            go_wp2_with fail
            refine HFRO.out.mono ?_
            rintro x wz ho
            obtain ⟨vz, rfl, hoz, hLz, hkz⟩ := ho.own HL.out
            have hlz : (key :: l).length ≤ 1 + k0 := by rw [List.length_cons]; omega
            have htold := ltold_any HE.out HO.out hLz (by omega) HA.out (fifo_keys (1 + k0) _ _) (.inl ⟨rfl, rfl⟩) (fun b hb => by cases hb) hoz (by omega)
            have HTO := Lib.hid htold
            have HOZ := Lib.hid hoz
            clear ho hoz hLz hkz htold
            go_wp2_with fail
            refine HTO.out.mono ?_
            rintro x w' ⟨rfl, S', L', hO⟩
            have HL' := Lib.hid L'
            have HOO := Lib.hid hO
            clear L' hO
            go_wp2
            go_roundg (keys.length - (k + 1))
            case measure => omega
            case rel => exact ⟨k + 1, S', _, _, by omega, by omega, by omega, by go_num, hlz, HL'.out, HOO.out _ _ HOZ.out⟩
    · have hk3 := L.kept
      have hke : k = keys.length := by omega
      clear L O
      subst hke
      go_wp2
      go_ret
      exact ⟨rfl, hk3⟩
end
end Go.Proofs.YtemppijblfflgaaGreatDoor.Ev
namespace Go.Proofs.YtemppijblfflgaaGreatDoor.Ev
open Go Go.ChangeShapes Go.WideShapes Go.ChangeAt Go.RowKit

namespace fifoLaw
theorem bears : Bears Rows.fifoRow.laid := by
  refine ⟨?_, ?_, ?_, ?_, ?_, ?_, ?_, ?_, ?_, ?_, ?_, ?_, ?_, ?_⟩ <;> (unfold Rows.fifoRow; simp only [List.mem_cons, true_or, or_true])

set_option maxRecDepth 100000 in
theorem contract (H : Type) (enc : TypeId × Value → H) (W : World) (base : Nat) (args : Array Value) (ds gs : List (DataW H)) (before : List MemPlace)
    (hval : ∀ (j : Nat) t v, Tryz.f3.params[j]? = some t → args[j]? = some v → Value.okWide Tryz.prog W .any base t v)
    (hW : DataW.Whole enc Tryz.prog Tryz.f3.params.toList Rows.fifoSpec.vars false W args.toList ds gs before) (hL : laidMetH Tryz.prog Rows.fifoRow.laid W) :
    Calls Tryz.prog 3 args W fun e W' => ∃ v, e = .returned v ∧ Rows.fifoSpec.post enc Tryz.prog Tryz.f3 false true false false W args v W' := by
  have hW' := hW
  obtain ⟨p, q, hA0, hV, rfl, hfz, hnd⟩ := hW
  have hA : DataW.TrodAll enc Tryz.prog W 0 (fun _ => true) true Tryz.f3.params.toList args.toList ds p := hA0
  rw [Tryz.params3] at hA hval
  obtain ⟨v0, v1, d0, d1, p0, p1, rfl, rfl, rfl, h0, h1⟩ := trodAll_two hA
  obtain ⟨x, rfl, rfl, rfl, hwx⟩ := open_int Tryz.underlying3 (hval 1 3 v1 rfl rfl) h1
  obtain ⟨keys, hk⟩ := keysR_of Tryz.underlying22 Tryz.underlying27 (by kernel_rfl) (hval 0 22 v0 rfl rfl) h0
  obtain ⟨ea, he, ho⟩ := env_of hL bears
  have hb := bounds_i64 hwx
  refine (fifo_walk he ho hk x hb.1 hb.2).mono fun e W' ⟨h2, h3⟩ => ?_
  subst h2
  exact ⟨_, rfl, post_true laidOut_ rfl hW' (fun ds' hd => by
    obtain ⟨a, b, rfl⟩ : ∃ a b, ds' = [a, b] := by
      match ds', hd with
      | [a, b], _ => exact ⟨a, b, rfl⟩
    rfl) rfl Tryz.underlying4 (by
      intro t ht
      have : t = 22 ∨ t = 3 := by
        rw [Tryz.params3] at ht
        simpa using ht
      rcases this with rfl | rfl <;> exact ⟨by kernel_rfl, of_decide_eq_true (by kernel_rfl)⟩) h3⟩

theorem laid_met (os : Os) : laidMetH Tryz.prog Rows.fifoRow.laid ((laidWorld os).forCall (fun _ _ => 0) ⟨#[], #[.slice none 0 0, .int .i64 0], []⟩).memory :=
  laidMetH_of_parts (LaidIn.of_run (List.range 1000) 8 (by kernel_rfl) (by kernel_rfl) (by kernel_rfl) (by kernel_rfl)).met (by kernel_rfl)

theorem witness_row (os : Os) {H : Type} (enc : TypeId × Value → H) :
    (OpenSpec.ofChange Rows.fifoSpec).preRow enc Tryz.prog Tryz.f3 Rows.fifoRow.domain false Rows.fifoRow.laid ((laidWorld os).forCall (fun _ _ => 0) ⟨#[], #[.slice none 0 0, .int .i64 0], []⟩).memory #[.slice none 0 0, .int .i64 0] := by
  have hw : (DataW.whole enc Tryz.prog ((laidWorld os).forCall (fun _ _ => 0) ⟨#[], #[.slice none 0 0, .int .i64 0], []⟩).memory Tryz.f3.params.toList (OpenSpec.ofChange Rows.fifoSpec).vars false #[Value.slice none 0 0, .int .i64 0].toList 8).map (fun x => (x.1, x.2.1)) =
      some ([.nil, .lit (.int .i64 0)], []) := by kernel_rfl
  obtain ⟨⟨x1, x2, x3⟩, hx, hx1⟩ := Option.map_eq_some_iff.1 hw
  simp only [Prod.mk.injEq] at hx1
  obtain ⟨rfl, rfl⟩ := hx1
  exact OpenSpec.preRow_of_cond 8 hx (by kernel_rfl) (fun k hk => by cases hk) (by kernel_rfl) (laid_met os)

set_option maxRecDepth 100000 in
theorem lifted (os : Os) (started : os.Started) (H : Type) (enc : TypeId × Value → H) (F : Stop.Interp) :
    ReturnsInHanded {} Tryz.checked os 3 .any ((OpenSpec.ofChange Rows.fifoSpec).preRow enc Tryz.prog Tryz.f3 Rows.fifoRow.domain false Rows.fifoRow.laid) (((OpenSpec.ofChange Rows.fifoSpec).at F).post enc Tryz.prog Tryz.f3 false true false false) := by
  refine returnsInHanded_of_row (C := Tryz.checked) (s := OpenSpec.ofChange Rows.fifoSpec) ownKnob_ started (by kernel_rfl) Tryz.func3
    (witness_row_atRef (enc := enc) (C := Tryz.checked) false (laidWorld os) #[.slice none 0 0, .int .i64 0] rfl (by kernel_rfl) (by kernel_rfl) (by kernel_rfl) (witness_row os enc)) ?_
  intro W base args ds gs before hval hW _ _ _ hL _ _
  exact contract H enc W base args ds gs before hval hW hL

theorem said : Rows.FifoSaid :=
  OpenClaim.holds_of_cond 3 Tryz.f3 rfl rfl rfl rfl rfl rfl rfl ⟨rfl, rfl, rfl, rfl, rfl⟩ rfl rfl rfl rfl rfl (by kernel_rfl) Tryz.func3 (by kernel_rfl)
    (of_decide_eq_true (by kernel_rfl)) (by unfold Func.isWrapper; first | (rw [if_pos (by decide +kernel)]; kernel_rfl) | (rw [if_neg (by decide +kernel)]; exact ⟨rfl, rfl⟩))
    (fun os started H enc _ F => by rw [OpenClaim.pre_eq_preRow]; exact lifted os started H enc F)

theorem plain (f : FuncId) (fn : Func) (hf : Tryz.pinned.checked.prog.funcNamed "evictor/evictorkeep.Fifo" = some f) (hfn : Tryz.pinned.checked.prog.funcs[f]? = some fn) :
    true = Tryz.pinned.checked.prog.looks [] ∧ ∀ (j : Nat) t, fn.params[j]? = some t → Tryz.pinned.checked.prog.wantsStandIn t = false := by
  obtain rfl : f = 3 := Option.some.inj ((show Tryz.prog.funcNamed "evictor/evictorkeep.Fifo" = some 3 by kernel_rfl).symm.trans hf) |>.symm
  obtain rfl : fn = Tryz.f3 := (Option.some.inj (Tryz.func3.symm.trans hfn)).symm
  refine ⟨by kernel_rfl, fun j t ht => ?_⟩
  rw [Tryz.params3] at ht
  have : t = 22 ∨ t = 3 := by simpa using Array.mem_of_getElem? ht
  rcases this with rfl | rfl
  · exact (show Tryz.prog.wantsStandIn 22 = false by kernel_rfl)
  · exact (show Tryz.prog.wantsStandIn 3 = false by kernel_rfl)

theorem proved : Rows.FifoCardSaid :=
  Claim7.holds_tied_plain_at .later [] _ _ _ _ said (fun _ h => by cases h) (by kernel_rfl) (fun _ h => by cases h) fifo_row_tie rfl ⟨rfl, rfl⟩ (by kernel_rfl) rfl plain (by kernel_rfl)
end fifoLaw
end Go.Proofs.YtemppijblfflgaaGreatDoor.Ev
