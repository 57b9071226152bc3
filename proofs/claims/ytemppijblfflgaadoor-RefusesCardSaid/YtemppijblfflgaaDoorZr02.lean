/- evictorkeep.faults: the texts, as the code builds them. How the reader of a policy lies in memory; the package's errors and words. Conditions: none. -/
import Derived.Lib.SmallJoins
import Derived.Lib.Hide
import Derived.Laws.IdiomStrings
import Derived.Great.BuildSlice
import Derived.Deep.DrawnRows
import Derived.Deep.CutBlock
import Derived.Test.YtemppijblfflgaaDoorZr01
set_option linter.all false
namespace Go.Proofs.YtemppijblfflgaaDoor.Ev
open Go Go.RowKit

def fLong : Nat → Bytes
  | 0 => [113, 117, 101, 117, 101, 32, 114, 32, 49, 59, 32, 111, 110, 32, 109, 105, 115, 115, 32, 123, 32, 125]
  | k + 1 => fLong k ++ [32]
def fDeep : Nat → Bytes
  | 0 => [113, 117, 101, 117, 101, 32, 114, 32, 49, 59, 32, 111, 110, 32, 109, 105, 115, 115, 32]
  | k + 1 => fDeep k ++ [123, 32, 105, 102, 32, 102, 117, 108, 108, 32, 114, 32]
def fClosed : Nat → Bytes
  | 0 => []
  | k + 1 => fClosed k ++ [32, 125]
def fMany : Nat → Bytes
  | 0 => []
  | k + 1 => fMany k ++ ([113, 117, 101, 117, 101, 32, 113] ++ [UInt8.ofNat (97 + k)] ++ [32, 49, 59, 32])
theorem fLong_len (k : Nat) : (fLong k).length = 22 + k := by
  induction k with
  | zero => rfl
  | succ k ih => rw [fLong, List.length_append, ih]; rfl
theorem fLong_eq (k : Nat) : fLong k = [113, 117, 101, 117, 101, 32, 114, 32, 49, 59, 32, 111, 110, 32, 109, 105, 115, 115, 32, 123, 32, 125] ++ List.replicate k 32 := by
  induction k with
  | zero => rfl
  | succ k ih => rw [fLong, ih, List.replicate_succ', List.append_assoc]
theorem vs_cat (a b : Bytes) : (⟨a.toArray⟩ : ByteArray) ++ ⟨b.toArray⟩ = ⟨(a ++ b).toArray⟩ := by
  apply ByteArray.ext
  simp [ByteArray.data_append]
theorem fDeep_len : ∀ k, k ≤ 7 → (fDeep k).length ≤ 200 := by decide
theorem fClosed_len : ∀ k, k ≤ 7 → (fClosed k).length ≤ 200 := by decide
theorem fMany_len : ∀ k, k ≤ 8 → (fMany k).length ≤ 200 := by decide
def encF (x : Bytes × Nat × Nat) : List Value := [vs x.1, .int .i64 x.2.1, .int .i64 x.2.2]
/-- The list of the texts. -/
def OutFl (w : World) (e : Ending) (w' : World) : Prop := ∃ g c, e = .returned (.slice (some ⟨g, 0, none⟩) 81 c) ∧ Kept (fun b => w.heap.size ≤ b) w w' ∧ Row w' g 26 (faultL.flatMap encF)
theorem infoFault : (Tryd.prog.info? 26).map (fun i => (i.zero, i.size, i.bytes)) = some (some (.agg #[vs [], .int .i64 0, .int .i64 0]), 3, 32) := by kernel_rfl
section
variable {w : World}
attribute [local go_sem ↓] Go.wp_at_zero Go.wp_at_succ
set_option maxRecDepth 100000 in
set_option maxHeartbeats 4000000 in
theorem faults_any : Calls Tryd.prog 4 #[] w (OutFl w) := by
  obtain ⟨i0, hi0, hz0, hz1, hz2⟩ := info_parts infoFault
  go_enter Tryd.func4, Tryd.ntmps4
  go_wp2_with fail
  go_loopg [1] 678 (fun gg s1 wr => ∃ k : Nat, k ≤ 678 ∧ 678 - k ≤ gg ∧ s1 = .string ⟨(fLong k).toArray⟩ ∧ ∃ n, wr = w.drewN n)
  case atStart => exact ⟨0, by omega, by omega, rfl, 0, rfl⟩
  case round =>
    obtain ⟨k, hk, hg, rfl, n, rfl⟩ := hrel
    have hlen := fLong_len k
    have szl : (⟨(fLong k).toArray⟩ : ByteArray).size = 22 + k := by simp [ByteArray.size, hlen]
    by_cases hlt : k < 678
    · have e2 : decide (((22 + k : Nat) : Int) < 700) = true := by simp; omega
      go_wp2
      go_roundg (678 - (k + 1))
      case measure => omega
      case rel =>
        refine ⟨k + 1, by omega, by omega, ?_, n, rfl⟩
        rw [fLong, ← vs_cat]
    · have hke : k = 678 := by omega
      subst hke
      have HS := Lib.hid szl
      clear hlen hk hg hlt
      go_wp2_with fail
      generalize hLG : fLong 678 = LG at *
      have HLG := Lib.hid hLG
      clear hLG szl
      go_loopg [4, 2, 3] 7 (fun gg s4 s2 s3 wr => ∃ k : Nat, k ≤ 7 ∧ 7 - k ≤ gg ∧ s4 = .int .i64 k ∧ s2 = .string ⟨(fDeep k).toArray⟩ ∧ s3 = .string ⟨(fClosed k).toArray⟩ ∧ ∃ n, wr = w.drewN n)
      case atStart => exact ⟨0, by omega, by omega, rfl, rfl, rfl, _, rfl⟩
      case round =>
        obtain ⟨k, hk, hg, rfl, rfl, rfl, n, rfl⟩ := hrel
        by_cases hlt : k < 7
        · have szd : (⟨(fDeep k).toArray⟩ : ByteArray).size = (fDeep k).length := by simp [ByteArray.size]
          have szc : (⟨(fClosed k).toArray⟩ : ByteArray).size = (fClosed k).length := by simp [ByteArray.size]
          have h9 : (fDeep k).length ≤ 200 := fDeep_len k (by omega)
          have h8 : (fClosed k).length ≤ 200 := fClosed_len k (by omega)
          go_wp2
          go_roundg (7 - (k + 1))
          case measure => omega
          case rel =>
            refine ⟨k + 1, by omega, by omega, by go_num, ?_, ?_, _, rfl⟩
            · rw [fDeep, ← vs_cat]
            · rw [fClosed, ← vs_cat]
        · have hke : k = 7 := by omega
          subst hke
          clear hk hg hlt
          go_wp2_with fail
          generalize hDP : fDeep 7 = DP at *
          generalize hCL : fClosed 7 = CL at *
          have HDP := Lib.hid hDP
          have HCL := Lib.hid hCL
          clear hDP hCL
          go_loopg [6, 5] 8 (fun gg s6 s5 wr => ∃ k : Nat, k ≤ 8 ∧ 8 - k ≤ gg ∧ s6 = .int .i64 k ∧ s5 = .string ⟨(fMany k).toArray⟩ ∧ Kept (fun b => w.heap.size ≤ b) w wr)
          case atStart => exact ⟨0, by omega, by omega, rfl, rfl, (Kept.refl _ _).drewN _⟩
          case round =>
            obtain ⟨k, hk, hg, rfl, rfl, hkw⟩ := hrel
            by_cases hlt : k < 8
            · have szm : (⟨(fMany k).toArray⟩ : ByteArray).size = (fMany k).length := by simp [ByteArray.size]
              have h9 : (fMany k).length ≤ 200 := fMany_len k (by omega)
              have HKW := Lib.hid hkw
              clear hkw
              have h97 : (UInt8.ofNat (97 + k)).toNat = 97 + k := by rw [UInt8.toNat_ofNat']; omega
              have hcv := run_convert_bytes_back (P := Tryd.prog) (wr.alloc (.cells #[.int .u8 (97 + (k : Int))] 5)) 32 9 5 ⟨wr.heap.size, 0, none⟩ 1 [UInt8.ofNat (97 + k)] Tryd.underlying32 Tryd.underlying5 Tryd.underlying9 (fun j hj => by
                obtain rfl : j = 0 := by simp at hj; omega
                have := (Row.new wr 5 [.int .u8 (97 + (k : Int))]).cell 0
                simp only [Addr.add, List.getElem_cons_zero, h97]
                simpa using this)
              have sz1 : (⟨[UInt8.ofNat (97 + k)].toArray⟩ : ByteArray).size = 1 := rfl
              simp only [List.length_cons, List.length_nil] at hcv
              generalize hx1 : [UInt8.ofNat (97 + k)] = X1 at *
              have HX1 := Lib.hid hx1
              clear hx1 h97
              go_wp2
              go_roundg (8 - (k + 1))
              case measure => omega
              case rel =>
                refine ⟨k + 1, by omega, by omega, by go_num, ?_, HKW.out.trans ((((Kept.refl _ wr).alloc (Nat.le_refl _) _)).mono (fun b hb => Nat.le_trans HKW.out.size hb))⟩
                rw [fMany, HX1.out, ← vs_cat, ← vs_cat, ← vs_cat]
            · have hke : k = 8 := by omega
              subst hke
              have HKW := Lib.hid hkw
              clear hk hg hlt hkw
              have s1 : (⟨LG.toArray⟩ : ByteArray).size = 700 := by rw [← HLG.out]; simp [ByteArray.size, fLong_len]
              have s2 : (⟨DP.toArray⟩ : ByteArray).size = 103 := by rw [← HDP.out]; decide
              have s3 : (⟨CL.toArray⟩ : ByteArray).size = 14 := by rw [← HCL.out]; decide
              have s4 : (⟨(fMany 8).toArray⟩ : ByteArray).size = 96 := by decide
              generalize hMN : fMany 8 = MN at *
              have HMN := Lib.hid hMN
              clear hMN
              go_wp2
              have e1 := HLG.out
              have e2 := HDP.out
              have e3 := HCL.out
              have e4 := HMN.out
              rw [fLong_eq] at e1
              clear s1 s2 s3 s4
              subst e1 e2 e3 e4
              simp only [vs_cat]
              refine wp_buildSlice (P := Tryd.prog) 22 26 81 _ rfl (faultL.flatMap encF).toArray i0 _ Tryd.underlying22 hi0 hz0 (by rw [hz1]; decide) (by rw [hz1]; decide) (by rw [hz1]; kernel_rfl) ?_
              go_wp2
              go_ret
              exact ⟨_, _, rfl, HKW.out.trans ((((Kept.refl _ wr).alloc (Nat.le_refl _) _)).mono (fun b hb => Nat.le_trans HKW.out.size hb)), Row.new wr _ _⟩
end
end Go.Proofs.YtemppijblfflgaaDoor.Ev
namespace Go.Proofs.YtemppijblfflgaaDoor.Ev
open Go Go.RowKit

/-- The cells of policy.reader. -/
def rdCells (s : Bytes) (st : PS) (gp : Nat) (wp : Value) : List Value :=
  [vs s, .int .i64 st.i, vs st.t.kind, vs st.t.text, .int .i64 st.t.pos, .pointer (some ⟨gp, 0, none⟩), .bool st.fseen, .int .i64 st.depth, .int .i64 st.loops, wp]

theorem skip_le (p : UInt8 → Bool) (s : Bytes) (i : Nat) (h : i ≤ s.length) : i ≤ skip p s i ∧ skip p s i ≤ s.length := by
  unfold skip
  have h1 := List.takeWhile_sublist (p := p) (l := s.drop i)
  have h2 := h1.length_le
  rw [List.length_drop] at h2
  omega

theorem skip_step (p : UInt8 → Bool) (s : Bytes) (i : Nat) (c : UInt8) (h : s[i]? = some c) : skip p s i = if p c then skip p s (i + 1) else i := by
  obtain ⟨hi, hc⟩ := List.getElem?_eq_some_iff.1 h
  unfold skip
  rw [List.drop_eq_getElem_cons hi, hc]
  by_cases hp : p c
  · simp [hp]; omega
  · simp only [Bool.not_eq_true] at hp
    simp [hp]

theorem skip_end (p : UInt8 → Bool) (s : Bytes) (i : Nat) (h : s[i]? = none) : skip p s i = i := by
  unfold skip
  have : s.length ≤ i := by simpa using h
  rw [List.drop_eq_nil_of_le this]
  simp

theorem size_vs (s : Bytes) : (ByteArray.mk s.toArray).size = s.length := List.size_toArray
end Go.Proofs.YtemppijblfflgaaDoor.Ev
