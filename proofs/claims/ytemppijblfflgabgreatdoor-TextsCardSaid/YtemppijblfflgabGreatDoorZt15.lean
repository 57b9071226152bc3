/- The document's answer: the list of tokens. The document's answer: the plain reading of a whole text, in its loops. No program in sight. The document's answer: Read. The document's answer: Read, walked. How the state of the document's answer lies in memory: sequences of entries. The document's answer: a state in memory; where a key stands. The document's answer: a run in memory; values. The document's answer: a rule's block, on the statements' contract. Conditions: none. -/
import Derived.Deep.DrawnRows
import Derived.IntWalk
import Derived.BigRegion
import Derived.Deep.RegionHeld3
import Derived.Test.YtemppijblfflgabGreatDoorZt01
import Derived.Test.YtemppijblfflgabGreatDoorZt02
import Derived.Test.YtemppijblfflgabGreatDoorZt03
import Derived.Test.YtemppijblfflgabGreatDoorZt10
import Derived.Test.YtemppijblfflgabGreatDoorZt11
import Derived.Test.YtemppijblfflgabGreatDoorZt13
import Derived.Test.YtemppijblfflgabGreatDoorZt14
set_option linter.all false
namespace Go.Proofs.YtemppijblfflgabGreatDoor.Ev
open Go Go.RowKit

/-- The words, as the document's answer has them laid. -/
structure WordsG (w : World) (gw : Nat × Nat) : Prop where
  head : w.cell? ⟨3, 0, none⟩ = some (.slice (some ⟨gw.1, gw.2, none⟩) 24 24)
  at_ : ∀ j, j < 24 → w.cell? ⟨gw.1, gw.2 + j, none⟩ = some (vs (keywords.getD j []))
  lt : 3 < w.heap.size ∧ gw.1 < w.heap.size
theorem WordsG.kept {w w' : World} {gw : Nat × Nat} (h : WordsG w gw) (hk : Kept (fun b => w.heap.size ≤ b) w w') : WordsG w' gw :=
  ⟨(hk.cell (p := ⟨3, 0, none⟩) (by have := h.lt.1; simp only; omega)).trans h.head, fun j hj => (hk.cell (p := ⟨gw.1, gw.2 + j, none⟩) (by have := h.lt.2; simp only; omega)).trans (h.at_ j hj), Nat.lt_of_lt_of_le h.lt.1 hk.size, Nat.lt_of_lt_of_le h.lt.2 hk.size⟩

theorem infoRTok : (Tryz.prog.info? 138).map (fun i => (i.zero, i.size, i.bytes)) = some (some (.agg #[vs [], vs [], .int .i64 0]), 3, 40) := by kernel_rfl

section
variable {w : World}
set_option maxRecDepth 100000 in
theorem rlow_any (c : UInt8) : Calls Tryz.prog 84 #[.int .u8 c.toNat] w fun e w' => e = .returned (.bool (low c)) ∧ w' = w := by
  rcases low_cases c with ⟨hl, l1, l2⟩ | ⟨hl, l1⟩ | ⟨hl, l1, l2⟩
  · rw [hl]
    clear hl
    go_enter Tryz.func84, Tryz.ntmps84
    go_wp2
    go_ret
    exact ⟨rfl, rfl⟩
  · rw [hl]
    clear hl
    go_enter Tryz.func84, Tryz.ntmps84
    go_wp2
    go_ret
    exact ⟨rfl, rfl⟩
  · rw [hl]
    have e1 : decide ((c.toNat : Int) ≤ 122) = false := by simp; omega
    clear hl
    go_enter Tryz.func84, Tryz.ntmps84
    go_wp2
    go_ret
    exact ⟨rfl, rfl⟩
set_option maxRecDepth 100000 in
theorem rfig_any (c : UInt8) : Calls Tryz.prog 85 #[.int .u8 c.toNat] w fun e w' => e = .returned (.bool (fig c)) ∧ w' = w := by
  rcases fig_cases c with ⟨hl, l1, l2⟩ | ⟨hl, l1⟩ | ⟨hl, l1, l2⟩
  · rw [hl]
    clear hl
    go_enter Tryz.func85, Tryz.ntmps85
    go_wp2
    go_ret
    exact ⟨rfl, rfl⟩
  · rw [hl]
    clear hl
    go_enter Tryz.func85, Tryz.ntmps85
    go_wp2
    go_ret
    exact ⟨rfl, rfl⟩
  · rw [hl]
    have e1 : decide ((c.toNat : Int) ≤ 57) = false := by simp; omega
    clear hl
    go_enter Tryz.func85, Tryz.ntmps85
    go_wp2
    go_ret
    exact ⟨rfl, rfl⟩
end

/-- The tokens so far. -/
structure TL (w wr : World) (s : Bytes) (m i : Nat) (done : List RTok) (a : Option Addr) (n c : Nat) : Prop where
  kept : Kept (fun b => w.heap.size ≤ b) w wr
  nn : n = done.length
  sl : Sl (fun b => w.heap.size ≤ b) wr 138 3 (.slice a n c) n (done.flatMap encRTok)
  eq : done ++ rtoksFrom s (m + 1) i = rtoks s
  i1 : i ≤ s.length
  m1 : s.length ≤ i + m
  dl : done.length ≤ i
theorem TL.start (w : World) (s : Bytes) : TL w w s s.length 0 [] none 0 0 := ⟨Kept.refl _ _, rfl, ⟨World.ownsRow_nil _ _ _ _, fun g hg => by cases hg⟩, rfl, Nat.zero_le _, by omega, Nat.zero_le _⟩
theorem TL.drewN {w wr : World} {s : Bytes} {m i : Nat} {done : List RTok} {a : Option Addr} {n c : Nat} (h : TL w wr s m i done a n c) (k : Nat) : TL w (wr.drewN k) s m i done a n c := ⟨h.kept.drewN k, h.nn, h.sl.of_heap rfl, h.eq, h.i1, h.m1, h.dl⟩

theorem TL.next {w wr w3 : World} {s : Bytes} {m i : Nat} {done : List RTok} {a : Option Addr} {n c : Nat} (h : TL w wr s m i done a n c) {x : RTok} {E : Nat} (hx : rlex s i = (x, E)) (hf : rfinal x = false) (hk : Kept (fun b => w.heap.size ≤ b) w w3) {g2 c2 : Nat}
    (hs : Sl (fun b => w.heap.size ≤ b) w3 138 3 (.slice (some ⟨g2, 0, none⟩) (n + 1) c2) (n + 1) (done.flatMap encRTok ++ encRTok x)) : (∃ m', TL w w3 s m' E (done ++ [x]) (some ⟨g2, 0, none⟩) (n + 1) c2) ∧ i < E ∧ E ≤ s.length := by
  have hon := rlex_on s i h.i1 (by rw [hx]; exact hf)
  rw [hx] at hon
  have heq := h.eq
  rw [rtoksFrom, hx] at heq
  simp only [hf, Bool.false_eq_true, if_false] at heq
  have hm := h.m1
  obtain ⟨o1, o2⟩ := hon
  simp only at o1 o2
  refine ⟨⟨m - 1, hk, by rw [List.length_append, ← h.nn]; rfl, by rw [List.flatMap_append]; simpa using hs, ?_, o2, by omega, by have := h.dl; simp; omega⟩, o1, o2⟩
  have e : m - 1 + 1 = m := by omega
  rw [e, List.append_assoc]
  exact heq
theorem TL.last {w wr w3 : World} {s : Bytes} {m i : Nat} {done : List RTok} {a : Option Addr} {n c : Nat} (h : TL w wr s m i done a n c) {x : RTok} {E : Nat} (hx : rlex s i = (x, E)) (hf : rfinal x = true) {g2 c2 : Nat}
    (hs : Sl (fun b => w.heap.size ≤ b) w3 138 3 (.slice (some ⟨g2, 0, none⟩) (n + 1) c2) (n + 1) (done.flatMap encRTok ++ encRTok x)) : Sl (fun b => w.heap.size ≤ b) w3 138 3 (.slice (some ⟨g2, 0, none⟩) (n + 1) c2) (rtoks s).length ((rtoks s).flatMap encRTok) := by
  have heq := h.eq
  rw [rtoksFrom, hx] at heq
  simp only [hf, if_true] at heq
  rw [← heq, List.flatMap_append, List.length_append, ← h.nn]
  simpa using hs
theorem TL.went {w wr wc w3 : World} {s : Bytes} {m i : Nat} {done : List RTok} {a : Option Addr} {n c : Nat} (h : TL w wr s m i done a n c) (hk : Kept (fun b => wr.heap.size ≤ b) wr wc) {o : Obj}
    (hk3 : Kept (fun b => (Value.slice a n c).ownBlock = some b ∨ (wc.alloc o).heap.size ≤ b) (wc.alloc o) w3) : Kept (fun b => w.heap.size ≤ b) w w3 := by
  have hsz := h.kept.size
  refine h.kept.trans ((hk.mono (fun b hb => Nat.le_trans hsz hb)).trans (((Kept.refl _ _).alloc (Nat.le_trans hsz hk.size) o).trans (hk3.mono (fun b hb => hb.elim (fun e => h.sl.2 b e) (fun e => ?_)))))
  have := hk.size
  simp at e
  omega

def OutTs (w : World) (s : Bytes) (e : Ending) (w' : World) : Prop :=
  Kept (fun b => w.heap.size ≤ b) w w' ∧ ∃ v, e = .returned v ∧ Sl (fun b => w.heap.size ≤ b) w' 138 3 v (rtoks s).length ((rtoks s).flatMap encRTok)

theorem kw_take (word : Bytes) (j : Nat) (hj : j < 24) : (keywords.take (j + 1)).contains word = ((keywords.take j).contains word || (keywords.getD j [] == word)) := by
  have h : j < keywords.length := hj
  rw [List.take_succ_eq_append_getElem h]
  have e : keywords.getD j [] = keywords[j] := by simp only [List.getD, List.getElem?_eq_getElem h, Option.getD_some]
  rw [e]
  generalize keywords[j] = k
  generalize keywords.take j = l
  have e2 : (l ++ [k]).contains word = (l.contains word || [k].contains word) := by
    rw [Bool.eq_iff_iff, Bool.or_eq_true, List.contains_iff_mem, List.contains_iff_mem, List.contains_iff_mem, List.mem_append]
  rw [e2]
  congr 1
  rw [Bool.eq_iff_iff, List.contains_iff_mem, List.mem_singleton, beq_iff_eq]
  exact eq_comm
/-- The kind so far. -/
def kwIs (word : Bytes) (j : Nat) : Bytes := if (keywords.take j).contains word then word else kName
theorem kwIs_yes {word : Bytes} {j : Nat} (hj : j < 24) (h : (keywords.getD j [] == word) = true) : kwIs word (j + 1) = keywords.getD j [] := by
  unfold kwIs
  rw [kw_take word j hj, h, Bool.or_true, if_pos rfl]
  exact (by simpa using h : keywords.getD j [] = word).symm
theorem kwIs_no {word : Bytes} {j : Nat} (hj : j < 24) (h : (keywords.getD j [] == word) = false) : kwIs word (j + 1) = kwIs word j := by
  unfold kwIs
  rw [kw_take word j hj, h, Bool.or_false]

section
variable {w : World} {gw : Nat × Nat} {s : Bytes}
set_option maxRecDepth 100000 in
set_option maxHeartbeats 8000000 in
theorem tokens_any (hw : WordsG w gw) (hl : s.length ≤ 1000) : Calls Tryz.prog 54 #[vs s] w (OutTs w s) := by
  obtain ⟨i0, hi0, hz0, hz1, hz2⟩ := info_parts infoRTok
  obtain ⟨gw, ow⟩ := gw
  have HW := Lib.hid hw
  clear hw
  unfold vs at *
  go_enter Tryz.func54, Tryz.ntmps54
  go_wp2_with fail
  go_loopg [3, 4] (s.length + 1) (fun gg s3 s4 wr => ∃ (m i : Nat) (done : List RTok) (a : Option Addr) (n c : Nat), s3 = .slice a n c ∧ s4 = .int .i64 i ∧ s.length + 1 - i ≤ gg ∧ TL w wr s m i done a n c)
  case atStart => exact ⟨s.length, 0, [], none, 0, 0, rfl, rfl, by omega, TL.start w s⟩
  case round =>
    obtain ⟨m, i, done, a, n, c, rfl, rfl, hg, hT⟩ := hrel
    have HT := Lib.hid hT
    have HG := Lib.hid hg
    have hi1 := hT.i1
    clear hT hg
    go_upto_block 2 with fail
    go_cut [4] (fun s4 wx => s4 = .int .i64 (skip blank s i : Nat) ∧ ∃ q, wx = wr.drewN q)
    case first =>
      go_wp2_with fail
      go_loopg [4] (s.length - i) (fun k s4 wz => ∃ j : Nat, k = s.length - j ∧ i ≤ j ∧ j ≤ s.length ∧ s4 = .int .i64 j ∧ skip blank s j = skip blank s i ∧ ∃ q, wz = wr.drewN q)
      case atStart => exact ⟨i, rfl, Nat.le_refl _, hi1, rfl, rfl, 0, rfl⟩
      case round =>
        obtain ⟨j, hgk, hj1, hj2, rfl, hsk, q, rfl⟩ := hrel
        have HGk := Lib.hid hgk
        have HSk := Lib.hid hsk
        clear hgk hsk
        have hsz := size_vs s
        by_cases hlt : j < s.length
        · obtain ⟨d, hd⟩ : ∃ d, s[j]? = some d := ⟨_, List.getElem?_eq_getElem hlt⟩
          obtain ⟨hy, hyd⟩ := vs_idx hd
          have Hst := Lib.hid (skip_step blank s j d hd)
          clear hd
          by_cases hb : blank d = true
          · have hb2 : d = 32 ∨ d = 10 := by simpa [blank] using hb
            have HB := Lib.hid hb
            clear hb
            rcases hb2 with rfl | rfl
            all_goals
              go_wp2
              go_roundg (s.length - (j + 1))
              case measure => have := HGk.out; omega
              case rel =>
                have h2 := Hst.out
                rw [if_pos HB.out, HSk.out] at h2
                exact ⟨j + 1, rfl, by omega, by omega, by go_num, h2.symm, q, rfl⟩
          · have e1 : ((d.toNat : Int) == 32) = false := by
              simp only [beq_eq_false_iff_ne, ne_eq]; intro e; apply hb
              have : d = 32 := UInt8.toNat_inj.1 (by show d.toNat = 32; omega)
              rw [this]; rfl
            have e2 : ((d.toNat : Int) == 10) = false := by
              simp only [beq_eq_false_iff_ne, ne_eq]; intro e; apply hb
              have : d = 10 := UInt8.toNat_inj.1 (by show d.toNat = 10; omega)
              rw [this]; rfl
            have e3 : decide ((d.toNat : Int) = 32) = false := by simpa using e1
            have e4 : decide ((d.toNat : Int) = 10) = false := by simpa using e2
            have HB := Lib.hid hb
            clear hb
            go_wp2
            go_meet
            have h2 := Hst.out
            rw [if_neg HB.out, HSk.out] at h2
            rw [h2]
            exact ⟨rfl, q, rfl⟩
        · have hle : j = s.length := by omega
          have hse := skip_end blank s j (by simp; omega)
          rw [HSk.out] at hse
          have Hse := Lib.hid hse
          have hd : decide ((j : Int) < (s.length : Int)) = false := by simp; omega
          clear hse hle
          go_wp2
          go_meet
          rw [Hse.out]
          exact ⟨rfl, q, rfl⟩
    case rest =>
      obtain ⟨rfl, q, rfl⟩ := hcut
      obtain ⟨hp1, hp2⟩ := skip_le blank s i hi1
      have hT := HT.out.drewN q
      have hrx := rlex_eq s i
      have HT2 := Lib.hid hT
      have HRX := Lib.hid hrx
      clear hT hrx HT
      generalize wr.drewN q = wq at *
      generalize skip blank s i = p at *
      have hkW : Kept (fun b => wq.heap.size ≤ b) wq (wq.alloc (.cells #[vs kNone, vs [], .int .i64 p] 138)) := (Kept.refl _ _).alloc (Nat.le_refl _) _
      have hrow := Row.new wq 138 [vs kNone, vs [], .int .i64 p]
      have HKW := Lib.hid hkW
      have HROW := Lib.hid hrow
      clear hkW hrow
      unfold vs at *
      go_upto_block 4 with fail
      go_cut [6] (fun s6 wx => s6 = .int .i64 (tokEnd s p : Nat) ∧ Kept (fun b => wq.heap.size ≤ b) wq wx ∧ Row wx wq.heap.size 138 [vs (tokIs s p), vs [], .int .i64 p])
      case first =>
        have hsz := size_vs s
        have hpp : s[p]? = none ∨ ∃ c, s[p]? = some c := by
          cases s[p]? with
          | none => exact .inl rfl
          | some c => exact .inr ⟨c, rfl⟩
        have HWQ := Lib.hid (HW.out.kept HT2.out.kept)
        rcases hpp with hno | ⟨c, hc⟩
        · have hpl : p = s.length := by
            have : s.length ≤ p := by simpa using hno
            omega
          have HI := Lib.hid (tokIs_none hno)
          clear hno
          subst hpl
          go_wp2
          go_meet
          rw [HI.out.1, HI.out.2]
          exact ⟨rfl, (Kept.refl _ _).alloc (Nat.le_refl _) _, Row.new wq 138 [vs kEnd, vs [], .int .i64 s.length]⟩
        · have hplt : p < s.length := by
            rcases Nat.lt_or_ge p s.length with h | h
            · exact h
            · rw [List.getElem?_eq_none h] at hc; cases hc
          obtain ⟨hx, hxc⟩ := vs_idx hc
          have hne : ((p : Int) == (s.length : Int)) = false := by simp; omega
          have hne2 : decide ((p : Int) = (s.length : Int)) = false := by simp; omega
          cases hlow : low c with
          | true =>
            have HL := Lib.hid (tokIs_low hc hlow)
            have HLOW := Lib.hid hlow
            have HLC := Lib.hid (rlow_any (w := wq.alloc (.cells #[vs kNone, vs [], .int .i64 p] 138)) c)
            rw [hlow] at HLC
            clear hc hlow
            unfold vs at HLC
            go_wp2_with fail
            refine HLC.out.mono ?_
            rintro e w1 ⟨rfl, rfl⟩
            go_upto_block 5 with fail
            go_cut [6] (fun s6 wx => s6 = .int .i64 (skip low s p : Nat) ∧ wx = (wq.alloc (.cells #[vs kNone, vs [], .int .i64 p] 138)))
            case first =>
              go_wp2_with fail
              go_loopg [6] (s.length - p) (fun k s6 wz => ∃ j : Nat, k = s.length - j ∧ p ≤ j ∧ j ≤ s.length ∧ s6 = .int .i64 j ∧ skip low s j = skip low s p ∧ wz = (wq.alloc (.cells #[vs kNone, vs [], .int .i64 p] 138)))
              case atStart => exact ⟨p, rfl, Nat.le_refl _, hp2, rfl, rfl, rfl⟩
              case round =>
                obtain ⟨j, hgk, hj1, hj2, rfl, hsk, rfl⟩ := hrel
                have HGk := Lib.hid hgk
                have HSk := Lib.hid hsk
                clear hgk hsk
                by_cases hlt : j < s.length
                · obtain ⟨d, hd⟩ : ∃ d, s[j]? = some d := ⟨_, List.getElem?_eq_getElem hlt⟩
                  obtain ⟨hy, hyd⟩ := vs_idx hd
                  have Hst := Lib.hid (skip_step low s j d hd)
                  have HLD := Lib.hid (rlow_any (w := wq.alloc (.cells #[vs kNone, vs [], .int .i64 p] 138)) d)
                  clear hd
                  unfold vs at HLD
                  cases hld : low d with
                  | true =>
                    rw [hld] at HLD
                    have HL2 := Lib.hid hld
                    clear hld
                    go_wp2_with fail
                    refine HLD.out.mono ?_
                    rintro e w1 ⟨rfl, rfl⟩
                    go_wp2
                    go_roundg (s.length - (j + 1))
                    case measure => have := HGk.out; omega
                    case rel =>
                      have h2 := Hst.out
                      rw [HL2.out, if_pos rfl, HSk.out] at h2
                      exact ⟨j + 1, rfl, by omega, by omega, by go_num, h2.symm, rfl⟩
                  | false =>
                    rw [hld] at HLD
                    have HL2 := Lib.hid hld
                    clear hld
                    go_wp2_with fail
                    refine HLD.out.mono ?_
                    rintro e w1 ⟨rfl, rfl⟩
                    go_wp2
                    go_meet
                    have h2 := Hst.out
                    rw [HL2.out, if_neg (by decide), HSk.out] at h2
                    rw [h2]
                    exact ⟨rfl, rfl⟩
                · have hle : j = s.length := by omega
                  have hse := skip_end low s j (by simp; omega)
                  rw [HSk.out] at hse
                  have Hse := Lib.hid hse
                  have hd : decide ((j : Int) < (s.length : Int)) = false := by simp; omega
                  clear hse hle
                  go_wp2
                  go_meet
                  rw [Hse.out]
                  exact ⟨rfl, rfl⟩
            case rest =>
              obtain ⟨rfl, rfl⟩ := hcut
              obtain ⟨hk1, hk2⟩ := skip_le low s p hp2
              have HK12 := Lib.hid (And.intro hk1 hk2)
              have hex := piece_extract s p (skip low s p)
              generalize skip low s p = e at *
              by_cases h8 : 8 < e - p
              · have h8' : (8 : Int) < (e : Int) - (p : Int) := by omega
                have h8'' : decide ((e : Int) - (p : Int) ≤ 8) = false := by simp; omega
                have H8 := Lib.hid h8
                clear h8
                go_wp2
                go_meet
                rw [HL.out.1, HL.out.2, if_pos H8.out]
                exact ⟨rfl, HKW.out, HROW.out⟩
              · have h8' : (e : Int) - (p : Int) ≤ 8 := by omega
                have h8'' : decide ((e : Int) - (p : Int) ≤ 8) = true := by simp; omega
                have H8 := Lib.hid h8
                clear h8
                generalize hW : piece s p e = word at *
                have hwk := HWQ.out.kept ((Kept.refl _ wq).alloc (Nat.le_refl _) (.cells #[vs kName, vs [], .int .i64 p] 138))
                have hh := hwk.head
                have hgl := hwk.lt.2
                dsimp only at hh hgl
                have HWK := Lib.hid hwk
                clear hwk
                go_wp2_with fail
                go_loopg [60] 24 (fun k s60 wz => ∃ j : Nat, k = 24 - j ∧ j ≤ 24 ∧ s60 = .int .i64 j ∧ Kept (fun b => wq.heap.size ≤ b) wq wz ∧ Row wz wq.heap.size 138 [vs (kwIs word j), vs [], .int .i64 p])
                case atStart => exact ⟨0, rfl, by omega, rfl, (Kept.refl _ wq).alloc (Nat.le_refl _) (.cells #[vs kName, vs [], .int .i64 p] 138), Row.new wq 138 [vs kName, vs [], .int .i64 p]⟩
                case round =>
                  obtain ⟨j, hgk, hj, rfl, hk, hr⟩ := hrel
                  by_cases hlt : j < 24
                  · have hcw := (HWQ.out.kept hk).at_ j hlt
                    dsimp only at hcw
                    have r0 := hr.cell 0
                    have rl := hr.lt
                    have rf := fun j => hr.frozen j
                    have HK := Lib.hid hk
                    have HR := Lib.hid hr
                    have HGk := Lib.hid hgk
                    clear hk hr hgk
                    simp at r0
                    cases hm : (keywords.getD j [] == word) with
                    | true =>
                      have HY := Lib.hid (kwIs_yes hlt hm)
                      have hm2 : decide (keywords.getD j [] = word) = true := by simpa using hm
                      generalize keywords.getD j [] = kw at *
                      unfold vs at *
                      go_wp2
                      go_roundg (24 - (j + 1))
                      case measure => have := HGk.out; omega
                      case rel =>
                        refine ⟨j + 1, rfl, by omega, by go_num, HK.out.setCell (p := ⟨wq.heap.size, 0, none⟩) (Nat.le_refl _) _, ?_⟩
                        rw [HY.out]
                        exact HR.out.set_ 0 (vs kw)
                    | false =>
                      have HY := Lib.hid (kwIs_no hlt hm)
                      have hm2 : decide (keywords.getD j [] = word) = false := by simpa using hm
                      generalize keywords.getD j [] = kw at *
                      unfold vs at *
                      go_wp2
                      go_roundg (24 - (j + 1))
                      case measure => have := HGk.out; omega
                      case rel =>
                        refine ⟨j + 1, rfl, by omega, by go_num, HK.out, ?_⟩
                        rw [HY.out]
                        exact HR.out
                  · have hje : j = 24 := by omega
                    subst hje
                    have HK := Lib.hid hk
                    have HR := Lib.hid hr
                    clear hk hr hgk
                    go_wp2
                    go_meet
                    rw [HL.out.1, HL.out.2, if_neg H8.out]
                    exact ⟨rfl, HK.out, HR.out⟩
          | false =>
            have HLC := Lib.hid (rlow_any (w := wq.alloc (.cells #[vs kNone, vs [], .int .i64 p] 138)) c)
            have HFC := Lib.hid (rfig_any (w := wq.alloc (.cells #[vs kNone, vs [], .int .i64 p] 138)) c)
            rw [hlow] at HLC
            unfold vs at HLC HFC
            cases hfig : fig c with
            | true =>
              have HL := Lib.hid (tokIs_fig hc hlow hfig)
              have HLOW := Lib.hid (And.intro hlow hfig)
              rw [hfig] at HFC
              clear hc hlow hfig
              go_wp2_with fail
              refine HLC.out.mono ?_
              rintro e w1 ⟨rfl, rfl⟩
              go_wp2_with fail
              refine HFC.out.mono ?_
              rintro e w1 ⟨rfl, rfl⟩
              go_upto_block 9 with fail
              go_cut [6] (fun s6 wx => s6 = .int .i64 (skip fig s p : Nat) ∧ wx = (wq.alloc (.cells #[vs kNone, vs [], .int .i64 p] 138)))
              case first =>
                go_wp2_with fail
                go_loopg [6] (s.length - p) (fun k s6 wz => ∃ j : Nat, k = s.length - j ∧ p ≤ j ∧ j ≤ s.length ∧ s6 = .int .i64 j ∧ skip fig s j = skip fig s p ∧ wz = (wq.alloc (.cells #[vs kNone, vs [], .int .i64 p] 138)))
                case atStart => exact ⟨p, rfl, Nat.le_refl _, hp2, rfl, rfl, rfl⟩
                case round =>
                  obtain ⟨j, hgk, hj1, hj2, rfl, hsk, rfl⟩ := hrel
                  have HGk := Lib.hid hgk
                  have HSk := Lib.hid hsk
                  clear hgk hsk
                  by_cases hlt : j < s.length
                  · obtain ⟨d, hd⟩ : ∃ d, s[j]? = some d := ⟨_, List.getElem?_eq_getElem hlt⟩
                    obtain ⟨hy, hyd⟩ := vs_idx hd
                    have Hst := Lib.hid (skip_step fig s j d hd)
                    have HLD := Lib.hid (rfig_any (w := wq.alloc (.cells #[vs kNone, vs [], .int .i64 p] 138)) d)
                    clear hd
                    unfold vs at HLD
                    cases hld : fig d with
                    | true =>
                      rw [hld] at HLD
                      have HL2 := Lib.hid hld
                      clear hld
                      go_wp2_with fail
                      refine HLD.out.mono ?_
                      rintro e w1 ⟨rfl, rfl⟩
                      go_wp2
                      go_roundg (s.length - (j + 1))
                      case measure => have := HGk.out; omega
                      case rel =>
                        have h2 := Hst.out
                        rw [HL2.out, if_pos rfl, HSk.out] at h2
                        exact ⟨j + 1, rfl, by omega, by omega, by go_num, h2.symm, rfl⟩
                    | false =>
                      rw [hld] at HLD
                      have HL2 := Lib.hid hld
                      clear hld
                      go_wp2_with fail
                      refine HLD.out.mono ?_
                      rintro e w1 ⟨rfl, rfl⟩
                      go_wp2
                      go_meet
                      have h2 := Hst.out
                      rw [HL2.out, if_neg (by decide), HSk.out] at h2
                      rw [h2]
                      exact ⟨rfl, rfl⟩
                  · have hle : j = s.length := by omega
                    have hse := skip_end fig s j (by simp; omega)
                    rw [HSk.out] at hse
                    have Hse := Lib.hid hse
                    have hd : decide ((j : Int) < (s.length : Int)) = false := by simp; omega
                    clear hse hle
                    go_wp2
                    go_meet
                    rw [Hse.out]
                    exact ⟨rfl, rfl⟩
              case rest =>
                obtain ⟨rfl, rfl⟩ := hcut
                obtain ⟨hk1, hk2⟩ := skip_le fig s p hp2
                have HK12 := Lib.hid (And.intro hk1 hk2)
                generalize skip fig s p = e at *
                by_cases h8 : 3 < e - p
                · have h8' : (3 : Int) < (e : Int) - (p : Int) := by omega
                  have h8'' : decide ((e : Int) - (p : Int) ≤ 3) = false := by simp; omega
                  have H8 := Lib.hid h8
                  clear h8
                  go_wp2
                  go_meet
                  rw [HL.out.1, HL.out.2, if_pos H8.out]
                  exact ⟨rfl, HKW.out, HROW.out⟩
                · have h8' : (e : Int) - (p : Int) ≤ 3 := by omega
                  have h8'' : decide ((e : Int) - (p : Int) ≤ 3) = true := by simp; omega
                  have H8 := Lib.hid h8
                  clear h8
                  go_wp2
                  go_meet
                  rw [HL.out.1, HL.out.2, if_neg H8.out]
                  exact ⟨rfl, (Kept.refl _ wq).alloc (Nat.le_refl _) (.cells #[vs kNum, vs [], .int .i64 p] 138), Row.new wq 138 [vs kNum, vs [], .int .i64 p]⟩
            | false =>
              rw [hfig] at HFC
              have hpc := piece_one hc
              have hex := piece_extract s p (p + 1)
              rw [hpc] at hex
              have hplen : (p : Int) + 1 ≤ (s.length : Int) := by omega
              have hpge : (p : Int) ≤ (p : Int) + 1 := by omega
              have HP := Lib.hid (fun hp : punct c = true => tokIs_punct hc hlow hfig hp)
              have HN := Lib.hid (fun hp : punct c = false => tokIs_no hc hlow hfig hp)
              clear hc hlow hfig
              cases hpu : punct c with
              | true =>
                have hp4 : c = 59 ∨ c = 123 ∨ c = 125 ∨ c = 60 := by simpa [punct, or_assoc] using hpu
                have HL := Lib.hid (HP.out hpu)
                clear hpu hpc
                go_wp2_with fail
                refine HLC.out.mono ?_
                rintro e w1 ⟨rfl, rfl⟩
                go_wp2_with fail
                refine HFC.out.mono ?_
                rintro e w1 ⟨rfl, rfl⟩
                clear HLC HFC
                rcases hp4 with rfl | rfl | rfl | rfl
                all_goals
                  go_wp2
                  go_meet
                  rw [HL.out.1, HL.out.2]
                  exact ⟨by go_num, (Kept.refl _ wq).alloc (Nat.le_refl _) (.cells #[vs [_], vs [], .int .i64 p] 138), Row.new wq 138 [vs [_], vs [], .int .i64 p]⟩
              | false =>
                have HL := Lib.hid (HN.out hpu)
                have hc4 : ∀ k : UInt8, k = 59 ∨ k = 123 ∨ k = 125 ∨ k = 60 → ¬ (c.toNat : Int) = (k.toNat : Int) := by
                  intro k hk e
                  have hck : c = k := UInt8.toNat_inj.1 (by omega)
                  rw [hck] at hpu
                  rcases hk with rfl | rfl | rfl | rfl <;> exact absurd hpu (by decide)
                have d1 : ¬ (c.toNat : Int) = 59 := hc4 59 (by decide)
                have d2 : ¬ (c.toNat : Int) = 123 := hc4 123 (by decide)
                have d3 : ¬ (c.toNat : Int) = 125 := hc4 125 (by decide)
                have d4 : ¬ (c.toNat : Int) = 60 := hc4 60 (by decide)
                have b1 : ((c.toNat : Int) == 59) = false := by simpa using d1
                have b2 : ((c.toNat : Int) == 123) = false := by simpa using d2
                have b3 : ((c.toNat : Int) == 125) = false := by simpa using d3
                have b4 : ((c.toNat : Int) == 60) = false := by simpa using d4
                have n1 : decide ((c.toNat : Int) = 59) = false := by simpa using d1
                have n2 : decide ((c.toNat : Int) = 123) = false := by simpa using d2
                have n3 : decide ((c.toNat : Int) = 125) = false := by simpa using d3
                have n4 : decide ((c.toNat : Int) = 60) = false := by simpa using d4
                clear hpu hc4 hpc
                go_wp2_with fail
                refine HLC.out.mono ?_
                rintro e w1 ⟨rfl, rfl⟩
                go_wp2_with fail
                refine HFC.out.mono ?_
                rintro e w1 ⟨rfl, rfl⟩
                clear HLC HFC
                go_wp2
                go_meet
                rw [HL.out.1, HL.out.2]
                exact ⟨rfl, HKW.out, HROW.out⟩
      case rest =>
        obtain ⟨rfl, hk3, hr3⟩ := hcut
        clear HKW HROW
        have hpe : p ≤ tokEnd s p ∧ tokEnd s p ≤ s.length := by
          unfold tokEnd
          cases hc : s[p]? with
          | none => exact ⟨Nat.le_refl _, hp2⟩
          | some c =>
            simp only
            have hplt := (List.getElem?_eq_some_iff.1 hc).1
            obtain ⟨a1, a2⟩ := skip_le low s p hp2
            obtain ⟨b1, b2⟩ := skip_le fig s p hp2
            split
            · exact ⟨a1, a2⟩
            · split
              · exact ⟨b1, b2⟩
              · split
                · omega
                · omega
        obtain ⟨e1, e2⟩ := hpe
        have hex := piece_extract s p (tokEnd s p)
        have hon := rlex_on s i hi1
        have hsz := size_vs s
        have hrl := hr3.lt
        have rf := fun j => hr3.frozen j
        have r1 := hr3.cell 1
        simp at r1
        have hq1 := hr3.set_ 1 (vs (piece s p (tokEnd s p)))
        have hkq := hk3.setCell (p := ⟨wq.heap.size, 1, none⟩) (Nat.le_refl _) (vs (piece s p (tokEnd s p)))
        have HQ1 := Lib.hid hq1
        have HKQ := Lib.hid hkq
        have HON := Lib.hid hon
        clear hk3 hr3 hq1 hkq hon
        generalize tokIs s p = K at *
        generalize hE : tokEnd s p = E at *
        generalize hP : piece s p E = word at *
        clear hE hP
        unfold vs at *
        go_upto_region 28 with fail
        go_cut [] (fun wx => Kept (fun b => wq.heap.size ≤ b) wq wx ∧ Row wx wq.heap.size 138 [vs K, vs word, .int .i64 p])
        case first =>
          go_wp2
          go_meet
          exact ⟨HKQ.out, HQ1.out⟩
        case rest =>
          clear HKQ HQ1 rf hrl r1
          obtain ⟨hk4, hr4⟩ := hcut
          have hd8 : 2 ≤ maxLen := by unfold maxLen; omega
          have hnd := HT2.out.nn
          have hdl := HT2.out.dl
          have sl3 := (HT2.out.sl.kept hk4 (fun b hb h2 => by have := HT2.out.sl.lt hb; omega)).alloc (.cells #[vs K, vs word, .int .i64 p] 138)
          have q1 : w.heap.size ≤ (wc.alloc (.cells #[vs K, vs word, .int .i64 p] 138)).heap.size := by
            have := hk4.size; have := HT2.out.kept.size; simp; omega
          have q2 := cells_new wc [vs K, vs word, .int .i64 p] 138
          have q3 : ∀ u ∈ [vs K, vs word, .int .i64 p], u.oneCell' = true := by
            intro u hu
            simp at hu
            rcases hu with rfl | rfl | rfl <;> rfl
          have q4 : n + 1 ≤ maxLen := by unfold maxLen; omega
          have q5 : (n + 1) * 40 ≤ 140737488355328 := by omega
          have c0 := hr4.cell 0
          have c1 := hr4.cell 1
          have c2 := hr4.cell 2
          have hrl := hr4.lt
          have hT0 : ∀ w3, Kept (fun b => (Value.slice a n c).ownBlock = some b ∨ (wc.alloc (.cells #[vs K, vs word, .int .i64 p] 138)).heap.size ≤ b) (wc.alloc (.cells #[vs K, vs word, .int .i64 p] 138)) w3 → w3.cell? ⟨wq.heap.size, 0, none⟩ = some (.string ⟨K.toArray⟩) := by
            intro w3 hk
            have hno : ¬ ((Value.slice a n c).ownBlock = some wq.heap.size ∨ (wc.alloc (.cells #[vs K, vs word, .int .i64 p] 138)).heap.size ≤ wq.heap.size) := by
              rintro (h1 | h1)
              · have := HT2.out.sl.lt h1; omega
              · simp at h1; omega
            exact (hk.cell (p := ⟨wq.heap.size, 0, none⟩) hno).trans ((hr4.alloc _).cell 0)
          have HT0 := Lib.hid hT0
          clear hT0
          have SL3 := Lib.hid sl3
          have Q1 := Lib.hid q1
          have Q2 := Lib.hid q2
          have Q3 := Lib.hid q3
          have HK4 := Lib.hid hk4
          have HR4 := Lib.hid hr4
          clear sl3 q1 q2 q3 hk4 hr4 hnd hd8 hdl
          simp at c0 c1 c2
          unfold vs at *
          by_cases hn1 : K = kNone
          · have b1 : (K == kNone) = true := by simpa using hn1
            have b2 : decide (K = kNone) = true := by simpa using hn1
            have HF := Lib.hid (show rfinal ⟨K, word, p⟩ = true by unfold rfinal; rw [b1]; rfl)
            clear hn1
            go_wp2_with (at_builtin; go_must (refine wp_append1 Tryz.underlying133 hi0 hz0 hz1 hz2 rfl (by decide) SL3.out Q1.out rfl _ _ rfl rfl ⟨wc.heap.size, 0, none⟩ 1 1 [.string ⟨K.toArray⟩, .string ⟨word.toArray⟩, .int .i64 p] rfl rfl Q2.out Q3.out q4 q5 (Nat.succ_pos _) ?_; intro g2 cap2 w3 hs3 hk3 hloc; have Hs3 := Lib.hid hs3; have Hk3 := Lib.hid hk3; have Hloc := Lib.hid hloc; have d0 := HT0.out _ hk3; clear hs3 hk3 hloc))
            go_ret
            exact ⟨HT2.out.went HK4.out Hk3.out, _, rfl, HT2.out.last HRX.out HF.out Hs3.out⟩
          · have b1 : (K == kNone) = false := by simpa using hn1
            have b2 : decide (K = kNone) = false := by simpa using hn1
            by_cases hn2 : K = kEnd
            · have b3 : (K == kEnd) = true := by simpa using hn2
              have b4 : decide (K = kEnd) = true := by simpa using hn2
              have HF := Lib.hid (show rfinal ⟨K, word, p⟩ = true by unfold rfinal; rw [b3, Bool.or_true])
              clear hn1 hn2
              go_wp2_with (at_builtin; go_must (refine wp_append1 Tryz.underlying133 hi0 hz0 hz1 hz2 rfl (by decide) SL3.out Q1.out rfl _ _ rfl rfl ⟨wc.heap.size, 0, none⟩ 1 1 [.string ⟨K.toArray⟩, .string ⟨word.toArray⟩, .int .i64 p] rfl rfl Q2.out Q3.out q4 q5 (Nat.succ_pos _) ?_; intro g2 cap2 w3 hs3 hk3 hloc; have Hs3 := Lib.hid hs3; have Hk3 := Lib.hid hk3; have Hloc := Lib.hid hloc; have d0 := HT0.out _ hk3; clear hs3 hk3 hloc))
              go_ret
              exact ⟨HT2.out.went HK4.out Hk3.out, _, rfl, HT2.out.last HRX.out HF.out Hs3.out⟩
            · have b3 : (K == kEnd) = false := by simpa using hn2
              have b4 : decide (K = kEnd) = false := by simpa using hn2
              have HF := Lib.hid (show rfinal ⟨K, word, p⟩ = false by unfold rfinal; rw [b1, b3]; rfl)
              clear hn1 hn2
              go_wp2_with (at_builtin; go_must (refine wp_append1 Tryz.underlying133 hi0 hz0 hz1 hz2 rfl (by decide) SL3.out Q1.out rfl _ _ rfl rfl ⟨wc.heap.size, 0, none⟩ 1 1 [.string ⟨K.toArray⟩, .string ⟨word.toArray⟩, .int .i64 p] rfl rfl Q2.out Q3.out q4 q5 (Nat.succ_pos _) ?_; intro g2 cap2 w3 hs3 hk3 hloc; have Hs3 := Lib.hid hs3; have Hk3 := Lib.hid hk3; have Hloc := Lib.hid hloc; have d0 := HT0.out _ hk3; clear hs3 hk3 hloc))
              have hnx := HT2.out.next HRX.out HF.out (HT2.out.went HK4.out Hk3.out) Hs3.out
              have HNX := Lib.hid hnx
              obtain ⟨_, o1, o2⟩ := hnx
              go_roundg (s.length + 1 - E)
              case measure => have := HG.out; omega
              case rel =>
                obtain ⟨⟨m', hL⟩, _, _⟩ := HNX.out
                exact ⟨m', E, _, _, _, _, rfl, rfl, Nat.le_refl _, hL⟩
end
end Go.Proofs.YtemppijblfflgabGreatDoor.Ev
namespace Go.Proofs.YtemppijblfflgabGreatDoor.Ev

def declsO (s : Bytes) (n : Nat) (o : Out Unit) : Out Unit := o.bind fun _ st => declsR s n st
def rulesO (s : Bytes) (m n : Nat) (o : Out Unit) : Out Unit := o.bind fun _ st => rulesR s m n st
def isDeclO (o : Out Unit) : Bool := match o with
  | .ok _ st => isDecl st.t.kind
  | .bad _ _ => false

theorem isDeclO_eq (o : Out Unit) : isDeclO o = (o.isB kQueue || o.isB kGhost || o.isB kVar || o.isB kFreq) := by
  cases o <;> rfl
theorem isDeclO_yes {o : Out Unit} (h : isDeclO o = true) : ∃ st, o = .ok () st ∧ isDecl st.t.kind = true := by
  cases o with
  | ok a st => exact ⟨st, rfl, h⟩
  | bad e p => cases h
theorem isDecl_cases {k : Bytes} (h : isDecl k = true) : k = kQueue ∨ k = kGhost ∨ k = kVar ∨ k = kFreq := by
  unfold isDecl at h
  simpa [or_assoc] using h
section
variable {s : Bytes} {o : Out Unit} {st : PS} {n m : Nat}
theorem declsO_step (h : isDecl st.t.kind = true) : declsO s (n + 1) (.ok () st) = declsO s n (decl s st) := by
  show declsR s (n + 1) st = _
  unfold declsR declsO
  rw [if_pos h]
theorem declsO_end (h : isDeclO o = false) : declsO s (n + 1) o = o := by
  cases o with
  | bad e p => rfl
  | ok a st =>
    have h' : isDecl st.t.kind = false := h
    show declsR s (n + 1) st = _
    unfold declsR
    rw [h']
    rfl
theorem rulesO_step (h : st.t.kind = kOn) : rulesO s m (n + 1) (.ok () st) = rulesO s m n (rule s m st) := by
  show rulesR s m (n + 1) st = _
  unfold rulesR rulesO
  rw [if_pos h]
theorem rulesO_end (h : o.isB kOn = false) : rulesO s m (n + 1) o = o := by
  cases o with
  | bad e p => rfl
  | ok a st =>
    have h' : ¬ st.t.kind = kOn := by simpa [Out.isB] using h
    show rulesR s m (n + 1) st = _
    unfold rulesR
    rw [if_neg h']
theorem readAll_eq : readAll s = (rulesO s 1500 702 (declsO s 702 (.ok () (start s)))).bind fun _ st => want s kEnd st := by
  unfold readAll declsO rulesO
  show (declsR s 702 (start s)).bind _ = ((declsR s 702 (start s)).bind _).bind _
  cases declsR s 702 (start s) <;> rfl
theorem SaysOk.start (s : Bytes) : SaysOk s ⟨0, 0, 0, 0, 0, 0, 0, [], 0, 0⟩ (start s) :=
  ⟨KPos.start s, start_ok s, rfl, rfl, rfl, rfl, rfl, rfl, rfl, by decide, by decide⟩
/-- What the whole reading says, by how it ended. -/
theorem read_bad (h7 : ¬ 700 < s.length) {e p : Nat} (h : readAll s = .bad e p) : read s = .error (e, p) := by
  unfold read
  rw [if_neg h7, h]
theorem read_wrong (h7 : ¬ 700 < s.length) {t : Tok} {x : Nat × Nat} (h : readAll s = .ok t st) (hw : st.wrong = some x) : read s = .error x := by
  unfold read
  rw [if_neg h7, h]
  simp only
  rw [hw]
theorem read_nomiss (h7 : ¬ 700 < s.length) {t : Tok} (h : readAll s = .ok t st) (hw : st.wrong = none) (hm : (missOf st.rules).isSome = false) : read s = .error (eMiss, 0) := by
  unfold read
  rw [if_neg h7, h]
  simp only
  rw [hw]
  simp only
  rw [if_pos (by cases hx : missOf st.rules <;> simp_all)]
theorem read_good (h7 : ¬ 700 < s.length) {t : Tok} (h : readAll s = .ok t st) (hw : st.wrong = none) (hm : (missOf st.rules).isSome = true) : read s = .ok ⟨st.decls, st.freq, st.rules⟩ := by
  unfold read
  rw [if_neg h7, h]
  simp only
  rw [hw]
  simp only
  rw [if_neg (by cases hx : missOf st.rules <;> simp_all)]
theorem read_long_ (h7 : 700 < s.length) : read s = .error (eLong, 0) := by
  unfold read
  rw [if_pos h7]
end
end Go.Proofs.YtemppijblfflgabGreatDoor.Ev
namespace Go.Proofs.YtemppijblfflgabGreatDoor.Ev
open Go Go.RowKit

section
variable {w : World} {g gp : Nat} {tl : Value} {ts : List RTok} {pc : List Value} {r : Raw} {s : Bytes} {α : Type} {o : Out α}
set_option maxRecDepth 100000 in
set_option maxHeartbeats 1000000 in
theorem rtake_end (h : RRd w g gp tl ts pc r) (hs : Says s r o) (ht : RToks ts (toks s)) {kd kr : Bytes} (hk : kd ≠ kNum) (hkr : rKind kd = kr) :
    Calls Tryz.prog 88 #[.pointer (some ⟨g, 0, none⟩), vs kr] w (fun e w' => e = .returned (.bool (o.isB kd)) ∧ Kg g w w' ∧ RRd w' g gp tl ts pc (if o.isB kd then { r with k := r.k + 1 } else r)) := by
  have his := ris_any h hs ht hk hkr
  obtain ⟨c0, c1, _⟩ := h.cells
  have ff := fun j => h.row.frozen j
  have h8 := h.tl
  have hlt := hs.lt
  rw [← ht.len] at hlt
  have HR := Lib.hid h
  have HS := Lib.hid hs
  cases hb : o.isB kd with
  | true =>
    obtain ⟨a, st, rfl, hkd, hto⟩ := takeO_yes (s := s) hb
    rw [hb] at his
    have HI := Lib.hid his
    have HT := Lib.hid hto
    generalize hk0 : r.k = k at *
    generalize hL : ts.length = L at *
    have HK0 := Lib.hid hk0
    have HL := Lib.hid hL
    clear his hs h hb hkd hto ht hk0 hL hkr
    unfold vs at *
    go_enter Tryz.func88, Tryz.ntmps88
    go_wp2_with fail
    refine HI.out.mono ?_
    rintro e w1 ⟨rfl, n, rfl⟩
    go_wp2
    go_ret
    have hk3 : Kg g w ((w.setCell ⟨g, 1, none⟩ (.int .i64 (k + 1))).drewN n) := ((Kept.refl _ w).setCell (p := ⟨g, 1, none⟩) (.inl rfl) _).drewN n
    refine ⟨rfl, hk3, HR.out.turn hk3 ?_ rfl⟩
    have := HR.out.row.set_ 1 (.int .i64 (k + 1))
    exact this
  | false =>
    have hto := takeO_no (s := s) hb
    rw [hb] at his
    have HI := Lib.hid his
    have HT := Lib.hid hto
    clear his hs h hb hto ht hkr c0 c1 ff hlt h8
    unfold vs at *
    go_enter Tryz.func88, Tryz.ntmps88
    go_wp2_with fail
    refine HI.out.mono ?_
    rintro e w1 ⟨rfl, n, rfl⟩
    go_wp2
    go_ret
    exact ⟨rfl, (Kept.refl _ _).drewN n, HR.out.drewN n⟩


/-- What the last need comes to. -/
def OutE (w : World) (g gp : Nat) (tl : Value) (ts : List RTok) (pc : List Value) (s : Bytes) (ds : List Decl) (o : Out Tok) (e : Ending) (w' : World) : Prop :=
  ∃ x : RTok, e = .returned (encRTokV x) ∧ Kg g w w' ∧ ∃ r', RRd w' g gp tl ts pc r' ∧ r'.decls = ds ∧ match o with
    | .ok _ st => r'.bad = 0 ∧ WrongS st.wrong r'
    | .bad e p => r'.bad = e ∧ r'.badAt = p ∧ e ≠ 0

set_option maxRecDepth 100000 in
set_option maxHeartbeats 1000000 in
theorem rneed_end (h : RRd w g gp tl ts pc r) (hs : Says s r o) (ht : RToks ts (toks s)) :
    Calls Tryz.prog 58 #[.pointer (some ⟨g, 0, none⟩), vs kEnd] w (OutE w g gp tl ts pc s r.decls (wantO s kEnd o)) := by
  have htake := fun W (hW : RRd W g gp tl ts pc r) => rtake_end hW hs ht (kd := kEnd) (kr := kEnd) (by decide) (by decide)
  obtain ⟨c0, c1, _⟩ := h.cells
  have hlt := h.row.lt
  obtain ⟨x, hx⟩ := hs.tok ht
  obtain ⟨gt, ct, rfl, h1, h2, h3, h4, h5, t0, t1, t2⟩ := h.at_ hx
  unfold maxLen at h2
  have hkk : r.k < ts.length := h3
  have h8 := h.tl
  have HR := Lib.hid h
  have HS := Lib.hid hs
  have HTT := Lib.hid ht
  have HT := Lib.hid htake
  generalize hk0 : r.k = k at *
  generalize hL : ts.length = L at *
  have HK0 := Lib.hid hk0
  have HL := Lib.hid hL
  clear hs h hx ht hk0 hL htake
  cases hb : o.isB kEnd
  all_goals
    have HB := Lib.hid hb
    clear hb
    unfold vs at *
    go_enter Tryz.func58, Tryz.ntmps58
    go_wp2
    go_region
    go_wp2_with fail
    have hrr : RRd ((w.alloc (.cells #[vs [], vs [], .int .i64 0] 138)).alloc (.cells #[vs x.is, vs x.txt, .int .i64 x.pos] 138)).drew g gp (.slice (some ⟨gt, 0, none⟩) L ct) ts pc r := ((HR.out.alloc _).alloc _).drewN 1
    have x0 : Row ((w.alloc (.cells #[vs [], vs [], .int .i64 0] 138)).alloc (.cells #[vs x.is, vs x.txt, .int .i64 x.pos] 138)).drew w.heap.size 138 [vs [], vs [], .int .i64 0] := (Row.new w _ _).alloc _
    have x1 : Row ((w.alloc (.cells #[vs [], vs [], .int .i64 0] 138)).alloc (.cells #[vs x.is, vs x.txt, .int .i64 x.pos] 138)).drew (w.heap.size + 1) 138 [vs x.is, vs x.txt, .int .i64 x.pos] := by
      have := Row.new (w.alloc (.cells #[vs [], vs [], .int .i64 0] 138)) 138 [vs x.is, vs x.txt, .int .i64 x.pos]
      simp only [World.size_alloc] at this
      exact this
    have kk : Kg g w ((w.alloc (.cells #[vs [], vs [], .int .i64 0] 138)).alloc (.cells #[vs x.is, vs x.txt, .int .i64 x.pos] 138)).drew := (((Kept.refl _ w).alloc (.inr (Nat.le_refl _)) _).alloc (.inr (by simp)) _).drew
    have htk := HT.out _ hrr
    rw [HB.out] at htk
    have HTK := Lib.hid htk
    have X0 := Lib.hid x0
    have X1 := Lib.hid x1
    have KK := Lib.hid kk
    clear hrr htk x0 x1 kk
    unfold vs at *
    refine HTK.out.mono ?_
    rintro e w1 ⟨rfl, hk1, hr'⟩
    have K1 := Lib.hid hk1
    have HR' := Lib.hid hr'
    clear hk1 hr'
    first
      | (go_wp2_with fail
         refine (rfail_any HR'.out HS.out HTT.out (e := 2) (by decide)).mono ?_
         rintro e w2 ⟨rfl, hk2, r2, hr2, hs2, hd2⟩
         have HD2 := Lib.hid hd2
         clear hd2
         have K2 := Lib.hid hk2
         have HR2 := Lib.hid hr2
         have HS2 := Lib.hid hs2
         clear hk2 hr2 hs2)
      | skip
    first
      | have y0 := row_kg K2.out (row_kg K1.out X0.out (by omega)) (by omega)
      | have y0 := row_kg K1.out X0.out (by omega)
    first
      | have y1 := row_kg K2.out (row_kg K1.out X1.out (by omega)) (by omega)
      | have y1 := row_kg K1.out X1.out (by omega)
    have d0 := y0.cell 0
    have d1 := y0.cell 1
    have d2 := y0.cell 2
    have e0 := y1.cell 0
    have e1' := y1.cell 1
    have e2' := y1.cell 2
    have fz := fun j => y0.frozen j
    have Y0 := Lib.hid y0
    clear y0 y1
    simp at d0 d1 d2 e0 e1' e2'
    go_wp2
    have q1 := Y0.out
    have htl : (Value.slice (some ⟨gt, 0, none⟩) L ct).ownBlock ≠ some w.heap.size := fun e => by injection e with e; simp only at e; omega
    first
      | have g0 := HR2.out
      | have g0 := HR'.out
    first
      | have kk : Kg g w _ := (KK.out.trans K1.out).trans K2.out
      | have kk : Kg g w _ := KK.out.trans K1.out
    have g1 := g0.far q1 (by decide) htl 0 (.string ⟨x.is.toArray⟩)
    have q2 := q1.set_ 0 (.string ⟨x.is.toArray⟩)
    have g2 := g1.far q2 (by decide) htl 1 (.string ⟨x.txt.toArray⟩)
    have q3 := q2.set_ 1 (.string ⟨x.txt.toArray⟩)
    have g3 := g2.far q3 (by decide) htl 2 (.int .i64 x.pos)
    have q4 := q3.set_ 2 (.int .i64 x.pos)
    have k4 := ((kk.setCell (p := ⟨w.heap.size, 0, none⟩) (.inr (Nat.le_refl _)) (.string ⟨x.is.toArray⟩)).setCell (p := ⟨w.heap.size, 1, none⟩) (.inr (Nat.le_refl _)) (.string ⟨x.txt.toArray⟩)).setCell (p := ⟨w.heap.size, 2, none⟩) (.inr (Nat.le_refl _)) (.int .i64 x.pos)
    refine bodyPost_ret (results_cell (cs := [.string ⟨x.is.toArray⟩, .string ⟨x.txt.toArray⟩, .int .i64 x.pos]) Tryz.results58 aggRTok sizeRTok rfl q4) rfl ?_
    refine ⟨x, rfl, k4, ?_⟩
    first
      | (obtain ⟨a, st, rfl, e1, e2⟩ := wantO_yes (s := s) HB.out
         rw [e2]
         have hb0 := SaysOk.bad HS.out
         have hw0 := SaysOk.wrong HS.out
         simp only [if_true] at g3
         exact ⟨_, g3, rfl, hb0, hw0⟩)
      | (refine ⟨_, g3, HD2.out, ?_⟩
         have hx := wantO_no (s := s) HB.out (r := _) (by rw [takeO_no HB.out]; exact (show Says s _ ((o.bind fun _ st => Out.ok () st).fail_ eSyntax) from by cases o <;> exact HS2.out))
         have hx1 := hx.1
         have hx2 := hx.2
         cases hw : wantO s kEnd o with
         | ok t st => exact absurd hw (hx2 t st)
         | bad e p =>
           rw [hw] at hx1
           exact ⟨SaysBad.bad hx1, SaysBad.badAt hx1, SaysBad.ne hx1⟩)
end

section
variable {B : Nat} {w : World} {g gp : Nat} {tl : Value} {ts : List RTok} {f : Int} {r : Raw} {vd : Value} {s : Bytes} {st : PS}
theorem rdecl_any (h : RP B w g gp tl ts f vnil vnil vnil false r vd) (hs : SaysOk s r st) (ht : RToks ts (toks s)) (hk : isDecl st.t.kind = true) (hdl : r.decls.length ≤ 900) (hfq : f = st.freq) :
    Calls Tryz.prog 56 #[.pointer (some ⟨g, 0, none⟩)] w (OutDc B w g gp tl ts s r.decls.length (decl s st)) := by
  rcases isDecl_cases hk with h1 | h1 | h1 | h1
  · exact rdecl_word (.inl rfl) h hs ht h1 hdl hfq
  · exact rdecl_word (.inr (.inl rfl)) h hs ht h1 hdl hfq
  · exact rdecl_word (.inr (.inr rfl)) h hs ht h1 hdl hfq
  · exact rdecl_freq h hs ht h1 hdl
end

/-! ## Read -/
/-- The policy of the document's answer, in blocks of N. -/
def RPol (N : Nat → Prop) (w : World) (gp : Nat) (p : Policy) : Prop :=
  ∃ vd vr vh vm hs rs, Row w gp 85 [vd, .int .i64 p.freq, vr, vh, vm, .bool true] ∧ Sl N w 87 3 vd p.decls.length (p.decls.flatMap encRDecl) ∧
    RRul N w vr vh p.decls.length hs rs ∧ RMean N w p.rules true vm p.decls.length hs rs ∧ N gp ∧ ∃ a n c, vm = .slice a n c
def OutRd (w : World) (s : Bytes) (e : Ending) (w' : World) : Prop :=
  Kept (fun b => w.heap.size ≤ b) w w' ∧ match read s with
    | .error (k, pos) => e = .returned (.tuple #[.pointer none, .int .i64 k, .int .i64 pos])
    | .ok p => ∃ gp, e = .returned (.tuple #[.pointer (some ⟨gp, 0, none⟩), .int .i64 0, .int .i64 0]) ∧ RPol (fun b => w.heap.size ≤ b) w' gp p

section
variable {B : Nat} {w w2 : World} {g gp : Nat} {tl : Value} {ts : List RTok} {f : Int} {vr vh vm : Value} {ms : Bool} {r : Raw} {vd : Value} {hs : List Bool} {rs : List Value} {s : Bytes} {st : PS}
theorem RP.setPol (h : RP B w g gp tl ts f vr vh vm ms r vd) (i : Nat) (u : Value) {vr' vh' vm' : Value} {ms' : Bool} (he : [vd, .int .i64 f, vr, vh, vm, .bool ms].set i u = [vd, .int .i64 f, vr', vh', vm', .bool ms']) :
    RP B (w.setCell ⟨gp, i, none⟩ u) g gp tl ts f vr' vh' vm' ms' r vd := by
  have hk : Kept (fun b => b = gp) w (w.setCell ⟨gp, i, none⟩ u) := Kept.one w ⟨gp, i, none⟩ _
  obtain ⟨N, ht⟩ := h.rd.toks
  have hpg := h.rd.pol.ne_ h.rd.row (by decide)
  have hsl := h.sl.kept hk (fun b hb e => h.sl.ne_row h.rd.pol (by decide) (e ▸ hb))
  have hp := h.rd.pol.set_ i u
  rw [he] at hp
  exact ⟨⟨h.rd.row.far (fun e => hpg e.symm) _, ⟨N, ht.kept hk (fun b hb e => ht.ne_row h.rd.pol (by decide) (e ▸ hb))⟩, h.rd.tl, hp, ⟨_, vd, rfl, hsl⟩, h.rd.dl⟩, h.g0, h.p0, hsl, by simpa using h.sz⟩
theorem RP.alloc (h : RP B w g gp tl ts f vr vh vm ms r vd) (o : Obj) : RP B (w.alloc o) g gp tl ts f vr vh vm ms r vd :=
  h.call ((Kept.refl (fun b => b = g ∨ w.heap.size ≤ b) w).alloc (.inr (Nat.le_refl _)) o) (h.rd.alloc o) rfl
theorem RP.drewN (h : RP B w g gp tl ts f vr vh vm ms r vd) (n : Nat) : RP B (w.drewN n) g gp tl ts f vr vh vm ms r vd := h.call ((Kept.refl _ w).drewN n) (h.rd.drewN n) rfl
theorem rule_freq {m : Nat} {st' : PS} (h : Mid s st) (hk : st.t.kind = kOn) (e : rule s m st = .ok () st') : st'.freq = st.freq := by
  rw [rrule_eq] at e
  obtain ⟨k, st1, e1, e2⟩ := bind_ok e
  obtain ⟨b, st2, e3, e4⟩ := bind_ok e2
  injection e4 with _ e4
  obtain ⟨f1, _, _⟩ := ruleHead_mid h.ok hk e1
  obtain ⟨f2, _⟩ := block_ok f1.ok (by rw [f1.depth, h.depth]; omega) (by rw [f1.loops, h.loops]; omega) e3
  rw [← e4]
  split
  · exact f2.freq.trans f1.freq
  · exact f2.freq.trans f1.freq

/-- The loop over the declarations. -/
structure DLoop (B : Nat) (w wr : World) (g gp : Nat) (tl : Value) (ts : List RTok) (s : Bytes) (n : Nat) (o : Out Unit) (r : Raw) (f : Int) (vd : Value) : Prop where
  rp : RP B wr g gp tl ts f vnil vnil vnil false r vd
  kept : Kept (fun b => B ≤ b) w wr
  says : Says s r o
  eq : declsO s (n + 1) o = declsO s 702 (.ok () (start s))
  mid : ∀ st, o = .ok () st → Mid s st ∧ st.rules = [] ∧ f = st.freq ∧ left s st ≤ n
  dl : r.decls.length + leftO s o ≤ 702
theorem DLoop.next {B : Nat} {w wr w' : World} {n : Nat} {r' : Raw} {f' : Int} {vd' : Value} (h : DLoop B w wr g gp tl ts s n (.ok () st) r f vd) (hk : isDecl st.t.kind = true) (hk2 : Kept (fun b => B ≤ b) wr w') (hP : RP B w' g gp tl ts f' vnil vnil vnil false r' vd') (hs : Says s r' (decl s st))
    (hf : ∀ st', decl s st = .ok () st' → f' = st'.freq) (hl : r'.decls.length ≤ r.decls.length + 1) : (∃ n', DLoop B w w' g gp tl ts s n' (decl s st) r' f' vd') ∧ leftO s (decl s st) < leftO s (Out.ok () st : Out Unit) := by
  obtain ⟨m1, m2, m3, m4⟩ := h.mid st rfl
  have hpos := left_pos m1.ok
  have hlt : leftO s (decl s st) < leftO s (Out.ok () st : Out Unit) := by
    show leftO s (decl s st) < left s st
    cases hd : decl s st with
    | bad e p => exact hpos
    | ok a st' => exact (decl_mid m1 hk m2 hd).2.2
  refine ⟨⟨n - 1, hP, h.kept.trans hk2, hs, ?_, fun st' e => ?_, by have := h.dl; omega⟩, hlt⟩
  · have e : n - 1 + 1 = n := by omega
    rw [e, ← declsO_step hk]
    exact h.eq
  · obtain ⟨d1, d2, d3⟩ := decl_mid m1 hk m2 e
    exact ⟨d1, d2, hf st' e, by omega⟩

/-- The loop over the rules. -/
structure RLoop (B : Nat) (w wr : World) (g gp : Nat) (tl : Value) (ts : List RTok) (s : Bytes) (n : Nat) (o0 o : Out Unit) (r : Raw) (f : Int) (vr vh vm : Value) (ms : Bool) (vd : Value) (hs : List Bool) (rs : List Value) : Prop where
  rq : RQ B wr g gp tl ts f vr vh vm ms r vd hs rs
  kept : Kept (fun b => B ≤ b) w wr
  says : Says s r o
  eq : rulesO s 1500 (n + 1) o = rulesO s 1500 702 o0
  mid : ∀ st, o = .ok () st → Mid s st ∧ f = st.freq ∧ left s st ≤ n ∧ n ≤ 701 ∧ (st.wrong = none → RMean (fun b => B ≤ b) wr st.rules ms vm r.decls.length hs rs)
theorem RLoop.next {B : Nat} {w wr w' : World} {n : Nat} {o0 : Out Unit} {r' : Raw} {vm' : Value} {ms' : Bool} {hs' : List Bool} {rs' : List Value} (h : RLoop B w wr g gp tl ts s n o0 (.ok () st) r f vr vh vm ms vd hs rs) (hk : st.t.kind = kOn) (hk2 : Kept (fun b => B ≤ b) wr w')
    (hP : RQ B w' g gp tl ts f vr vh vm' ms' r' vd hs' rs') (hsy : Says s r' (rule s 1500 st)) (hd : r'.decls = r.decls) (hm : ∀ st', rule s 1500 st = .ok () st' → st'.wrong = none → RMean (fun b => B ≤ b) w' st'.rules ms' vm' r.decls.length hs' rs') :
    (∃ n', RLoop B w w' g gp tl ts s n' o0 (rule s 1500 st) r' f vr vh vm' ms' vd hs' rs') ∧ leftO s (rule s 1500 st) < leftO s (Out.ok () st : Out Unit) := by
  obtain ⟨m1, m2, m3, m5, m4⟩ := h.mid st rfl
  have hpos := left_pos m1.ok
  have hlt : leftO s (rule s 1500 st) < leftO s (Out.ok () st : Out Unit) := by
    show leftO s (rule s 1500 st) < left s st
    cases hd : rule s 1500 st with
    | bad e p => exact hpos
    | ok a st' => exact (rule_mid m1 hk hd).2.1
  refine ⟨⟨n - 1, hP, h.kept.trans hk2, hsy, ?_, fun st' e => ?_⟩, hlt⟩
  · have e : n - 1 + 1 = n := by omega
    rw [e, ← rulesO_step hk]
    exact h.eq
  · obtain ⟨d1, d2, d3⟩ := rule_mid m1 hk e
    refine ⟨d1, m2.trans (rule_freq m1 hk e).symm, by omega, by omega, fun hw => ?_⟩
    rw [hd]
    exact hm st' e hw
end
end Go.Proofs.YtemppijblfflgabGreatDoor.Ev
namespace Go.Proofs.YtemppijblfflgabGreatDoor.Ev
open Go Go.RowKit

theorem infoStmtSl : (Tryz.prog.info? 83).map (fun i => (i.zero, i.size, i.bytes)) = some (some (.slice none 0 0), 1, 24) := by kernel_rfl
theorem infoBool_ : (Tryz.prog.info? 4).map (fun i => (i.zero, i.size, i.bytes)) = some (some (.bool false), 1, 1) := by kernel_rfl
theorem mk_rules (n : Nat) (hn : n ≤ 1000) (W : World) : (Instr.makeSlice 81 (.int .i64 (n : Int)) (.int .i64 (n : Int))).run Tryz.prog W =
    .ok (.slice (some ⟨W.heap.size, 0, none⟩) n n) (W.alloc (.cells (List.replicate n (Value.slice none 0 0)).toArray 83)) := by
  obtain ⟨i0, hi0, hz0, hz1, hz2⟩ := info_parts infoStmtSl
  have h := run_make (P := Tryz.prog) W 81 83 i0 _ Tryz.underlying81 hi0 hz0 .i64 .i64 (n : Int) (n : Int) (by omega) (by omega) (by rw [hz2]; omega) (by omega)
  rw [hz1, Int.toNat_natCast] at h
  have e : (Value.slice none 0 0).cells = #[Value.slice none 0 0] := rfl
  rw [e, Nat.mul_one, madeCells_one] at h
  exact h
theorem mk_has (n : Nat) (hn : n ≤ 1000) (W : World) : (Instr.makeSlice 82 (.int .i64 (n : Int)) (.int .i64 (n : Int))).run Tryz.prog W =
    .ok (.slice (some ⟨W.heap.size, 0, none⟩) n n) (W.alloc (.cells (List.replicate n (Value.bool false)).toArray 4)) := by
  obtain ⟨i0, hi0, hz0, hz1, hz2⟩ := info_parts infoBool_
  have h := run_make (P := Tryz.prog) W 82 4 i0 _ Tryz.underlying82 hi0 hz0 .i64 .i64 (n : Int) (n : Int) (by omega) (by omega) (by rw [hz2]; omega) (by omega)
  rw [hz1, Int.toNat_natCast] at h
  have e : (Value.bool false).cells = #[Value.bool false] := rfl
  rw [e, Nat.mul_one, madeCells_one] at h
  exact h
theorem RBlkV.nil_ (N : Nat → Prop) (w : World) : RBlkV N w (.slice none 0 0) .nil := ⟨[], ⟨World.ownsRow_nil _ _ _ _, fun g hg => by cases hg⟩, rfl⟩
theorem RMean.none_ (N : Nat → Prop) (w : World) (n : Nat) : RMean N w [] false (.slice none 0 0) n (List.replicate n false) (List.replicate n (.slice none 0 0)) :=
  ⟨rfl, RBlkV.nil_ N w, fun k hk => by rw [List.getElem?_replicate, if_pos hk]; rfl, fun k hk => ⟨.slice none 0 0, by rw [List.getElem?_replicate, if_pos hk], RBlkV.nil_ N w⟩⟩
/-- A row just made. -/
theorem Sl.made {N : Nat → Prop} {w : World} {t : TypeId} {n : Nat} {x : Value} (h0 : N w.heap.size) (hn : n ≤ maxLen) : Sl N (w.alloc (.cells (List.replicate n x).toArray t)) t 1 (.slice (some ⟨w.heap.size, 0, none⟩) n n) n (List.replicate n x) :=
  ⟨⟨by simp, .inr ⟨w.heap.size, n, _, rfl, Nat.zero_le _, heap_alloc_new w _, Nat.le_refl _, hn, by simp, by simp⟩⟩, fun g hg => by injection hg with hg; simp only at hg; exact hg ▸ h0⟩

abbrev raw0 : Raw := ⟨0, 0, 0, 0, 0, 0, 0, [], 0, 0⟩
theorem RP.start {B : Nat} {W : World} {tl : Value} {ts : List RTok} (hs : Sl (fun b => B ≤ b) W 138 3 tl ts.length (ts.flatMap encRTok)) (htl : ts.length ≤ 1000) (hB : B ≤ W.heap.size) :
    RP B ((W.alloc (.cells #[.slice none 0 0, .int .i64 0, .slice none 0 0, .slice none 0 0, .slice none 0 0, .bool false] 85)).alloc (.cells #[tl, .int .i64 0, .int .i64 0, .int .i64 0, .int .i64 0, .int .i64 0, .int .i64 0, .int .i64 0, .pointer (some ⟨W.heap.size, 0, none⟩), .int .i64 0] 136))
      (W.heap.size + 1) W.heap.size tl ts 0 vnil vnil vnil false raw0 vnil := by
  have hp := Row.new W 85 [.slice none 0 0, .int .i64 0, .slice none 0 0, .slice none 0 0, .slice none 0 0, .bool false]
  have hr := Row.new (W.alloc (.cells #[.slice none 0 0, .int .i64 0, .slice none 0 0, .slice none 0 0, .slice none 0 0, .bool false] 85)) 136 [tl, .int .i64 0, .int .i64 0, .int .i64 0, .int .i64 0, .int .i64 0, .int .i64 0, .int .i64 0, .pointer (some ⟨W.heap.size, 0, none⟩), .int .i64 0]
  simp only [World.size_alloc] at hr
  have hnil : ∀ W', Sl (fun b => B ≤ b) W' 87 3 vnil 0 [] := fun W' => ⟨World.ownsRow_nil _ _ _ _, fun g hg => by cases hg⟩
  exact ⟨⟨hr, ⟨_, (hs.alloc _).alloc _⟩, htl, hp.alloc _, ⟨_, vnil, rfl, hnil _⟩, Nat.zero_le _⟩, Nat.le_succ_of_le hB, hB, hnil _, by simp; omega⟩

section
variable {w : World} {gw : Nat × Nat} {s : Bytes}
set_option maxRecDepth 100000 in
set_option maxHeartbeats 8000000 in
theorem rread_any (hw : WordsG w gw) (s : Bytes) : Calls Tryz.prog 32 #[vs s] w (OutRd w s) := by
  by_cases h7 : 700 < s.length
  · have hr := Lib.hid (read_long_ h7)
    have hsz := size_vs s
    have hsl : (700 : Int) < (s.length : Int) := by omega
    clear h7 hw
    unfold vs
    go_enter Tryz.func32, Tryz.ntmps32
    go_wp2
    go_ret3
    refine ⟨Kept.refl _ _, ?_⟩
    rw [hr.out]
    rfl
  · have htk := tokens_any hw (s := s) (by omega)
    have hsz := size_vs s
    have hsl : (s.length : Int) ≤ 700 := by omega
    have HTK := Lib.hid htk
    have H7 := Lib.hid h7
    clear htk h7 hw
    unfold vs at *
    go_enter Tryz.func32, Tryz.ntmps32
    go_wp2_with fail
    refine HTK.out.mono ?_
    rintro e w1 ⟨hk1, tl, rfl, hts⟩
    have hlen := rtoks_len s
    obtain ⟨ta, tc, rfl⟩ := hts.any_
    generalize htl : (Value.slice ta (rtoks s).length tc) = tl at *
    have hP := RP.start (B := w.heap.size) hts (by omega) hk1.size
    have kP : Kept (fun b => w.heap.size ≤ b) w ((w1.alloc (.cells #[.slice none 0 0, .int .i64 0, .slice none 0 0, .slice none 0 0, .slice none 0 0, .bool false] 85)).alloc (.cells #[tl, .int .i64 0, .int .i64 0, .int .i64 0, .int .i64 0, .int .i64 0, .int .i64 0, .int .i64 0, .pointer (some ⟨w1.heap.size, 0, none⟩), .int .i64 0] 136)) :=
      (hk1.alloc hk1.size _).alloc (by simp; have := hk1.size; omega) _
    have hd0 : DLoop w.heap.size w ((w1.alloc (.cells #[.slice none 0 0, .int .i64 0, .slice none 0 0, .slice none 0 0, .slice none 0 0, .bool false] 85)).alloc (.cells #[tl, .int .i64 0, .int .i64 0, .int .i64 0, .int .i64 0, .int .i64 0, .int .i64 0, .int .i64 0, .pointer (some ⟨w1.heap.size, 0, none⟩), .int .i64 0] 136)) (w1.heap.size + 1) w1.heap.size tl (rtoks s) s 701 (.ok () (start s)) raw0 0 vnil :=
      ⟨hP, kP, SaysOk.start s, rfl, fun st e => by
        injection e with _ e
        subst e
        have hl : left s (start s) ≤ 701 := by unfold left; omega
        exact ⟨start_mid s (by omega), rfl, rfl, hl⟩, by
        have hl : left s (start s) ≤ 701 := by unfold left; omega
        show 0 + left s (start s) ≤ 702
        omega⟩
    have HD0 := Lib.hid hd0
    clear hts hP kP hd0 HTK
    subst htl
    generalize hTS : rtoks s = TS at *
    have HTS := Lib.hid (show RToks TS (toks s) from hTS ▸ rtoks_ok s)
    clear hTS
    go_upto_block 0 with fail
    generalize (w1.alloc (.cells #[.slice none 0 0, .int .i64 0, .slice none 0 0, .slice none 0 0, .slice none 0 0, .bool false] 85)).alloc (.cells #[.slice ta TS.length tc, .int .i64 0, .int .i64 0, .int .i64 0, .int .i64 0, .int .i64 0, .int .i64 0, .int .i64 0, .pointer (some ⟨w1.heap.size, 0, none⟩), .int .i64 0] 136) = W0 at *
    generalize w1.heap.size + 1 = g at *
    generalize w1.heap.size = gp at *
    clear hk1 hlen
    go_cut [] (fun wx => ∃ n o1 r1 f1 vd1, DLoop w.heap.size w wx g gp (.slice ta TS.length tc) TS s n o1 r1 f1 vd1 ∧ isDeclO o1 = false)
    case first =>
      go_wp2_with fail
      go_loopg [] 702 (fun gg wr => ∃ n o1 r1 f1 vd1, DLoop w.heap.size w wr g gp (.slice ta TS.length tc) TS s n o1 r1 f1 vd1 ∧ leftO s o1 ≤ gg)
      case atStart => exact ⟨701, _, _, _, _, HD0.out, by have := HD0.out.dl; simp at this ⊢; omega⟩
      case round =>
        clear HD0
        obtain ⟨n, o1, r1, f1, vd1, hL, hg⟩ := hrel
        have i1 := fun W (h : RRd W g gp (.slice ta TS.length tc) TS [vd1, .int .i64 f1, vnil, vnil, vnil, .bool false] r1) => ris_any h hL.says HTS.out (kd := kQueue) (kr := kQueue) (by decide) (by decide)
        have i2 := fun W (h : RRd W g gp (.slice ta TS.length tc) TS [vd1, .int .i64 f1, vnil, vnil, vnil, .bool false] r1) => ris_any h hL.says HTS.out (kd := kGhost) (kr := kGhost) (by decide) (by decide)
        have i3 := fun W (h : RRd W g gp (.slice ta TS.length tc) TS [vd1, .int .i64 f1, vnil, vnil, vnil, .bool false] r1) => ris_any h hL.says HTS.out (kd := kVar) (kr := kVar) (by decide) (by decide)
        have i4 := fun W (h : RRd W g gp (.slice ta TS.length tc) TS [vd1, .int .i64 f1, vnil, vnil, vnil, .bool false] r1) => ris_any h hL.says HTS.out (kd := kFreq) (kr := kFreq) (by decide) (by decide)
        have I1 := Lib.hid i1
        have I2 := Lib.hid i2
        have I3 := Lib.hid i3
        have I4 := Lib.hid i4
        have HL := Lib.hid hL
        have HG := Lib.hid hg
        have HE := Lib.hid (isDeclO_eq o1)
        clear i1 i2 i3 i4 hL hg
        unfold vs at *
        go_upto_region 4 with fail
        go_cut [28] (fun s28 wx => s28 = .bool (isDeclO o1) ∧ ∃ q, wx = wr.drewN q)
        case first =>
          cases b1 : o1.isB kQueue with
          | true =>
            rw [b1] at I1 HE
            go_wp2_with fail
            refine (I1.out _ HL.out.rp.rd).mono ?_
            rintro x w2 ⟨rfl, q1, rfl⟩
            go_wp2
            go_meet
            exact ⟨by rw [HE.out]; rfl, q1, rfl⟩
          | false =>
            rw [b1] at I1 HE
            cases b2 : o1.isB kGhost with
            | true =>
              rw [b2] at I2 HE
              go_wp2_with fail
              refine (I1.out _ HL.out.rp.rd).mono ?_
              rintro x w2 ⟨rfl, q1, rfl⟩
              go_wp2_with fail
              refine (I2.out _ (HL.out.rp.rd.drewN _)).mono ?_
              rintro x w2 ⟨rfl, q2, rfl⟩
              go_wp2
              go_meet
              exact ⟨by rw [HE.out]; rfl, _, rfl⟩
            | false =>
              rw [b2] at I2 HE
              cases b3 : o1.isB kVar with
              | true =>
                rw [b3] at I3 HE
                go_wp2_with fail
                refine (I1.out _ HL.out.rp.rd).mono ?_
                rintro x w2 ⟨rfl, q1, rfl⟩
                go_wp2_with fail
                refine (I2.out _ (HL.out.rp.rd.drewN _)).mono ?_
                rintro x w2 ⟨rfl, q2, rfl⟩
                go_wp2_with fail
                refine (I3.out _ (HL.out.rp.rd.drewN _)).mono ?_
                rintro x w2 ⟨rfl, q3, rfl⟩
                go_wp2
                go_meet
                exact ⟨by rw [HE.out]; rfl, _, rfl⟩
              | false =>
                rw [b3] at I3 HE
                cases b4 : o1.isB kFreq
                all_goals
                  rw [b4] at I4 HE
                  go_wp2_with fail
                  refine (I1.out _ HL.out.rp.rd).mono ?_
                  rintro x w2 ⟨rfl, q1, rfl⟩
                  go_wp2_with fail
                  refine (I2.out _ (HL.out.rp.rd.drewN _)).mono ?_
                  rintro x w2 ⟨rfl, q2, rfl⟩
                  go_wp2_with fail
                  refine (I3.out _ (HL.out.rp.rd.drewN _)).mono ?_
                  rintro x w2 ⟨rfl, q3, rfl⟩
                  go_wp2_with fail
                  refine (I4.out _ (HL.out.rp.rd.drewN _)).mono ?_
                  rintro x w2 ⟨rfl, q4, rfl⟩
                  go_wp2
                  go_meet
                  exact ⟨by rw [HE.out]; rfl, _, rfl⟩
        case rest =>
          obtain ⟨rfl, q, rfl⟩ := hcut
          clear I1 I2 I3 I4 HE
          have hL1 := HL.out
          have hP1 := hL1.rp.drewN q
          have kP1 := hL1.kept.drewN q
          cases hid : isDeclO o1 with
          | true =>
            obtain ⟨st, rfl, hkd⟩ := isDeclO_yes hid
            obtain ⟨m1, m2, m3, m4⟩ := hL1.mid st rfl
            have hdl := hL1.dl
            have hdc := rdecl_any hP1 hL1.says HTS.out hkd (by omega) m3
            have HDC := Lib.hid hdc
            have HKD := Lib.hid hkd
            clear hL1 hP1 kP1 hdc hkd hid m1 m2 m3 m4 hdl
            go_wp2_with fail
            refine HDC.out.mono ?_
            rintro x w2 ⟨rfl, hk2, f2, vd2, r2, hP2, hs2, hf2, hl2⟩
            have hnx := HL.out.next HKD.out (((Kept.refl _ wr).drewN q).trans hk2) hP2 hs2 hf2 hl2
            have HNX := Lib.hid hnx
            have hlt := hnx.2
            have hg := HG.out
            clear hnx hk2 hP2 hs2 hf2 hl2 HDC
            go_wp2
            go_roundg (leftO s (decl s st))
            case measure => omega
            case rel =>
              obtain ⟨⟨n', hn⟩, _⟩ := HNX.out
              exact ⟨n', _, _, _, _, hn, Nat.le_refl _⟩
          | false =>
            have HF := Lib.hid hid
            clear hL1 hP1 kP1 hid
            go_wp2
            go_meet
            obtain ⟨l1, l2, l3, l4, l5, l6⟩ := HL.out
            exact ⟨n, o1, r1, f1, vd1, ⟨l1.drewN q, l2.drewN q, l3, l4, l5, l6⟩, HF.out⟩
    case rest =>
      obtain ⟨n, o1, r1, f1, vd1, hL, hid⟩ := hcut
      clear HD0
      have ho1 : o1 = declsO s 702 (.ok () (start s)) := by rw [← hL.eq, declsO_end hid]
      have hdl := hL.dl
      have hP := hL.rp
      have hsl := hP.sl
      obtain ⟨ad, cd, rfl⟩ := hsl.any_
      have c8 := hP.rd.cells.2.2.2.2.2.2.2.2.1
      have p0 := hP.rd.pol.cell 0
      have p2 := hP.rd.pol.cell 2
      have pf := fun j => hP.rd.pol.frozen j
      have pl := hP.rd.pol.lt
      have rl := hP.rd.row.lt
      simp at p0 p2
      have hmk := mk_rules r1.decls.length (by omega)
      have HL := Lib.hid hL
      have HO1 := Lib.hid ho1
      have HDL := Lib.hid (show r1.decls.length ≤ 702 by omega)
      have HID := Lib.hid hid
      clear hL hP hsl ho1 hdl hid
      generalize hnn : r1.decls.length = N at *
      have HNN := Lib.hid hnn
      generalize hEE : (List.replicate N (Value.slice none 0 0)) = E at hmk
      have HEE := Lib.hid hEE
      clear hnn hEE
      unfold vnil at *
      go_upto_region 6 with fail
      go_cut [] (fun wx => ∃ vr, RP w.heap.size wx g gp (.slice ta TS.length tc) TS f1 vr (.slice none 0 0) (.slice none 0 0) false r1 (.slice ad N cd) ∧ Sl (fun b => w.heap.size ≤ b) wx 83 1 vr N (List.replicate N (Value.slice none 0 0)) ∧ Kept (fun b => w.heap.size ≤ b) w wx)
      case first =>
        go_region
        go_wp2
        go_meet
        have hsz2 := HL.out.rp.sz
        have hp2 := HL.out.rp.setPol 2 (.slice (some ⟨wc.heap.size, 0, none⟩) N N) (vr' := .slice (some ⟨wc.heap.size, 0, none⟩) N N) (vh' := vnil) (vm' := vnil) (ms' := false) rfl
        have hm2 := Sl.made (N := fun b => w.heap.size ≤ b) (w := wc.setCell ⟨gp, 2, none⟩ (.slice (some ⟨wc.heap.size, 0, none⟩) N N)) (t := 83) (n := N) (x := Value.slice none 0 0) (by simpa using hsz2) (by unfold maxLen; have := HDL.out; omega)
        simp only [World.size_setCell] at hm2
        rw [← HEE.out]
        exact ⟨_, (hp2.alloc _).drewN 1, hm2.of_heap rfl, ((HL.out.kept.setCell (p := ⟨gp, 2, none⟩) HL.out.rp.p0 _).alloc (by simpa using hsz2) _).drew⟩
      case rest =>
        obtain ⟨vr, hP, hvr, hk⟩ := hcut
        have c8' := hP.rd.cells.2.2.2.2.2.2.2.2.1
        have p0' := hP.rd.pol.cell 0
        have p3' := hP.rd.pol.cell 3
        have pf' := fun j => hP.rd.pol.frozen j
        have pl' := hP.rd.pol.lt
        have rl' := hP.rd.row.lt
        simp at p0' p3'
        have hmk2 := mk_has N (by have := HDL.out; omega)
        have HVR := Lib.hid hvr
        have HP := Lib.hid hP
        have HK := Lib.hid hk
        clear c8 p0 p2 pf pl rl hmk hP hvr hk
        generalize hEE2 : (List.replicate N (Value.bool false)) = E2 at hmk2
        have HEE2 := Lib.hid hEE2
        clear hEE2
        go_upto_region 7 with fail
        go_cut [] (fun wx => ∃ vh, RP w.heap.size wx g gp (.slice ta TS.length tc) TS f1 vr vh (.slice none 0 0) false r1 (.slice ad N cd) ∧ Sl (fun b => w.heap.size ≤ b) wx 4 1 vh N (List.replicate N (Value.bool false)) ∧ Sl (fun b => w.heap.size ≤ b) wx 83 1 vr N (List.replicate N (Value.slice none 0 0)) ∧ Kept (fun b => w.heap.size ≤ b) w wx)
        case first =>
          go_region
          go_wp2
          go_meet
          have hsz2 := HP.out.sz
          have hp2 := HP.out.setPol 3 (.slice (some ⟨wc.heap.size, 0, none⟩) N N) (vr' := vr) (vh' := .slice (some ⟨wc.heap.size, 0, none⟩) N N) (vm' := .slice none 0 0) (ms' := false) rfl
          have hm2 := Sl.made (N := fun b => w.heap.size ≤ b) (w := wc.setCell ⟨gp, 3, none⟩ (.slice (some ⟨wc.heap.size, 0, none⟩) N N)) (t := 4) (n := N) (x := Value.bool false) (by simpa using hsz2) (by unfold maxLen; have := HDL.out; omega)
          simp only [World.size_setCell] at hm2
          rw [← HEE2.out]
          have kone : Kept (fun b => b = gp) wc (wc.setCell ⟨gp, 3, none⟩ (.slice (some ⟨wc.heap.size, 0, none⟩) N N)) := Kept.one wc ⟨gp, 3, none⟩ _
          have hv2 := (HVR.out.kept kone (fun b hb e => HVR.out.ne_row HP.out.rd.pol (by decide) (e ▸ hb))).alloc (.cells (List.replicate N (Value.bool false)).toArray 4)
          exact ⟨_, (hp2.alloc _).drewN 1, hm2.of_heap rfl, hv2.of_heap rfl, ((HK.out.setCell (p := ⟨gp, 3, none⟩) HP.out.p0 _).alloc (by simpa using hsz2) _).drew⟩
        case rest =>
          obtain ⟨vh, hP, hvh, hvr, hk⟩ := hcut
          have hr0 : RLoop w.heap.size w wc g gp (.slice ta TS.length tc) TS s 701 o1 o1 r1 f1 vr vh (.slice none 0 0) false (.slice ad N cd) (List.replicate N false) (List.replicate N (.slice none 0 0)) := by
            refine ⟨⟨hP, ⟨?_, ?_, ?_, ?_, ?_⟩, ⟨_, _, _, rfl⟩⟩, hk, HL.out.says, rfl, fun st e => ?_⟩
            · rw [HNN.out, List.map_replicate]; exact hvh
            · rw [HNN.out]; exact hvr
            · rw [HNN.out, List.length_replicate]
            · rw [HNN.out, List.length_replicate]
            · intro v hv
              rw [List.eq_of_mem_replicate hv]
              exact ⟨_, _, _, rfl⟩
            · obtain ⟨m1, m2, m3, m4⟩ := HL.out.mid st e
              refine ⟨m1, m3, by have := m1.dl; omega, Nat.le_refl _, fun _ => ?_⟩
              rw [m2, HNN.out]
              exact RMean.none_ _ _ _
          have HR0 := Lib.hid hr0
          clear c8' p0' p3' pf' pl' rl' hmk2 hP hvh hvr hk hr0 HVR HP HK
          go_upto_block 2 with fail
          go_cut [] (fun wx => ∃ n2 o2 r2 vm2 ms2 hs2 rs2, RLoop w.heap.size w wx g gp (.slice ta TS.length tc) TS s n2 o1 o2 r2 f1 vr vh vm2 ms2 (.slice ad N cd) hs2 rs2 ∧ o2.isB kOn = false)
          case first =>
            go_wp2_with fail
            go_loopg [] 702 (fun gg wr => ∃ n2 o2 r2 vm2 ms2 hs2 rs2, RLoop w.heap.size w wr g gp (.slice ta TS.length tc) TS s n2 o1 o2 r2 f1 vr vh vm2 ms2 (.slice ad N cd) hs2 rs2 ∧ leftO s o2 ≤ gg)
            case atStart => exact ⟨701, _, _, _, _, _, _, HR0.out, by have := leftO_le (s := s) o1; have := H7.out; omega⟩
            case round =>
              clear HR0
              obtain ⟨n2, o2, r2, vm2, ms2, hs2, rs2, hL2, hg⟩ := hrel
              have i1 := ris_any hL2.rq.rd hL2.says HTS.out (kd := kOn) (kr := kOn) (by decide) (by decide)
              have I1 := Lib.hid i1
              have HL2 := Lib.hid hL2
              have HG := Lib.hid hg
              clear i1 hL2 hg
              unfold vs at *
              cases b1 : o2.isB kOn with
              | true =>
                obtain ⟨a0, st, rfl, hkd⟩ := Out.isB_ok b1
                cases a0
                obtain ⟨m1, m2, m3, m5, m4⟩ := HL2.out.mid st rfl
                rw [b1] at I1
                clear b1
                go_wp2_with fail
                refine I1.out.mono ?_
                rintro x w2 ⟨rfl, q1, rfl⟩
                have hrl := rrule_any (HL2.out.rq.call ((Kept.refl _ wr).drewN q1) (HL2.out.rq.rd.drewN q1) rfl) HL2.out.says HTS.out (by have := H7.out; omega) hkd m1.depth m1.loops (by have := m1.dl; omega) (fun hw => (m4 hw).kept (fun _ _ _ _ => rfl))
                have HRL := Lib.hid hrl
                have HKD := Lib.hid hkd
                clear hrl m1 m2 m3 m4 m5 hkd
                go_wp2_with fail
                refine HRL.out.mono ?_
                rintro x w3 ⟨rfl, hk3, vm3, ms3, r3, hs3, rs3, hq3, hy3, hd3, hm3⟩
                have hnx := HL2.out.next HKD.out (((Kept.refl _ wr).drewN q1).trans hk3) hq3 hy3 hd3 hm3
                have HNX := Lib.hid hnx
                have hlt : leftO s (rule s 1500 st) < leftO s (Out.ok () st : Out Unit) := hnx.2
                have hg : leftO s (Out.ok () st : Out Unit) ≤ _ := HG.out
                clear hnx hk3 hq3 hy3 hd3 hm3 HRL
                go_wp2
                go_roundg (leftO s (rule s 1500 st))
                case measure => omega
                case rel =>
                  obtain ⟨⟨n', hn⟩, _⟩ := HNX.out
                  exact ⟨n', _, _, _, _, _, _, hn, Nat.le_refl _⟩
              | false =>
                rw [b1] at I1
                have HB1 := Lib.hid b1
                clear b1
                go_wp2_with fail
                refine I1.out.mono ?_
                rintro x w2 ⟨rfl, q1, rfl⟩
                go_wp2
                go_meet
                obtain ⟨l1, l2, l3, l4, l5⟩ := HL2.out
                exact ⟨n2, o2, r2, vm2, ms2, hs2, rs2, ⟨l1.call ((Kept.refl _ wr).drewN q1) (l1.rd.drewN q1) rfl, l2.drewN q1, l3, l4, fun st e => by
                  obtain ⟨m1, m2, m3, m5, m4⟩ := l5 st e
                  exact ⟨m1, m2, m3, m5, fun hw => (m4 hw).kept (fun _ _ _ _ => rfl)⟩⟩, HB1.out⟩
          case rest =>
            obtain ⟨n2, o2, r2, vm2, ms2, hs2, rs2, hL2, hon⟩ := hcut
            clear HR0
            have ho2 : o2 = rulesO s 1500 702 o1 := by rw [← hL2.eq, rulesO_end hon]
            have hall : readAll s = wantO s kEnd o2 := by
              rw [readAll_eq, ho2, HO1.out]
              rfl
            have hnd := rneed_end hL2.rq.rd hL2.says HTS.out
            have HND := Lib.hid hnd
            have HL2 := Lib.hid hL2
            have HALL := Lib.hid hall
            clear hnd hL2 hall ho2 hon
            unfold vs at *
            go_wp2_with fail
            refine HND.out.mono ?_
            rintro x w4 ⟨x4, rfl, hk4, r4, h4, hd4, hm4⟩
            have c4 := h4.cells.2.2.2.2.1
            have c5 := h4.cells.2.2.2.2.2.1
            have c6 := h4.cells.2.2.2.2.2.2.1
            have c7 := h4.cells.2.2.2.2.2.2.2.1
            have c8' := h4.cells.2.2.2.2.2.2.2.2.1
            have p5 := h4.pol.cell 5
            simp at p5
            have rl4 := h4.row.lt
            have pl4 := h4.pol.lt
            have K4 := Lib.hid (HL2.out.kept.trans (kg_up hk4 HL2.out.rq.g0 HL2.out.rq.sz))
            have H4 := Lib.hid h4
            have HK4 := Lib.hid hk4
            have HD4 := Lib.hid (show r4.decls = r2.decls from hd4)
            clear hk4 h4 hd4 HND
            unfold encRTokV
            cases hw : wantO s kEnd o2 with
            | bad e p =>
              rw [hw] at hm4 HALL
              obtain ⟨e1, e2, e3⟩ := hm4
              have f1 : ((r4.bad : Int) == 0) = false := by rw [e1]; simpa using e3
              have f2 : decide ((r4.bad : Int) = 0) = false := by rw [e1]; simpa using e3
              have HB := Lib.hid (And.intro e1 e2)
              have HR := Lib.hid (read_bad H7.out HALL.out)
              clear hw e1 e2 e3
              unfold vs at *
              go_wp2
              go_region
              go_wp2
              go_ret3
              refine ⟨K4.out.drewN 1, ?_⟩
              rw [HR.out, HB.out.1, HB.out.2]
              rfl
            | ok t4 st4 =>
              rw [hw] at hm4 HALL
              obtain ⟨e1, e2⟩ := hm4
              have f1 : (r4.bad : Int) = 0 := by rw [e1]; rfl
              rw [f1] at c4
              have HW := Lib.hid hw
              clear hw e1 f1
              cases hwr : st4.wrong with
              | some y =>
                rw [hwr] at e2
                obtain ⟨e3, e4, e5⟩ := e2
                have f1 : ((r4.wrong : Int) == 0) = false := by rw [e3]; simpa using e5
                have f2 : decide ((r4.wrong : Int) = 0) = false := by rw [e3]; simpa using e5
                have HB := Lib.hid (And.intro e3 e4)
                have HR := Lib.hid (read_wrong H7.out HALL.out hwr)
                clear hwr e3 e4 e5
                unfold vs at *
                go_wp2
                go_region
                go_wp2
                go_ret3
                refine ⟨K4.out.drewN 1, ?_⟩
                rw [HR.out, HB.out.1, HB.out.2]
                rfl
              | none =>
                rw [hwr] at e2
                have f1 : (r4.wrong : Int) = 0 := by rw [show r4.wrong = 0 from e2]; rfl
                rw [f1] at c6
                have hst : ∃ st2, o2 = .ok () st2 ∧ st4 = next s st2 := by
                  have hw := HW.out
                  cases o2 with
                  | bad e p => cases hw
                  | ok a st2 => exact ⟨st2, rfl, (want_ok (show want s kEnd st2 = .ok t4 st4 from hw)).2.2⟩
                obtain ⟨st2, rfl, rfl⟩ := hst
                have hwr2 : st2.wrong = none := hwr
                obtain ⟨m1, m2, m3, m5, m4⟩ := HL2.out.mid st2 rfl
                have hmean := (m4 hwr2).kg HK4.out HL2.out.rq.rd.row
                have hms := hmean.ms
                have HMEAN := Lib.hid hmean
                have HF := Lib.hid m2
                have HWR := Lib.hid hwr
                clear hwr e2 f1 m1 m2 m3 m4 m5 hmean hwr2
                cases hmi : (missOf st2.rules).isSome with
                | false =>
                  rw [hmi] at hms
                  have HR := Lib.hid (read_nomiss H7.out HALL.out HWR.out hmi)
                  clear hmi
                  subst hms
                  unfold vs at *
                  go_wp2
                  go_ret3
                  refine ⟨K4.out, ?_⟩
                  rw [HR.out]
                  rfl
                | true =>
                  rw [hmi] at hms
                  have HR := Lib.hid (read_good H7.out HALL.out HWR.out hmi)
                  clear hmi
                  subst hms
                  unfold vs at *
                  go_wp2
                  go_ret3
                  refine ⟨K4.out, ?_⟩
                  rw [HR.out]
                  have hq := HL2.out.rq.call HK4.out H4.out HD4.out
                  have hdec : st2.decls = r4.decls := by rw [HD4.out]; exact (SaysOk.decls HL2.out.says).symm
                  refine ⟨gp, rfl, .slice ad N cd, vr, vh, vm2, hs2, rs2, ?_, ?_, ?_, ?_, hq.p0, hq.vms⟩
                  · show Row w4 gp _ [_, .int .i64 st2.freq, _, _, _, .bool true]
                    rw [← HF.out]
                    exact H4.out.pol
                  · show Sl _ w4 _ 3 _ st2.decls.length (st2.decls.flatMap encRDecl)
                    rw [hdec]
                    exact hq.sl
                  · show RRul _ w4 _ _ st2.decls.length _ _
                    rw [hdec]
                    exact hq.ru
                  · show RMean _ w4 st2.rules true _ st2.decls.length _ _
                    rw [hdec, HD4.out]
                    exact HMEAN.out
end
end Go.Proofs.YtemppijblfflgabGreatDoor.Ev
namespace Go.Proofs.YtemppijblfflgabGreatDoor.Ev
open Go Go.RowKit

def encREnt (e : Ent) : List Value := [.int .u64 e.key, .int .i64 e.freq]
def Far (u v : Value) : Prop := ∀ b, u.ownBlock = some b → v.ownBlock ≠ some b
/-- Sequences of entries, each in a row of its own. -/
structure QR (S : Nat → Prop) (w : World) (vq : Value) (q : List (List Ent)) (vl : List Value) : Prop where
  outer : Sl S w 122 1 vq q.length vl
  len : vl.length = q.length
  inner : ∀ (i : Nat) v l, vl[i]? = some v → q[i]? = some l → Sl S w 117 2 v l.length (l.flatMap encREnt)
  far : ∀ (i j : Nat) u v, i ≠ j → vl[i]? = some u → vl[j]? = some v → Far u v

section
variable {S S1 : Nat → Prop} {w w' : World} {vq : Value} {q : List (List Ent)} {vl : List Value}

theorem QR.kept (h : QR S w vq q vl) (hk : Kept S1 w w') (hS : ∀ b, S b → b < w.heap.size → ¬ S1 b) : QR S w' vq q vl :=
  ⟨h.outer.kept hk (fun b hb => hS b (h.outer.2 b hb) (h.outer.lt hb)), h.len,
    fun i v l h1 h2 => (h.inner i v l h1 h2).kept hk (fun b hb => hS b ((h.inner i v l h1 h2).2 b hb) ((h.inner i v l h1 h2).lt hb)), h.far⟩
theorem QR.mono (h : QR S w vq q vl) (hS : ∀ b, b < w.heap.size → S b → S1 b) : QR S1 w vq q vl :=
  ⟨⟨h.outer.1, fun g hg => hS g (h.outer.lt hg) (h.outer.2 g hg)⟩, h.len, fun i v l h1 h2 => ⟨(h.inner i v l h1 h2).1, fun g hg => hS g ((h.inner i v l h1 h2).lt hg) ((h.inner i v l h1 h2).2 g hg)⟩, h.far⟩
end
end Go.Proofs.YtemppijblfflgabGreatDoor.Ev
namespace Go.Proofs.YtemppijblfflgabGreatDoor.Ev
open Go Go.RowKit


theorem RPol.kept {N T : Nat → Prop} {w w' : World} {gp : Nat} {p : Policy} (h : RPol N w gp p) (hk : Kept T w w') (hT : ∀ b, N b → b < w.heap.size → ¬ T b) : RPol N w' gp p := by
  obtain ⟨vd, vr, vh, vm, hs, rs, h1, h2, h3, h4, h5, h6⟩ := h
  exact ⟨vd, vr, vh, vm, hs, rs, h1.kept hk (hT _ h5 h1.lt), h2.kept hk (fun b hb => hT b (h2.2 b hb) (h2.lt hb)), h3.kept hk (fun b cs hr hb => hT b hb hr.lt) (fun b cs hr hb => hT b hb hr.lt),
    h4.kept (fun k cs hN hr => hk.block k (hT k hN hr.lt)), h5, h6⟩
theorem RPol.mono {N N' : Nat → Prop} {w : World} {gp : Nat} {p : Policy} (h : RPol N w gp p) (hN : ∀ k, k < w.heap.size → N k → N' k) : RPol N' w gp p := by
  obtain ⟨vd, vr, vh, vm, hs, rs, h1, h2, h3, h4, h5, h6⟩ := h
  exact ⟨vd, vr, vh, vm, hs, rs, h1, ⟨h2.1, fun g hg => hN g (h2.lt hg) (h2.2 g hg)⟩, h3.mono hN, h4.mono hN, hN _ h1.lt h5, h6⟩
/-- A declaration in memory. -/
theorem RPol.decl {N : Nat → Prop} {w : World} {gp : Nat} {p : Policy} (h : RPol N w gp p) {k : Nat} (hk : k < p.decls.length) : ∃ gd cd, w.cell? ⟨gp, 0, none⟩ = some (.slice (some ⟨gd, 0, none⟩) p.decls.length cd) ∧ p.decls.length ≤ cd ∧ cd ≤ maxLen ∧ gd < w.heap.size ∧ gp < w.heap.size ∧
    w.cell? ⟨gd, k * 3, none⟩ = some (vs (rdeclWord (declAt p.decls (k : Int)).kind)) ∧ w.cell? ⟨gd, k * 3 + 1, none⟩ = some (vs (declAt p.decls (k : Int)).name) ∧ w.cell? ⟨gd, k * 3 + 2, none⟩ = some (.int .i64 (declAt p.decls (k : Int)).max) := by
  obtain ⟨vd, vr, vh, vm, hs, rs, h1, h2, _⟩ := h
  obtain ⟨gd, cd, rfl, _, q1, q2, q3⟩ := h2.form (by omega)
  have hx : p.decls[k]? = some (declAt p.decls (k : Int)) := by
    unfold declAt
    rw [Int.toNat_natCast, List.getElem?_eq_getElem hk]; rfl
  exact ⟨gd, cd, h1.cell 0, q1, q2, q3, h1.lt, h2.at_ (fun _ => rfl) hx (j := 0) (by omega), h2.at_ (fun _ => rfl) hx (j := 1) (by omega), h2.at_ (fun _ => rfl) hx (j := 2) (by omega)⟩

/-- A state of the document's answer, in blocks of S. -/
structure RStR (S : Nat → Prop) (w : World) (g gp : Nat) (vq vv : Value) (s : St) (c : Cnt) (vl : List Value) : Prop where
  row : Row w g 50 [.pointer (some ⟨gp, 0, none⟩), vq, vv, .int .i64 c.hits, .int .i64 c.misses, .int .i64 c.evicted]
  q : QR S w vq s.q vl
  v : Sl S w 3 1 vv s.vars.length (s.vars.map encI)
  sg : S g
section
variable {S S' T : Nat → Prop} {w w' : World} {g gp : Nat} {vq vv : Value} {s : St} {c : Cnt} {vl : List Value}
theorem RStR.kept (h : RStR S w g gp vq vv s c vl) (hk : Kept T w w') (hT : ∀ b, S b → b < w.heap.size → ¬ T b) : RStR S w' g gp vq vv s c vl :=
  ⟨h.row.kept hk (hT _ h.sg h.row.lt), h.q.kept hk hT, h.v.kept hk (fun b hb => hT b (h.v.2 b hb) (h.v.lt hb)), h.sg⟩
theorem RStR.mono (h : RStR S w g gp vq vv s c vl) (hS : ∀ b, b < w.heap.size → S b → S' b) : RStR S' w g gp vq vv s c vl :=
  ⟨h.row, h.q.mono hS, ⟨h.v.1, fun b hb => hS b (h.v.lt hb) (h.v.2 b hb)⟩, hS _ h.row.lt h.sg⟩
end
end Go.Proofs.YtemppijblfflgabGreatDoor.Ev
namespace Go.Proofs.YtemppijblfflgabGreatDoor.Ev
open Go Go.RowKit

/-- What holds of a state, always. -/
def GI (p : Policy) (s : St) : Prop := SInv p s ∧ ∃ A ns, AInv A ns s.q

end Go.Proofs.YtemppijblfflgabGreatDoor.Ev
namespace Go.Proofs.YtemppijblfflgabGreatDoor.Ev
open Go Go.RowKit

/-- The cells of one statement. -/
def QStF (cs : List Value) : Prop := ∃ (k : Bytes) (n m : Int) (t : Bool) (b0 : Bytes) (i1 : Int) (b2 : Bytes) (i3 : Int) (b4 : Bytes) (i5 : Int) (i6 : Int) (a1 : Option Addr) (n1 c1 : Nat) (a2 : Option Addr) (n2 c2 : Nat) (o : Bool),
  cs = [vs k, .int .i64 n, .int .i64 m, .bool t, vs b0, .int .i64 i1, vs b2, .int .i64 i3, vs b4, .int .i64 i5, .int .i64 i6, .slice a1 n1 c1, .slice a2 n2 c2, .bool o]
theorem rckVals_form (c : CK) : ∃ b0 n1 b2 n3, rckVals c = [vs b0, .int .i64 n1, vs b2, .int .i64 n3] := by
  cases c with
  | less a b => exact ⟨_, _, _, _, rfl⟩
  | _ => exact ⟨_, _, _, _, rfl⟩
theorem RSn.form_ {N : Nat → Prop} {w : World} {v : Value} {n : Nat} {cs : List Value} (h : RSn N w v n cs) : ∃ a c, v = .slice a n c := h.any_

/-- A block's statements in memory, the first apart. -/
theorem RStmtsR.part {N : Nat → Prop} {w : World} : ∀ (b : Blk) (cs : List Value), b ≠ .nil → RStmtsR N w b cs → ∃ x tl csx cst, b = x.app tl ∧ x.length = 1 ∧ cs = csx ++ cst ∧ QStF csx ∧ RStmtsR N w x csx ∧ RStmtsR N w tl cst ∧ b.length = tl.length + 1 ∧ x.size + tl.size = b.size
  | .nil, cs, h, _ => absurd rfl h
  | .prim p r, cs, _, ⟨rest, h1, h2⟩ =>
    ⟨.prim p .nil, r, encRPrim p, rest, rfl, rfl, h1, ⟨_, _, _, _, _, _, _, _, _, _, _, _, _, _, _, _, _, _, rfl⟩, ⟨[], by simp, rfl⟩, h2, by simp [Blk.length], by simp [Blk.size]⟩
  | .ite c t o e r, cs, _, ⟨vt, ve, rest, h1, ht, he, hr⟩ => by
    obtain ⟨ct, hct, _⟩ := id ht
    obtain ⟨a1, c1, hvt⟩ := hct.form_
    have hve : ∃ a n c, ve = .slice a n c := by
      cases o with
      | true =>
        rw [if_pos rfl] at he
        obtain ⟨ce, hce, _⟩ := he
        obtain ⟨a2, c2, h⟩ := hce.form_
        exact ⟨_, _, _, h⟩
      | false =>
        rw [if_neg Bool.false_ne_true] at he
        exact ⟨none, 0, 0, he.1⟩
    obtain ⟨a2, n2, c2, hve⟩ := hve
    obtain ⟨b0, n1, b2, n3, hv⟩ := rckVals_form c.k
    refine ⟨.ite c t o e .nil, r, encRIf c vt o ve, rest, rfl, rfl, h1, ?_, ⟨vt, ve, [], by simp, ht, he, rfl⟩, hr, by simp [Blk.length], by simp [Blk.size]; try omega⟩
    unfold encRIf encRCond
    rw [hv, hvt, hve]
    exact ⟨_, _, _, _, _, _, _, _, _, _, _, _, _, _, _, _, _, _, rfl⟩
  | .rep n c b r, cs, _, ⟨vt, rest, h1, ht, hr⟩ => by
    obtain ⟨ct, hct, _⟩ := id ht
    obtain ⟨a1, c1, hvt⟩ := hct.form_
    obtain ⟨b0, n1, b2, n3, hv⟩ := rckVals_form c.k
    refine ⟨.rep n c b .nil, r, encRRep n c vt, rest, rfl, rfl, h1, ?_, ⟨vt, [], by simp, ht, rfl⟩, hr, by simp [Blk.length], by simp [Blk.size]; try omega⟩
    unfold encRRep encRCond
    rw [hv, hvt]
    exact ⟨_, _, _, _, _, _, _, _, _, _, _, _, _, _, _, _, _, _, rfl⟩

section
variable {B : Nat} {X : Nat → Prop} {w0 wr : World} {gr gs gp k : Nat} {p : Policy} {c : Cnt} {key : Int} {b rest : Blk} {cs csd csr : List Value} {o : Except Nat Run} {r : Run} {e : Nat}

end
end Go.Proofs.YtemppijblfflgabGreatDoor.Ev
