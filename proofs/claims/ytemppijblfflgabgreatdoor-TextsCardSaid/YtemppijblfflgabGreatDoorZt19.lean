/- The document's text of a policy: numbers, values, conditions. The document's text of a policy: a block, on its statements' contract. The document's text of a policy: statements. The document's text of a policy: if, repeat. The document's text of a policy: all statements, all blocks. Conditions: none. -/
import Derived.Deep.RegionWith
import Derived.Laws.IdiomStrings
import Derived.IntWalk
import Derived.Deep.DrawnRows
import Derived.Deep.RegionLaw
import Derived.Test.YtemppijblfflgabGreatDoorZt11
import Derived.Test.YtemppijblfflgabGreatDoorZt15
import Derived.Test.YtemppijblfflgabGreatDoorZt16
import Derived.Test.YtemppijblfflgabGreatDoorZt18
set_option linter.all false
namespace Go.Proofs.YtemppijblfflgabGreatDoor.Ev
open Go Go.RowKit

theorem tdig_lt {n : Int} (h0 : 0 ≤ n) (h : n < 10) : digits n = [UInt8.ofNat (48 + n.toNat)] := by
  unfold digits
  rw [digitsNat_one (by omega)]
theorem tdig_ge {n : Int} (h : 10 ≤ n) : digits n = digits (n / 10) ++ [UInt8.ofNat (48 + (n % 10).toNat)] := by
  unfold digits
  rw [digitsNat_more (by omega)]
  have e1 : n.toNat / 10 = (n / 10).toNat := by omega
  have e2 : n.toNat % 10 = (n % 10).toNat := by omega
  rw [e1, e2]

section
variable {w : World}
attribute [local go_sem ↓] Go.wp_at_zero Go.wp_at_succ
theorem tcv_byte (m : Int) (h0 : 0 ≤ m) (h : m < 256) (W : World) (b : Nat) (hc : W.cell? ⟨b, 0, none⟩ = some (.int .u8 m)) : (convert 141 9 (.slice (some ⟨b, 0, none⟩) 1 1)).run Tryz.prog W = .ok (.string ⟨#[UInt8.ofNat m.toNat]⟩) W := by
  have := run_convert_bytes_back (P := Tryz.prog) W 141 9 5 ⟨b, 0, none⟩ 1 [UInt8.ofNat m.toNat] Tryz.underlying141 Tryz.underlying5 Tryz.underlying9 (fun j hj => by
    obtain rfl : j = 0 := by simpa using hj
    have e : (((UInt8.ofNat m.toNat).toNat : Nat) : Int) = m := by
      rw [UInt8.toNat_ofNat']
      omega
    show W.cell? ⟨b, 0, none⟩ = some (.int .u8 (((UInt8.ofNat m.toNat).toNat : Nat) : Int))
    rw [e]
    exact hc)
  exact this

set_option maxRecDepth 100000 in
set_option maxHeartbeats 1000000 in
theorem tdec1_any {n : Int} (h0 : 0 ≤ n) (h : n < 10) : Calls Tryz.prog 35 #[.int .i64 n] w (OutTx w (digits n)) := by
  rw [tdig_lt h0 h]
  have hcv := tcv_byte (48 + n) (by omega) (by omega)
  go_enter Tryz.func35, Tryz.ntmps35
  go_wp2
  go_ret
  have e : (48 + n).toNat = 48 + n.toNat := by omega
  exact ⟨by rw [← e]; rfl, (Kept.refl _ w).alloc (Nat.le_refl _) _⟩

set_option maxRecDepth 100000 in
set_option maxHeartbeats 2000000 in
theorem tdec_step {n : Int} (h0 : 10 ≤ n) (h : n ≤ 999) (hf : ∀ W : World, Calls Tryz.prog 35 #[.int .i64 (n / 10)] W (OutTx W (digits (n / 10)))) : Calls Tryz.prog 35 #[.int .i64 n] w (OutTx w (digits n)) := by
  have hd := tdig_ge (n := n) (by omega)
  have hcv := tcv_byte (48 + n % 10) (by omega) (by omega)
  have q1 : n.tdiv 10 = n / 10 := Int.tdiv_eq_ediv_of_nonneg (by omega)
  have q3 : n.tmod 10 = n % 10 := Int.tmod_eq_emod_of_nonneg (by omega)
  have b1 : 0 ≤ n % 10 := by omega
  have b2 : n % 10 < 10 := by omega
  have b3 : 0 ≤ n / 10 := by omega
  have b4 : n / 10 < 100 := by omega
  generalize n / 10 = d at *
  generalize n % 10 = r at *
  have q2 : IntKind.i64.wrap d = d := IntWalk.i64_in _ (by omega)
  have q4 : IntKind.i64.wrap r = r := IntWalk.i64_in _ (by omega)
  have q5 : IntKind.i64.wrap (48 + r) = 48 + r := IntWalk.i64_in _ (by omega)
  have q6 : IntKind.u8.wrap (48 + r) = 48 + r := by unfold IntKind.wrap; simp [IntKind.signed, IntKind.bits]; omega
  have hsum : ∀ W : World, (Op.stringOp .add (⟨(digits d).toArray⟩ : ByteArray) ⟨#[UInt8.ofNat (48 + r).toNat]⟩).run Tryz.prog W = .ok (.string (⟨(digits d).toArray⟩ ++ ⟨#[UInt8.ofNat (48 + r).toNat]⟩)) W := fun W => by
    refine run_string_add_sum W _ _ ?_
    have := (digits_ok (n := d) (by omega) (by omega)).2.1
    rw [size_vs]
    show (digits d).length + 1 ≤ _
    omega
  have hrow : Row (w.alloc (.cells #[.int .u8 (48 + r)] 5)).drew w.heap.size 5 [.int .u8 (48 + r)] := (Row.new w 5 [.int .u8 (48 + r)]).drew
  have HROW := Lib.hid hrow
  have HF := Lib.hid hf
  have HD := Lib.hid hd
  clear hf hd hrow
  unfold OutTx vs at *
  go_enter Tryz.func35, Tryz.ntmps35
  go_wp2_with fail
  go_region_with (go_at_call 35; refine (HF.out _).mono ?_; rintro e w1 ⟨rfl, hk1⟩; have ks := hk1.size; (try (have y0 := (hk1.cell (p := ⟨w.heap.size, 0, none⟩) (by simp)).trans (HROW.out.cell 0); simp at y0)))
  all_goals go_wp2
  all_goals go_ret
  all_goals
    refine ⟨?_, ?_⟩
    · have e : (48 + r).toNat = 48 + r.toNat := by omega
      have e2 : vs (digits d ++ [UInt8.ofNat (48 + r.toNat)]) = .string (⟨(digits d).toArray⟩ ++ ⟨#[UInt8.ofNat (48 + r).toNat]⟩) := by
        unfold vs
        rw [← bapp, e]
      unfold vs at e2
      rw [HD.out, e2]
      rfl
    · first
      | exact (((Kept.refl (fun b => w.heap.size ≤ b) w).drew).trans (hk1.mono (fun b hb => hb))).alloc ks _
      | exact (((Kept.refl (fun b => w.heap.size ≤ b) w).alloc (Nat.le_refl _) _).drew).trans (hk1.mono (fun b hb => by simp [heap_drew] at hb; omega))
theorem tdec_any {n : Int} (h0 : 0 ≤ n) (h : n ≤ 999) : Calls Tryz.prog 35 #[.int .i64 n] w (OutTx w (digits n)) := by
  by_cases h1 : n < 10
  · exact tdec1_any h0 h1
  · refine tdec_step (by omega) h fun W => ?_
    by_cases h2 : n / 10 < 10
    · exact tdec1_any (by omega) h2
    · refine tdec_step (by omega) (by omega) fun W => tdec1_any (by omega) (by omega)
end

/-- What the text's writer reads. -/
structure ThR (w : World) (gp : Nat) (vd vr vh vm : Value) (f : Int) (l : List Decl) : Prop where
  pol : Row w gp 85 [vd, .int .i64 f, vr, vh, vm, .bool true]
  decls : Sl (fun _ => True) w 87 3 vd l.length (l.flatMap encRDecl)
  dw : DeclsW l
section
variable {w w' : World} {gp : Nat} {vd vr vh vm : Value} {f : Int} {l : List Decl}
theorem ThR.later (h : ThR w gp vd vr vh vm f l) (hk : Kept (fun b => w.heap.size ≤ b) w w') : ThR w' gp vd vr vh vm f l :=
  ⟨h.pol.kept hk (fun e => by have := h.pol.lt; omega), h.decls.kept hk (fun b hb e => by have := h.decls.lt hb; omega), h.dw⟩
theorem ThR.at_ (h : ThR w gp vd vr vh vm f l) {k : Int} (hk : Ix l.length k) : ∃ (n gd cd : Nat), k = (n : Int) ∧ n < l.length ∧ vd = .slice (some ⟨gd, 0, none⟩) l.length cd ∧ l.length ≤ cd ∧ cd ≤ 9223372036854775807 ∧ gd < w.heap.size ∧ gp < w.heap.size ∧
    w.cell? ⟨gp, 0, none⟩ = some (.slice (some ⟨gd, 0, none⟩) l.length cd) ∧ w.cell? ⟨gd, n * 3 + 1, none⟩ = some (vs (nameOf l k)) ∧ (nameOf l k).length ≤ 8 := by
  obtain ⟨n, rfl⟩ : ∃ n : Nat, k = (n : Int) := ⟨k.toNat, by have := hk.1; omega⟩
  have hn : n < l.length := by have := hk.2; omega
  obtain ⟨gd, cd, rfl, _, q1, q2, q3⟩ := h.decls.form (by omega)
  have hx : l[n]? = some (declAt l (n : Int)) := by unfold declAt; rw [Int.toNat_natCast, List.getElem?_eq_getElem hn]; rfl
  unfold maxLen at q2
  exact ⟨n, gd, cd, rfl, hn, rfl, q1, q2, q3, h.pol.lt, h.pol.cell 0, h.decls.at_ (fun _ => rfl) hx (j := 1) (by omega), nameOf_len h.dw _⟩

set_option maxRecDepth 100000 in
set_option maxHeartbeats 1000000 in
theorem tval_any (h : ThR w gp vd vr vh vm f l) (v : Val) (hv : ValW l v) : Calls Tryz.prog 128 #[.pointer (some ⟨gp, 0, none⟩), .agg (encRVal v).toArray] w (OutTx w (showVal l v)) := by
  have k0 := fun cs => (Kept.refl (fun b => w.heap.size ≤ b) w).alloc (Nat.le_refl _) (.cells cs 151)
  have K0 := Lib.hid k0
  cases v with
  | num n =>
    have HD := Lib.hid (fun W => tdec_any (w := W) hv.1 hv.2)
    clear h k0
    show Calls _ _ _ _ (OutTx w (digits n))
    unfold encRVal rvalWord valNum vs
    go_enter Tryz.func128, Tryz.ntmps128
    go_wp2_with fail
    refine (HD.out _).mono ?_
    rintro e w1 ⟨rfl, hk1⟩
    have HK1 := Lib.hid hk1
    clear hk1
    go_wp2
    go_ret
    exact ⟨rfl, (K0.out _).trans (HK1.out.mono (fun b hb => by simp at hb; omega))⟩
  | len k =>
    obtain ⟨n, gd, cd, rfl, hn, rfl, q1, q2, q3, q4, d0, d1, hl⟩ := h.at_ hv.1
    have e1 : ¬ gp = w.heap.size := by omega
    have e2 : ¬ gd = w.heap.size := by omega
    show Calls _ _ _ _ (OutTx w (kLen ++ bSp ++ nameOf l (n : Int)))
    generalize nameOf l (n : Int) = nm at *
    have s1 := scat (P := Tryz.prog) (a := ⟨#[108, 101, 110, 32]⟩) (b := ⟨nm.toArray⟩) (by simp only [size_vs, List.length_cons, List.length_nil]; omega)
    clear h k0 hv
    unfold encRVal rvalWord valNum vs at *
    go_enter Tryz.func128, Tryz.ntmps128
    go_wp2
    go_region
    go_wp2
    go_ret
    exact ⟨by rw [bapp]; rfl, (K0.out _).drew⟩
  | var k =>
    obtain ⟨n, gd, cd, rfl, hn, rfl, q1, q2, q3, q4, d0, d1, hl⟩ := h.at_ hv.1
    have e1 : ¬ gp = w.heap.size := by omega
    have e2 : ¬ gd = w.heap.size := by omega
    show Calls _ _ _ _ (OutTx w (nameOf l (n : Int)))
    generalize nameOf l (n : Int) = nm at *
    clear h k0 hv
    unfold encRVal rvalWord valNum vs at *
    go_enter Tryz.func128, Tryz.ntmps128
    go_wp2
    go_region
    go_wp2
    go_ret
    exact ⟨rfl, (K0.out _).drew⟩
  | freq =>
    clear h k0 hv
    show Calls _ _ _ _ (OutTx w kFreq)
    unfold encRVal rvalWord valNum vs at *
    go_enter Tryz.func128, Tryz.ntmps128
    go_wp2
    go_ret
    exact ⟨rfl, K0.out _⟩

theorem encRCond_eq (c : Cond) : ∃ b0 n1 b2 n3, encRCond c = [vs (rckWord c.k), .int .i64 (ckNum c.k), vs b0, .int .i64 n1, vs b2, .int .i64 n3, .int .i64 c.nots] ∧ rckVals c.k = [vs b0, .int .i64 n1, vs b2, .int .i64 n3] := by
  obtain ⟨b0, n1, b2, n3, hv⟩ : ∃ b0 n1 b2 n3, rckVals c.k = [vs b0, .int .i64 n1, vs b2, .int .i64 n3] := by
    cases c.k with
    | less a b => exact ⟨_, _, _, _, rfl⟩
    | _ => exact ⟨_, _, _, _, rfl⟩
  exact ⟨b0, n1, b2, n3, by unfold encRCond; rw [hv]; rfl, hv⟩
def decT (b : Bytes) (n : Int) : Val := if b = rNum then .num n else if b = kLen then .len n else if b = kFreq then .freq else .var n
theorem decT_enc {v : Val} {b : Bytes} {n : Int} (h1 : rvalWord v = b) (h2 : valNum v = n) : decT b n = v := by
  subst h1 h2
  cases v <;> rfl

set_option maxRecDepth 100000 in
set_option maxHeartbeats 2000000 in
theorem tcond_any (h : ThR w gp vd vr vh vm f l) (c : Cond) (hc : CKW l c.k) : Calls Tryz.prog 95 #[.pointer (some ⟨gp, 0, none⟩), .agg (encRCond c).toArray] w (OutTx w (showCond l c)) := by
  have k0 := fun cs => (Kept.refl (fun b => w.heap.size ≤ b) w).alloc (Nat.le_refl _) (.cells cs 153)
  have K0 := Lib.hid k0
  have hsh : showCond l c = notB c ++ showCK l c.k := rfl
  have hnb : notB c = if oddB c.nots then kNot ++ bSp else [] := by
    unfold notB oddB
    by_cases hn : c.nots % 2 = 1 <;> simp [hn]
  have hnl : (notB c).length ≤ 4 := by rw [hnb]; split <;> simp [bSp]
  obtain ⟨b0, n1, b2, n3, he, hv⟩ := encRCond_eq c
  rw [he, hsh]
  clear he hsh
  have simple : ∀ (k : Int) (kw : Bytes), rckWord c.k = kw → (kw = kFull ∨ kw = kEmpty ∨ kw = kWarm) → ckNum c.k = k → Ix l.length k → showCK l c.k = kw ++ bSp ++ nameOf l k →
      Calls Tryz.prog 95 #[.pointer (some ⟨gp, 0, none⟩), .agg #[vs (rckWord c.k), .int .i64 (ckNum c.k), vs b0, .int .i64 n1, vs b2, .int .i64 n3, .int .i64 c.nots]] w (OutTx w (notB c ++ showCK l c.k)) := by
    intro k kw e1 hkw e2 hix e3
    rw [e1, e2, e3]
    obtain ⟨n, gd, cd, rfl, hn, rfl, q1, q2, q3, q4, d0, d1, hl⟩ := h.at_ hix
    have f1 : ¬ gp = w.heap.size := by omega
    have f2 : ¬ gd = w.heap.size := by omega
    generalize nameOf l (n : Int) = nm at *
    generalize notB c = nb at *
    generalize c.nots = nots at *
    have hod := odd_cases nots
    have HOD := Lib.hid hod
    clear hod
    have hkl : kw.length ≤ 5 := by rcases hkw with rfl | rfl | rfl <;> simp
    have ht : (((⟨nb.toArray⟩ : ByteArray) ++ ⟨kw.toArray⟩) ++ ⟨#[32]⟩) ++ ⟨nm.toArray⟩ = ⟨(nb ++ (kw ++ bSp ++ nm)).toArray⟩ := by rw [bapp, bapp, bapp]; simp [bSp]
    have s1 := scat (P := Tryz.prog) (a := ⟨nb.toArray⟩) (b := ⟨kw.toArray⟩) (by simp only [size_vs]; omega)
    have s2 := scat (P := Tryz.prog) (a := ⟨nb.toArray⟩ ++ ⟨kw.toArray⟩) (b := ⟨#[32]⟩) (by simp only [ByteArray.size_append, size_vs, List.length_cons, List.length_nil]; omega)
    have s3 := scat (P := Tryz.prog) (a := ⟨nb.toArray⟩ ++ ⟨kw.toArray⟩ ++ ⟨#[32]⟩) (b := ⟨nm.toArray⟩) (by simp only [ByteArray.size_append, size_vs, List.length_cons, List.length_nil]; omega)
    have HT := Lib.hid ht
    clear ht k0 h hv e1 e2 e3 hc hix
    unfold vs at *
    rcases HOD.out with ⟨z1, z2⟩ | ⟨z1, z2⟩
    · rw [show oddB nots = false from z2, if_neg Bool.false_ne_true] at hnb
      subst hnb
      have qw : IntKind.i64.wrap ((nots : Int).tmod 2) = (nots : Int).tmod 2 := IntWalk.i64_in _ (by omega)
      rw [z1] at qw
      clear z2 HOD
      rcases hkw with rfl | rfl | rfl
      all_goals
        go_enter Tryz.func95, Tryz.ntmps95
        go_wp2
        go_region
        go_wp2
        go_ret
        exact ⟨congrArg (fun x => Ending.returned (.string x)) HT.out, (K0.out _).drew⟩
    · rw [show oddB nots = true from z2, if_pos rfl] at hnb
      obtain rfl : nb = [110, 111, 116, 32] := hnb
      have qw : IntKind.i64.wrap ((nots : Int).tmod 2) = (nots : Int).tmod 2 := IntWalk.i64_in _ (by omega)
      rw [z1] at qw
      clear z2 HOD
      rcases hkw with rfl | rfl | rfl
      all_goals
        go_enter Tryz.func95, Tryz.ntmps95
        go_wp2
        go_region
        go_wp2
        go_ret
        exact ⟨congrArg (fun x => Ending.returned (.string x)) HT.out, (K0.out _).drew⟩
  cases hck : c.k with
  | full k => rw [hck] at simple hc; exact simple k kFull rfl (.inl rfl) rfl hc.1 rfl
  | empty k => rw [hck] at simple hc; exact simple k kEmpty rfl (.inr (.inl rfl)) rfl hc.1 rfl
  | warm k => rw [hck] at simple hc; exact simple k kWarm rfl (.inr (.inr rfl)) rfl hc.1 rfl
  | less a b =>
    rw [hck] at hc hv
    have hff : vs (rvalWord a) = vs b0 ∧ Value.int .i64 (valNum a) = .int .i64 n1 ∧ vs (rvalWord b) = vs b2 ∧ Value.int .i64 (valNum b) = .int .i64 n3 := by
      unfold rckVals encRVal at hv
      simpa only [List.cons_append, List.nil_append, List.cons.injEq, and_true] using hv
    have hd1 : decT b0 n1 = a := decT_enc (vs_inj hff.1) (by have := hff.2.1; injection this)
    have hd2 : decT b2 n3 = b := decT_enc (vs_inj hff.2.2.1) (by have := hff.2.2.2; injection this)
    have la := showVal_len h.dw hc.1
    have lb := showVal_len h.dw hc.2
    rw [← hd1] at la
    rw [← hd2] at lb
    have hvv : ∀ W (_ : Kept (fun b => w.heap.size ≤ b) w W) (cs : List Value) (_ : Row W w.heap.size 153 cs) (bs : Bytes) (m : Int), (bs = b0 ∧ m = n1) ∨ (bs = b2 ∧ m = n3) →
        Calls Tryz.prog 128 #[.pointer (some ⟨gp, 0, none⟩), .agg #[vs bs, .int .i64 m]] W (fun y w' => y = .returned (vs (showVal l (decT bs m))) ∧ Kept (fun b => w.heap.size ≤ b) w w' ∧ Row w' w.heap.size 153 cs) := by
      intro W hk cs hr bs m hor
      have hmain : ∀ v, ValW l v → encRVal v = [vs bs, .int .i64 m] → decT bs m = v → Calls Tryz.prog 128 #[.pointer (some ⟨gp, 0, none⟩), .agg #[vs bs, .int .i64 m]] W (fun y w' => y = .returned (vs (showVal l (decT bs m))) ∧ Kept (fun b => w.heap.size ≤ b) w w' ∧ Row w' w.heap.size 153 cs) := by
        intro v hv he hd
        have hc := tval_any (h.later hk) v hv
        rw [he] at hc
        refine hc.mono ?_
        rintro y w' ⟨h1, h2⟩
        rw [hd]
        exact ⟨h1, hk.trans (h2.mono (fun b hb => Nat.le_trans hk.size hb)), hr.kept h2 (fun e => by have := hr.lt; omega)⟩
      rcases hor with ⟨rfl, rfl⟩ | ⟨rfl, rfl⟩
      · exact hmain a hc.1 (by show [vs (rvalWord a), .int .i64 (valNum a)] = _; rw [hff.1, hff.2.1]) hd1
      · exact hmain b hc.2 (by show [vs (rvalWord b), .int .i64 (valNum b)] = _; rw [hff.2.2.1, hff.2.2.2]) hd2
    have hs2 : notB c ++ showCK l (.less a b) = notB c ++ (showVal l (decT b0 n1) ++ [32, 60, 32] ++ showVal l (decT b2 n3)) := by rw [hd1, hd2]; rfl
    rw [hs2]
    show Calls _ _ #[.pointer (some ⟨gp, 0, none⟩), .agg #[vs kLess, .int .i64 0, vs b0, .int .i64 n1, vs b2, .int .i64 n3, .int .i64 c.nots]] w _
    generalize notB c = nb at *
    generalize c.nots = nots at *
    have hod := odd_cases nots
    have HOD := Lib.hid hod
    clear hod
    clear hs2 hff hd1 hd2 hc hv simple h
    generalize hsv : (fun bs m => showVal l (decT bs m)) = sv at *
    have e1 : ∀ bs m, showVal l (decT bs m) = sv bs m := fun bs m => by rw [← hsv]
    simp only [e1] at *
    clear e1 hsv hck
    have ht : (((⟨nb.toArray⟩ : ByteArray) ++ ⟨(sv b0 n1).toArray⟩) ++ ⟨#[32, 60, 32]⟩) ++ ⟨(sv b2 n3).toArray⟩ = ⟨(nb ++ (sv b0 n1 ++ [32, 60, 32] ++ sv b2 n3)).toArray⟩ := by rw [bapp, bapp, bapp]; simp
    have s1 := scat (P := Tryz.prog) (a := ⟨nb.toArray⟩) (b := ⟨(sv b0 n1).toArray⟩) (by simp only [size_vs]; omega)
    have s2 := scat (P := Tryz.prog) (a := ⟨nb.toArray⟩ ++ ⟨(sv b0 n1).toArray⟩) (b := ⟨#[32, 60, 32]⟩) (by simp only [ByteArray.size_append, size_vs, List.length_cons, List.length_nil]; omega)
    have s3 := scat (P := Tryz.prog) (a := ⟨nb.toArray⟩ ++ ⟨(sv b0 n1).toArray⟩ ++ ⟨#[32, 60, 32]⟩) (b := ⟨(sv b2 n3).toArray⟩) (by simp only [ByteArray.size_append, size_vs, List.length_cons, List.length_nil]; omega)
    have HT := Lib.hid ht
    have HVV := Lib.hid hvv
    have r0 : Row (w.alloc (.cells #[vs kLess, .int .i64 0, vs b0, .int .i64 n1, vs b2, .int .i64 n3, .int .i64 (nots : Int)] 153)).drew w.heap.size 153 [vs kLess, .int .i64 0, vs b0, .int .i64 n1, vs b2, .int .i64 n3, .int .i64 (nots : Int)] := (Row.new w 153 _).drew
    have R0 := Lib.hid r0
    have KD := Lib.hid (K0.out #[vs kLess, .int .i64 0, vs b0, .int .i64 n1, vs b2, .int .i64 n3, .int .i64 (nots : Int)]).drew
    clear ht hvv k0 r0 K0
    unfold vs at *
    rcases HOD.out with ⟨z1, z2⟩ | ⟨z1, z2⟩
    · rw [show oddB nots = false from z2, if_neg Bool.false_ne_true] at hnb
      subst hnb
      have qw : IntKind.i64.wrap ((nots : Int).tmod 2) = (nots : Int).tmod 2 := IntWalk.i64_in _ (by omega)
      rw [z1] at qw
      clear z2 HOD
      go_enter Tryz.func95, Tryz.ntmps95
      go_wp2_with fail
      go_region_law (first
        | (go_simp; go_at_call 128; refine (HVV.out _ ka _ ra _ _ ?_).mono ?_; (first | exact .inl ⟨rfl, rfl⟩ | exact .inr ⟨rfl, rfl⟩); rintro y w3 ⟨rfl, kb, rb⟩)
        | (go_simp; go_at_call 128; refine (HVV.out _ KD.out _ R0.out _ _ ?_).mono ?_; (first | exact .inl ⟨rfl, rfl⟩ | exact .inr ⟨rfl, rfl⟩); rintro y w2 ⟨rfl, ka, ra⟩; have zz2 := ra.cell 2; have zz3 := ra.cell 3; have zz4 := ra.cell 4; have zz5 := ra.cell 5; simp at zz2 zz3 zz4 zz5))
      all_goals go_wp2
      all_goals go_ret
      all_goals exact ⟨congrArg (fun x => Ending.returned (.string x)) HT.out, kb⟩
    · rw [show oddB nots = true from z2, if_pos rfl] at hnb
      obtain rfl : nb = [110, 111, 116, 32] := hnb
      have qw : IntKind.i64.wrap ((nots : Int).tmod 2) = (nots : Int).tmod 2 := IntWalk.i64_in _ (by omega)
      rw [z1] at qw
      clear z2 HOD
      go_enter Tryz.func95, Tryz.ntmps95
      go_wp2_with fail
      go_region_law (first
        | (go_simp; go_at_call 128; refine (HVV.out _ ka _ ra _ _ ?_).mono ?_; (first | exact .inl ⟨rfl, rfl⟩ | exact .inr ⟨rfl, rfl⟩); rintro y w3 ⟨rfl, kb, rb⟩)
        | (go_simp; go_at_call 128; refine (HVV.out _ KD.out _ R0.out _ _ ?_).mono ?_; (first | exact .inl ⟨rfl, rfl⟩ | exact .inr ⟨rfl, rfl⟩); rintro y w2 ⟨rfl, ka, ra⟩; have zz2 := ra.cell 2; have zz3 := ra.cell 3; have zz4 := ra.cell 4; have zz5 := ra.cell 5; simp at zz2 zz3 zz4 zz5))
      all_goals go_wp2
      all_goals go_ret
      all_goals exact ⟨congrArg (fun x => Ending.returned (.string x)) HT.out, kb⟩
end
end Go.Proofs.YtemppijblfflgabGreatDoor.Ev
namespace Go.Proofs.YtemppijblfflgabGreatDoor.Ev
open Go Go.RowKit

/-- A statement's text, up to a size. -/
def TStM (m : Nat) : Prop := ∀ (w : World) (gp : Nat) (vd vr vh vm : Value) (f : Int) (l : List Decl) (x : Blk) (cs : List Value) (s : Bytes), ThR w gp vd vr vh vm f l → x.length = 1 → x.size ≤ m → x.size ≤ 1000 → BlkW l x → RStmtsR anyB w x cs → showStmts l x = bSp ++ s →
    Calls Tryz.prog 63 #[.pointer (some ⟨gp, 0, none⟩), .agg cs.toArray] w (OutTx w s)
def TBlM (m : Nat) : Prop := ∀ (w : World) (gp : Nat) (vd vr vh vm : Value) (f : Int) (l : List Decl) (b : Blk) (v : Value), ThR w gp vd vr vh vm f l → b.size ≤ m → b.size ≤ 1000 → BlkW l b → RBlkV anyB w v b →
    Calls Tryz.prog 36 #[.pointer (some ⟨gp, 0, none⟩), v] w (OutTx w (showBlk l b))

theorem rstmts_later {N : Nat → Prop} {w w' : World} (hk : Kept (fun b => w.heap.size ≤ b) w w') {b : Blk} {cs : List Value} (h : RStmtsR N w b cs) : RStmtsR N w' b cs :=
  RStmtsR.kept (fun k _ _ hr => hk.block k (fun hh => by have := hr.lt; omega)) b cs h
theorem rblk_later {N : Nat → Prop} {w w' : World} (hk : Kept (fun b => w.heap.size ≤ b) w w') {b : Blk} {v : Value} (h : RBlkV N w v b) : RBlkV N w' v b :=
  h.kept (fun k _ _ hr => hk.block k (fun hh => by have := hr.lt; omega))

/-- The block's loop. -/
structure TLoop (w0 : World) (b : Blk) (cs : List Value) (k : Nat) (wr : World) (done rest : Blk) (csd csr : List Value) : Prop where
  eq : b = done.app rest
  cs : cs = csd ++ csr
  csl : csd.length = k * 14
  k : k + rest.length = b.length
  sz : done.size + rest.size = b.size
  stm : RStmtsR anyB w0 rest csr
  kept : Kept (fun b => w0.heap.size ≤ b) w0 wr

section
variable {w0 wr : World} {k : Nat} {b done rest : Blk} {cs csd csr : List Value}
theorem TLoop.next {g cap : Nat} (h : TLoop w0 b cs k wr done rest csd csr) (hs : Sl anyB w0 155 14 (.slice (some ⟨g, 0, none⟩) b.length cap) b.length cs) (hk : k < b.length) :
    ∃ x tl csx cst, rest = x.app tl ∧ x.length = 1 ∧ csr = csx ++ cst ∧ QStF csx ∧ RStmtsR anyB w0 x csx ∧ RStmtsR anyB w0 tl cst ∧ rest.length = tl.length + 1 ∧ x.size + tl.size = rest.size ∧
      (∀ j, j < 14 → wr.cell? ⟨g, k * 14 + j, none⟩ = csx[j]?) ∧ g < wr.heap.size := by
  have hne : rest ≠ .nil := by
    rintro rfl
    have := h.k
    simp [Blk.length] at this
    omega
  obtain ⟨x, tl, csx, cst, e1, e2, e3, e4, e5, e6, e7, e8⟩ := RStmtsR.part rest csr hne h.stm
  have hx14 : csx.length = 14 := by
    obtain ⟨_, _, _, _, _, _, _, _, _, _, _, _, _, _, _, _, _, _, rfl⟩ := e4
    rfl
  refine ⟨x, tl, csx, cst, e1, e2, e3, e4, e5, e6, e7, e8, fun j hj => ?_, Nat.lt_of_lt_of_le (hs.lt rfl) h.kept.size⟩
  have hb : k * 14 + j < b.length * 14 := by omega
  have h1 := hs.1.cellAt _ hb
  have h2 : cs[k * 14 + j]? = csx[j]? := by
    rw [h.cs, e3, List.getElem?_append_right (by rw [h.csl]; omega), h.csl, Nat.add_sub_cancel_left, List.getElem?_append_left (by omega)]
  have hgl := hs.lt (g := g) rfl
  exact ((h.kept.cell (p := ⟨g, k * 14 + j, none⟩) (fun hh => by simp only at hh; omega)).trans h1).trans h2
theorem TLoop.step {x tl : Blk} {csx cst : List Value} {w' : World} (h : TLoop w0 b cs k wr done rest csd csr) (e1 : rest = x.app tl) (e3 : csr = csx ++ cst) (hx : csx.length = 14) (e6 : RStmtsR anyB w0 tl cst)
    (e7 : rest.length = tl.length + 1) (e8 : x.size + tl.size = rest.size) (hk : Kept (fun b => wr.heap.size ≤ b) wr w') : TLoop w0 b cs (k + 1) w' (done.app x) tl (csd ++ csx) cst :=
  ⟨by rw [h.eq, e1, app_assoc], by rw [h.cs, e3, List.append_assoc], by rw [List.length_append, h.csl, hx]; omega, by have := h.k; omega, by rw [app_size]; have := h.sz; omega, e6, h.kept.trans (hk.mono (fun b hb => Nat.le_trans h.kept.size hb))⟩
end

set_option maxRecDepth 100000 in
set_option maxHeartbeats 4000000 in
theorem tblock_run {m : Nat} (hst : TStM m) : TBlM m := by
  intro w gp vd vr vh vm f l b v h hsz hsz2 hW hb
  obtain ⟨cs, hs, hst0⟩ := hb
  obtain ⟨ag, cap, rfl⟩ := hs.any_
  have hl0 : TLoop w b cs 0 w .nil b [] cs := ⟨by simp [Blk.app], by simp, by simp, by omega, by simp [Blk.size], hst0, Kept.refl _ _⟩
  have hbl : b.length ≤ 1000 := by
    have : ∀ b : Blk, b.length ≤ b.size := by
      intro b
      induction b with
      | nil => simp [Blk.length]
      | prim p r ih => simp [Blk.length, Blk.size]; omega
      | ite c t o e r _ _ ih => simp [Blk.length, Blk.size]; omega
      | rep n c b r _ ih => simp [Blk.length, Blk.size]; omega
    have := this b
    omega
  have hdl : ∀ d r : Blk, b = d.app r → (kOpen ++ showStmts l d ++ bSp).length ≤ 200000 := by
    intro d r e
    rw [e, app_W] at hW
    rw [e, app_size] at hsz2
    have := showStmts_len h.dw d hW.1
    simp only [List.length_append, List.length_cons, List.length_nil, bSp]
    omega
  have HST := Lib.hid hst
  have H := Lib.hid h
  have HSL := Lib.hid hs
  have HL0 := Lib.hid hl0
  have HSZ := Lib.hid hsz
  have HSZ2 := Lib.hid hsz2
  have HW := Lib.hid hW
  have HDL := Lib.hid hdl
  clear hst h hs hl0 hst0 hsz hsz2 hW hdl
  go_enter Tryz.func36, Tryz.ntmps36
  go_wp2_with fail
  go_loopg [10, 5] b.length (fun gg' s10 s5 wr => ∃ k done rest csd csr, k ≤ b.length ∧ b.length - k ≤ gg' ∧ s10 = .int .i64 (k : Nat) ∧ s5 = .string ⟨(kOpen ++ showStmts l done ++ bSp).toArray⟩ ∧ TLoop w b cs k wr done rest csd csr)
  case atStart => exact ⟨0, .nil, b, [], cs, Nat.zero_le _, by omega, rfl, rfl, HL0.out⟩
  case round =>
    obtain ⟨k, done, rest, csd, csr, hkk, hg, rfl, rfl, hL⟩ := hrel
    have hlen := HDL.out done rest hL.eq
    by_cases hlt : k < b.length
    · obtain ⟨g, cap', ec, _⟩ := HSL.out.form (by omega)
      injection ec with ea _ ec
      subst ea ec
      obtain ⟨x, tl, csx, cst, e1, e2, e3, e4, e5, e6, e7, e8, hc, hgl⟩ := hL.next HSL.out hlt
      have hx14 : csx.length = 14 := by
        obtain ⟨_, _, _, _, _, _, _, _, _, _, _, _, _, _, _, _, _, _, rfl⟩ := id e4
        rfl
      have hxs := HDL.out (done.app x) tl (by rw [hL.eq, e1, app_assoc])
      rw [showStmts_app] at hxs
      obtain ⟨sx, hsx⟩ := show_one l x e2
      rw [hsx] at hxs
      have hw' := HW.out
      rw [hL.eq, e1, app_W, app_W] at hw'
      have HE := Lib.hid (And.intro e1 (And.intro e2 (And.intro e3 (And.intro hx14 (And.intro e5 (And.intro e6 (And.intro e7 (And.intro e8 hw'.2.1))))))))
      obtain ⟨k_, n_, m_, t_, b0_, i1_, b2_, i3_, b4_, i5_, i6_, a1_, n1_, c1_, a2_, n2_, c2_, o_, rfl⟩ := e4
      have x0 := hc 0 (by omega)
      have x1 := hc 1 (by omega)
      have x2 := hc 2 (by omega)
      have x3 := hc 3 (by omega)
      have x4 := hc 4 (by omega)
      have x5 := hc 5 (by omega)
      have x6 := hc 6 (by omega)
      have x7 := hc 7 (by omega)
      have x8 := hc 8 (by omega)
      have x9 := hc 9 (by omega)
      have x10 := hc 10 (by omega)
      have x11 := hc 11 (by omega)
      have x12 := hc 12 (by omega)
      have x13 := hc 13 (by omega)
      have HL := Lib.hid hL
      have HSX := Lib.hid hsx
      have HTX : kOpen ++ showStmts l (done.app x) ++ bSp = (kOpen ++ showStmts l done ++ bSp) ++ (sx ++ bSp) := by rw [showStmts_app, hsx]; simp only [List.append_assoc]
      simp only [List.length_append, List.length_cons, List.length_nil] at hxs
      generalize hS : kOpen ++ showStmts l done ++ bSp = S at *
      have hsl : sx.length ≤ 200000 := by omega
      have s1 := scat (P := Tryz.prog) (a := ⟨sx.toArray⟩) (b := ⟨#[32]⟩) (by simp only [size_vs, List.length_cons, List.length_nil]; omega)
      have s2 := scat (P := Tryz.prog) (a := ⟨S.toArray⟩) (b := ⟨sx.toArray⟩ ++ ⟨#[32]⟩) (by simp only [ByteArray.size_append, size_vs, List.length_cons, List.length_nil]; omega)
      have hfin : (⟨S.toArray⟩ : ByteArray) ++ (⟨sx.toArray⟩ ++ ⟨#[32]⟩) = ⟨(kOpen ++ showStmts l (done.app x) ++ bSp).toArray⟩ := by rw [HTX, bapp, bapp]; rfl
      have HFIN := Lib.hid hfin
      clear hL hc e1 e2 e3 e5 e6 e7 e8 hx14 hsx HTX hfin hS hw' hxs hsl hlen
      unfold vs at *
      simp only [List.getElem?_cons_succ, List.getElem?_cons_zero, Nat.add_zero] at x0 x1 x2 x3 x4 x5 x6 x7 x8 x9 x10 x11 x12 x13
      go_wp2_with fail
      have ka : Kept (fun b => wr.heap.size ≤ b) wr (wr.alloc (.cells #[.string ⟨k_.toArray⟩, .int .i64 n_, .int .i64 m_, .bool t_, .string ⟨b0_.toArray⟩, .int .i64 i1_, .string ⟨b2_.toArray⟩, .int .i64 i3_, .string ⟨b4_.toArray⟩, .int .i64 i5_, .int .i64 i6_, .slice a1_ n1_ c1_, .slice a2_ n2_ c2_, .bool o_] 155)) := (Kept.refl _ wr).alloc (Nat.le_refl _) _
      have hkw : Kept (fun b => w.heap.size ≤ b) w _ := HL.out.kept.trans (ka.mono (fun b hb => Nat.le_trans HL.out.kept.size hb))
      refine (HST.out _ gp vd vr vh vm f l x _ sx (H.out.later hkw) HE.out.2.1 (by have := HL.out.sz; have := HE.out.2.2.2.2.2.2.2.1; have := HSZ.out; omega) (by have := HL.out.sz; have := HE.out.2.2.2.2.2.2.2.1; have := HSZ2.out; omega) HE.out.2.2.2.2.2.2.2.2 (rstmts_later hkw HE.out.2.2.2.2.1) HSX.out).mono ?_
      rintro e w2 ⟨rfl, hk2⟩
      have F := Lib.hid (HL.out.step HE.out.1 HE.out.2.2.1 HE.out.2.2.2.1 HE.out.2.2.2.2.2.1 HE.out.2.2.2.2.2.2.1 HE.out.2.2.2.2.2.2.2.1 (ka.trans (hk2.mono (fun b hb => Nat.le_trans ka.size hb))))
      clear ka hkw hk2
      go_wp2
      go_roundg (b.length - (k + 1))
      case measure => omega
      case rel => exact ⟨k + 1, _, _, _, _, by omega, by omega, by go_num, congrArg Value.string HFIN.out, F.out⟩
    · have hnil : rest = .nil := by
        have := hL.k
        cases rest with
        | nil => rfl
        | prim p r => simp [Blk.length] at this; omega
        | ite c t o e r => simp [Blk.length] at this; omega
        | rep n c b r => simp [Blk.length] at this; omega
      have hdone : b = done := by rw [hL.eq, hnil]; exact app_nil done
      have hfin : showBlk l b = (kOpen ++ showStmts l done ++ bSp) ++ [125] := by rw [hdone]; simp [showBlk, bSp]
      have F := Lib.hid hL.kept
      generalize kOpen ++ showStmts l done ++ bSp = S at *
      have HFN := Lib.hid hfin
      have s1 := scat (P := Tryz.prog) (a := ⟨S.toArray⟩) (b := ⟨#[125]⟩) (by simp only [size_vs, List.length_cons, List.length_nil]; omega)
      clear hL hnil hdone hfin
      go_wp2
      go_ret
      exact ⟨by rw [HFN.out]; exact congrArg (fun x => Ending.returned (.string x)) (bapp _ _), F.out⟩
end Go.Proofs.YtemppijblfflgabGreatDoor.Ev
namespace Go.Proofs.YtemppijblfflgabGreatDoor.Ev
open Go Go.RowKit

section
variable {w : World} {gp : Nat} {vd vr vh vm : Value} {f : Int} {l : List Decl}

set_option maxRecDepth 100000 in
set_option maxHeartbeats 4000000 in
theorem tst_one (h : ThR w gp vd vr vh vm f l) (kw : Bytes) (hkw : kw = kPut ∨ kw = kEvict ∨ kw = kCool ∨ kw = kInc ∨ kw = kDec) {k : Int} (hk : Ix l.length k) (tl : Bool) :
    Calls Tryz.prog 63 #[.pointer (some ⟨gp, 0, none⟩), .agg ([vs kw, .int .i64 k, .int .i64 0, .bool tl] ++ noRCond ++ [vnil, vnil, .bool false]).toArray] w (OutTx w (kw ++ bSp ++ nameOf l k ++ tailT tl ++ kSemi)) := by
  have k0 := fun cs => (Kept.refl (fun b => w.heap.size ≤ b) w).alloc (Nat.le_refl _) (.cells cs 155)
  have K0 := Lib.hid k0
  obtain ⟨n, gd, cd, rfl, hn, rfl, q1, q2, q3, q4, d0, d1, hl⟩ := h.at_ hk
  have f1 : ¬ gp = w.heap.size := by omega
  have f2 : ¬ gd = w.heap.size := by omega
  generalize nameOf l (n : Int) = nm at *
  have hkl : kw.length ≤ 5 := by rcases hkw with rfl | rfl | rfl | rfl | rfl <;> simp
  have s1 := scat (P := Tryz.prog) (a := ⟨#[32]⟩) (b := ⟨nm.toArray⟩) (by simp only [size_vs, List.length_cons, List.length_nil]; omega)
  have s2 := scat (P := Tryz.prog) (a := ⟨kw.toArray⟩) (b := ⟨#[32]⟩ ++ ⟨nm.toArray⟩) (by simp only [ByteArray.size_append, size_vs, List.length_cons, List.length_nil]; omega)
  have s3 := scat (P := Tryz.prog) (a := ⟨kw.toArray⟩ ++ (⟨#[32]⟩ ++ ⟨nm.toArray⟩)) (b := ⟨#[32, 116, 97, 105, 108]⟩) (by simp only [ByteArray.size_append, size_vs, List.length_cons, List.length_nil]; omega)
  have s4 := scat (P := Tryz.prog) (a := ⟨kw.toArray⟩ ++ (⟨#[32]⟩ ++ ⟨nm.toArray⟩) ++ ⟨#[32, 116, 97, 105, 108]⟩) (b := ⟨#[59]⟩) (by simp only [ByteArray.size_append, size_vs, List.length_cons, List.length_nil]; omega)
  have s5 := scat (P := Tryz.prog) (a := ⟨kw.toArray⟩ ++ (⟨#[32]⟩ ++ ⟨nm.toArray⟩)) (b := ⟨#[59]⟩) (by simp only [ByteArray.size_append, size_vs, List.length_cons, List.length_nil]; omega)
  have ht : if tl then (⟨kw.toArray⟩ : ByteArray) ++ (⟨#[32]⟩ ++ ⟨nm.toArray⟩) ++ ⟨#[32, 116, 97, 105, 108]⟩ ++ ⟨#[59]⟩ = ⟨(kw ++ bSp ++ nm ++ tailT tl ++ kSemi).toArray⟩ else (⟨kw.toArray⟩ : ByteArray) ++ (⟨#[32]⟩ ++ ⟨nm.toArray⟩) ++ ⟨#[59]⟩ = ⟨(kw ++ bSp ++ nm ++ tailT tl ++ kSemi).toArray⟩ := by
    cases tl with
    | true => rw [if_pos rfl, bapp, bapp, bapp, bapp]; simp [bSp, tailT]
    | false => rw [if_neg Bool.false_ne_true, bapp, bapp, bapp]; simp [bSp, tailT]
  have HT := Lib.hid ht
  clear ht k0 h hk hkl
  unfold noRCond vnil vs at *
  cases tl with
  | false =>
    have hto := HT.out
    rw [if_neg Bool.false_ne_true] at hto
    have HTO := Lib.hid hto
    clear hto
    rcases hkw with rfl | rfl | rfl | rfl | rfl
    all_goals
      go_enter Tryz.func63, Tryz.ntmps63
      go_wp2
      go_region
      go_wp2
      go_ret
      exact ⟨congrArg (fun x => Ending.returned (.string x)) HTO.out, (K0.out _).drew⟩
  | true =>
    have hto := HT.out
    rw [if_pos rfl] at hto
    have HTO := Lib.hid hto
    clear hto
    rcases hkw with rfl | rfl | rfl | rfl | rfl
    all_goals
      go_enter Tryz.func63, Tryz.ntmps63
      go_wp2
      go_region
      go_wp2
      go_ret
      exact ⟨congrArg (fun x => Ending.returned (.string x)) HTO.out, (K0.out _).drew⟩

set_option maxRecDepth 100000 in
set_option maxHeartbeats 4000000 in
theorem tst_none (kw : Bytes) (hkw : kw = kDrop ∨ kw = kBump) :
    Calls Tryz.prog 63 #[.pointer (some ⟨gp, 0, none⟩), .agg ([vs kw, .int .i64 0, .int .i64 0, .bool false] ++ noRCond ++ [vnil, vnil, .bool false]).toArray] w (OutTx w (kw ++ kSemi)) := by
  have k0 := fun cs => (Kept.refl (fun b => w.heap.size ≤ b) w).alloc (Nat.le_refl _) (.cells cs 155)
  have K0 := Lib.hid k0
  have hkl : kw.length ≤ 5 := by rcases hkw with rfl | rfl <;> simp
  have s1 := scat (P := Tryz.prog) (a := ⟨kw.toArray⟩) (b := ⟨#[59]⟩) (by simp only [size_vs, List.length_cons, List.length_nil]; omega)
  have ht : (⟨kw.toArray⟩ : ByteArray) ++ ⟨#[59]⟩ = ⟨(kw ++ kSemi).toArray⟩ := by rw [bapp]
  have HT := Lib.hid ht
  clear ht k0 hkl
  unfold noRCond vnil vs at *
  rcases hkw with rfl | rfl
  all_goals
    go_enter Tryz.func63, Tryz.ntmps63
    go_wp2
    go_ret
    exact ⟨congrArg (fun x => Ending.returned (.string x)) HT.out, K0.out _⟩

set_option maxRecDepth 100000 in
set_option maxHeartbeats 4000000 in
theorem tst_shift (h : ThR w gp vd vr vh vm f l) {k j : Int} (hk : Ix l.length k) (hj : Ix l.length j) (tl : Bool) :
    Calls Tryz.prog 63 #[.pointer (some ⟨gp, 0, none⟩), .agg ([vs kShift, .int .i64 k, .int .i64 j, .bool tl] ++ noRCond ++ [vnil, vnil, .bool false]).toArray] w (OutTx w (kShift ++ bSp ++ nameOf l k ++ bSp ++ nameOf l j ++ tailT tl ++ kSemi)) := by
  have k0 := fun cs => (Kept.refl (fun b => w.heap.size ≤ b) w).alloc (Nat.le_refl _) (.cells cs 155)
  have K0 := Lib.hid k0
  obtain ⟨n, gd, cd, rfl, hn, hvd, q1, q2, q3, q4, d0, d1, hl⟩ := h.at_ hk
  obtain ⟨n2, gd2, cd2, rfl, hn2, hvd2, _, _, _, _, _, d2, hl2⟩ := h.at_ hj
  subst hvd
  injection hvd2 with e1 _ e2
  injection e1 with e1
  injection e1 with e1
  subst e1 e2
  have f1 : ¬ gp = w.heap.size := by omega
  have f2 : ¬ gd = w.heap.size := by omega
  generalize nameOf l (n : Int) = nm at *
  generalize nameOf l (n2 : Int) = nm2 at *
  have s1 := scat (P := Tryz.prog) (a := ⟨#[32]⟩) (b := ⟨nm.toArray⟩) (by simp only [ByteArray.size_append, size_vs, List.length_cons, List.length_nil]; omega)
  have s2 := scat (P := Tryz.prog) (a := ⟨#[115, 104, 105, 102, 116]⟩) (b := ⟨#[32]⟩ ++ ⟨nm.toArray⟩) (by simp only [ByteArray.size_append, size_vs, List.length_cons, List.length_nil]; omega)
  have s3 := scat (P := Tryz.prog) (a := ⟨#[32]⟩) (b := ⟨nm2.toArray⟩) (by simp only [ByteArray.size_append, size_vs, List.length_cons, List.length_nil]; omega)
  have s4 := scat (P := Tryz.prog) (a := ⟨#[115, 104, 105, 102, 116]⟩ ++ (⟨#[32]⟩ ++ ⟨nm.toArray⟩)) (b := ⟨#[32]⟩ ++ ⟨nm2.toArray⟩) (by simp only [ByteArray.size_append, size_vs, List.length_cons, List.length_nil]; omega)
  have s5 := scat (P := Tryz.prog) (a := ⟨#[115, 104, 105, 102, 116]⟩ ++ (⟨#[32]⟩ ++ ⟨nm.toArray⟩) ++ (⟨#[32]⟩ ++ ⟨nm2.toArray⟩)) (b := ⟨#[32, 116, 97, 105, 108]⟩) (by simp only [ByteArray.size_append, size_vs, List.length_cons, List.length_nil]; omega)
  have s6 := scat (P := Tryz.prog) (a := ⟨#[115, 104, 105, 102, 116]⟩ ++ (⟨#[32]⟩ ++ ⟨nm.toArray⟩) ++ (⟨#[32]⟩ ++ ⟨nm2.toArray⟩) ++ ⟨#[32, 116, 97, 105, 108]⟩) (b := ⟨#[59]⟩) (by simp only [ByteArray.size_append, size_vs, List.length_cons, List.length_nil]; omega)
  have s7 := scat (P := Tryz.prog) (a := ⟨#[115, 104, 105, 102, 116]⟩ ++ (⟨#[32]⟩ ++ ⟨nm.toArray⟩) ++ (⟨#[32]⟩ ++ ⟨nm2.toArray⟩)) (b := ⟨#[59]⟩) (by simp only [ByteArray.size_append, size_vs, List.length_cons, List.length_nil]; omega)
  have ht : if tl then (⟨#[115, 104, 105, 102, 116]⟩ ++ (⟨#[32]⟩ ++ ⟨nm.toArray⟩) ++ (⟨#[32]⟩ ++ ⟨nm2.toArray⟩) ++ ⟨#[32, 116, 97, 105, 108]⟩ ++ ⟨#[59]⟩ : ByteArray) = ⟨(kShift ++ bSp ++ nm ++ bSp ++ nm2 ++ tailT tl ++ kSemi).toArray⟩ else (⟨#[115, 104, 105, 102, 116]⟩ ++ (⟨#[32]⟩ ++ ⟨nm.toArray⟩) ++ (⟨#[32]⟩ ++ ⟨nm2.toArray⟩) ++ ⟨#[59]⟩ : ByteArray) = ⟨(kShift ++ bSp ++ nm ++ bSp ++ nm2 ++ tailT tl ++ kSemi).toArray⟩ := by
    cases tl with
    | true => rw [if_pos rfl, bapp, bapp, bapp, bapp, bapp, bapp]; simp [bSp, tailT]
    | false => rw [if_neg Bool.false_ne_true, bapp, bapp, bapp, bapp, bapp]; simp [bSp, tailT]
  have HT := Lib.hid ht
  clear ht k0 h hk hj
  unfold noRCond vnil vs at *
  cases tl with
  | false =>
    have hto := HT.out
    rw [if_neg Bool.false_ne_true] at hto
    have HTO := Lib.hid hto
    clear hto
    go_enter Tryz.func63, Tryz.ntmps63
    go_wp2
    go_region
    go_wp2
    go_region
    go_wp2
    go_ret
    exact ⟨congrArg (fun x => Ending.returned (.string x)) HTO.out, (K0.out _).drew.drew⟩
  | true =>
    have hto := HT.out
    rw [if_pos rfl] at hto
    have HTO := Lib.hid hto
    clear hto
    go_enter Tryz.func63, Tryz.ntmps63
    go_wp2
    go_region
    go_wp2
    go_region
    go_wp2
    go_ret
    exact ⟨congrArg (fun x => Ending.returned (.string x)) HTO.out, (K0.out _).drew.drew⟩
end
end Go.Proofs.YtemppijblfflgabGreatDoor.Ev
namespace Go.Proofs.YtemppijblfflgabGreatDoor.Ev
open Go Go.RowKit

section
variable {w : World} {gp : Nat} {vd vr vh vm : Value} {f : Int} {l : List Decl} {m : Nat}

/-- The two calls within a statement, beside its box. -/
theorem tcond_box (h : ThR w gp vd vr vh vm f l) (c : Cond) (hc : CKW l c.k) (cs : List Value) : ∀ W, Kept (fun b => w.heap.size ≤ b) w W → Row W w.heap.size 155 cs →
    Calls Tryz.prog 95 #[.pointer (some ⟨gp, 0, none⟩), .agg (encRCond c).toArray] W fun y w' => y = .returned (vs (showCond l c)) ∧ Kept (fun b => w.heap.size ≤ b) w w' ∧ Row w' w.heap.size 155 cs := fun W hk hr => by
  refine (tcond_any (h.later hk) c hc).mono ?_
  rintro y w' ⟨h1, h2⟩
  exact ⟨h1, hk.trans (h2.mono (fun b hb => Nat.le_trans hk.size hb)), hr.kept h2 (fun e => by have := hr.lt; omega)⟩
theorem tblk_box (hB : TBlM m) (h : ThR w gp vd vr vh vm f l) {b : Blk} {v : Value} (hs : b.size ≤ m) (hs2 : b.size ≤ 1000) (hw : BlkW l b) (hb : RBlkV anyB w v b) (cs : List Value) : ∀ W, Kept (fun b => w.heap.size ≤ b) w W → Row W w.heap.size 155 cs →
    Calls Tryz.prog 36 #[.pointer (some ⟨gp, 0, none⟩), v] W fun y w' => y = .returned (vs (showBlk l b)) ∧ Kept (fun b => w.heap.size ≤ b) w w' ∧ Row w' w.heap.size 155 cs := fun W hk hr => by
  refine (hB W gp vd vr vh vm f l b v (h.later hk) hs hs2 hw (rblk_later hk hb)).mono ?_
  rintro y w' ⟨h1, h2⟩
  exact ⟨h1, hk.trans (h2.mono (fun b hb => Nat.le_trans hk.size hb)), hr.kept h2 (fun e => by have := hr.lt; omega)⟩

set_option maxRecDepth 100000 in
set_option maxHeartbeats 4000000 in
theorem tst_if (hB : TBlM m) (h : ThR w gp vd vr vh vm f l) {c : Cond} (hc : CKW l c.k) {t e : Blk} {vt ve : Value} {o : Bool} (ht : RBlkV anyB w vt t) (he : if o then RBlkV anyB w ve e else ve = vnil ∧ e = .nil) (hst : t.size ≤ m) (hse : e.size ≤ m) (hsz : t.size + e.size ≤ 1000) (hwt : BlkW l t) (hwe : BlkW l e) :
    Calls Tryz.prog 63 #[.pointer (some ⟨gp, 0, none⟩), .agg (encRIf c vt o ve).toArray] w (OutTx w (kIf ++ bSp ++ showCond l c ++ bSp ++ showBlk l t ++ (if o then bSp ++ kElse ++ bSp ++ showBlk l e else []))) := by
  have k0 := fun cs => (Kept.refl (fun b => w.heap.size ≤ b) w).alloc (Nat.le_refl _) (.cells cs 155)
  obtain ⟨b0, n1, b2, n3, hcd, _⟩ := encRCond_eq c
  obtain ⟨gt, ct, rfl⟩ : ∃ g c, vt = .slice g t.length c := by obtain ⟨_, h1, _⟩ := ht; exact h1.any_
  have lc := showCond_len h.dw hc
  have lt := showBlk_len h.dw hwt
  have le := showBlk_len h.dw hwe
  have henc : encRIf c (.slice gt t.length ct) o ve = [vs kIf, .int .i64 0, .int .i64 0, .bool false, vs (rckWord c.k), .int .i64 (ckNum c.k), vs b0, .int .i64 n1, vs b2, .int .i64 n3, .int .i64 c.nots, .slice gt t.length ct, ve, .bool o] := by unfold encRIf; rw [hcd]; rfl
  have hC := tcond_box h c hc [vs kIf, .int .i64 0, .int .i64 0, .bool false, vs (rckWord c.k), .int .i64 (ckNum c.k), vs b0, .int .i64 n1, vs b2, .int .i64 n3, .int .i64 c.nots, .slice gt t.length ct, ve, .bool o]
  have hT := tblk_box hB h hst (by omega) hwt ht [vs kIf, .int .i64 0, .int .i64 0, .bool false, vs (rckWord c.k), .int .i64 (ckNum c.k), vs b0, .int .i64 n1, vs b2, .int .i64 n3, .int .i64 c.nots, .slice gt t.length ct, ve, .bool o]
  rw [henc]
  rw [hcd] at hC
  generalize hsc : showCond l c = sc at *
  generalize hsb : showBlk l t = sb at *
  have s1 := scat (P := Tryz.prog) (a := ⟨#[32]⟩) (b := ⟨sc.toArray⟩) (by simp only [ByteArray.size_append, size_vs, List.length_cons, List.length_nil]; omega)
  have s2 := scat (P := Tryz.prog) (a := ⟨#[32]⟩ ++ ⟨sc.toArray⟩) (b := ⟨#[32]⟩) (by simp only [ByteArray.size_append, size_vs, List.length_cons, List.length_nil]; omega)
  have s3 := scat (P := Tryz.prog) (a := ⟨#[32]⟩ ++ ⟨sc.toArray⟩ ++ ⟨#[32]⟩) (b := ⟨sb.toArray⟩) (by simp only [ByteArray.size_append, size_vs, List.length_cons, List.length_nil]; omega)
  have s6 := scat (P := Tryz.prog) (a := ⟨#[105, 102]⟩) (b := ⟨#[32]⟩ ++ ⟨sc.toArray⟩ ++ ⟨#[32]⟩ ++ ⟨sb.toArray⟩) (by simp only [ByteArray.size_append, size_vs, List.length_cons, List.length_nil]; omega)
  have ht1 : (⟨#[105, 102]⟩ : ByteArray) ++ (⟨#[32]⟩ ++ ⟨sc.toArray⟩ ++ ⟨#[32]⟩ ++ ⟨sb.toArray⟩) = ⟨(kIf ++ bSp ++ sc ++ bSp ++ sb).toArray⟩ := by rw [bapp, bapp, bapp, bapp]; simp [bSp]
  have K0 := Lib.hid k0
  have HC := Lib.hid hC
  have HTB := Lib.hid hT
  have HT1 := Lib.hid ht1
  cases o with
  | true =>
    rw [if_pos rfl] at he
    obtain ⟨ge, ce, rfl⟩ : ∃ g c, ve = .slice g e.length c := by obtain ⟨_, h1, _⟩ := he; exact h1.any_
    have hE := tblk_box hB h hse (by omega) hwe he [vs kIf, .int .i64 0, .int .i64 0, .bool false, vs (rckWord c.k), .int .i64 (ckNum c.k), vs b0, .int .i64 n1, vs b2, .int .i64 n3, .int .i64 c.nots, .slice gt t.length ct, .slice ge e.length ce, .bool true]
    generalize hse2 : showBlk l e = se at *
    have s4 := scat (P := Tryz.prog) (a := ⟨#[32, 101, 108, 115, 101, 32]⟩) (b := ⟨se.toArray⟩) (by simp only [ByteArray.size_append, size_vs, List.length_cons, List.length_nil]; omega)
    have s5 := scat (P := Tryz.prog) (a := ⟨#[105, 102]⟩ ++ (⟨#[32]⟩ ++ ⟨sc.toArray⟩ ++ ⟨#[32]⟩ ++ ⟨sb.toArray⟩)) (b := ⟨#[32, 101, 108, 115, 101, 32]⟩ ++ ⟨se.toArray⟩) (by simp only [ByteArray.size_append, size_vs, List.length_cons, List.length_nil]; omega)
    have ht2 : (⟨#[105, 102]⟩ ++ (⟨#[32]⟩ ++ ⟨sc.toArray⟩ ++ ⟨#[32]⟩ ++ ⟨sb.toArray⟩) ++ (⟨#[32, 101, 108, 115, 101, 32]⟩ ++ ⟨se.toArray⟩) : ByteArray) = ⟨(kIf ++ bSp ++ sc ++ bSp ++ sb ++ (bSp ++ kElse ++ bSp ++ se)).toArray⟩ := by rw [bapp, bapp, bapp, bapp, bapp, bapp]; simp [bSp]
    have HE := Lib.hid hE
    have HT2 := Lib.hid ht2
    have rq : Row (w.alloc (.cells #[vs kIf, .int .i64 0, .int .i64 0, .bool false, vs (rckWord c.k), .int .i64 (ckNum c.k), vs b0, .int .i64 n1, vs b2, .int .i64 n3, .int .i64 c.nots, .slice gt t.length ct, .slice ge e.length ce, .bool true] 155)).drew w.heap.size 155 _ := (Row.new w 155 _).drew
    have kq := (k0 #[vs kIf, .int .i64 0, .int .i64 0, .bool false, vs (rckWord c.k), .int .i64 (ckNum c.k), vs b0, .int .i64 n1, vs b2, .int .i64 n3, .int .i64 c.nots, .slice gt t.length ct, .slice ge e.length ce, .bool true]).drew
    simp only [if_true]
    clear h hB hC hT hE ht he ht1 ht2 k0 K0 henc hcd hc hwt hwe hsc hsb hse2 HT1
    unfold vs at *
    go_enter Tryz.func63, Tryz.ntmps63
    go_wp2_with fail
    go_region_law (first
      | (go_simp; go_at_call 95; refine (HC.out _ ?_ ?_).mono ?_; assumption; assumption; rintro y wq ⟨rfl, kq, rq⟩; have zz1 := rq.cell 1; have zz4 := rq.cell 4; have zz5 := rq.cell 5; have zz6 := rq.cell 6; have zz7 := rq.cell 7; have zz8 := rq.cell 8; have zz9 := rq.cell 9; have zz10 := rq.cell 10; have zz11 := rq.cell 11; have zz12 := rq.cell 12; have zz13 := rq.cell 13; have zl := rq.lt; simp at zz1 zz4 zz5 zz6 zz7 zz8 zz9 zz10 zz11 zz12 zz13)
      | (go_simp; go_at_call 36; refine (HTB.out _ ?_ ?_).mono ?_; assumption; assumption; rintro y wq ⟨rfl, kq, rq⟩; have zz1 := rq.cell 1; have zz4 := rq.cell 4; have zz5 := rq.cell 5; have zz6 := rq.cell 6; have zz7 := rq.cell 7; have zz8 := rq.cell 8; have zz9 := rq.cell 9; have zz10 := rq.cell 10; have zz11 := rq.cell 11; have zz12 := rq.cell 12; have zz13 := rq.cell 13; have zl := rq.lt; simp at zz1 zz4 zz5 zz6 zz7 zz8 zz9 zz10 zz11 zz12 zz13))
    all_goals
      go_wp2_with fail
      refine (HE.out _ ?_ ?_).mono ?_
      assumption
      assumption
      rintro y w4 ⟨rfl, k4, r4⟩
      have HK4 := Lib.hid k4
      clear k4 r4
      go_wp2
      go_ret
      exact ⟨congrArg (fun x => Ending.returned (.string x)) HT2.out, HK4.out⟩
  | false =>
    rw [if_neg Bool.false_ne_true] at he
    obtain ⟨rfl, _⟩ := he
    have rq : Row (w.alloc (.cells #[vs kIf, .int .i64 0, .int .i64 0, .bool false, vs (rckWord c.k), .int .i64 (ckNum c.k), vs b0, .int .i64 n1, vs b2, .int .i64 n3, .int .i64 c.nots, .slice gt t.length ct, vnil, .bool false] 155)).drew w.heap.size 155 _ := (Row.new w 155 _).drew
    have kq := (k0 #[vs kIf, .int .i64 0, .int .i64 0, .bool false, vs (rckWord c.k), .int .i64 (ckNum c.k), vs b0, .int .i64 n1, vs b2, .int .i64 n3, .int .i64 c.nots, .slice gt t.length ct, vnil, .bool false]).drew
    have ht2 : (⟨#[105, 102]⟩ ++ (⟨#[32]⟩ ++ ⟨sc.toArray⟩ ++ ⟨#[32]⟩ ++ ⟨sb.toArray⟩) : ByteArray) = ⟨(kIf ++ bSp ++ sc ++ bSp ++ sb ++ []).toArray⟩ := by rw [List.append_nil]; exact ht1
    have HT2 := Lib.hid ht2
    simp only [Bool.false_eq_true, if_false]
    clear h hB hC hT ht ht1 ht2 k0 K0 henc hcd hc hwt hwe hsc hsb HT1
    unfold vnil vs at *
    go_enter Tryz.func63, Tryz.ntmps63
    go_wp2_with fail
    go_region_law (first
      | (go_simp; go_at_call 95; refine (HC.out _ ?_ ?_).mono ?_; assumption; assumption; rintro y wq ⟨rfl, kq, rq⟩; have zz1 := rq.cell 1; have zz4 := rq.cell 4; have zz5 := rq.cell 5; have zz6 := rq.cell 6; have zz7 := rq.cell 7; have zz8 := rq.cell 8; have zz9 := rq.cell 9; have zz10 := rq.cell 10; have zz11 := rq.cell 11; have zz12 := rq.cell 12; have zz13 := rq.cell 13; have zl := rq.lt; simp at zz1 zz4 zz5 zz6 zz7 zz8 zz9 zz10 zz11 zz12 zz13)
      | (go_simp; go_at_call 36; refine (HTB.out _ ?_ ?_).mono ?_; assumption; assumption; rintro y wq ⟨rfl, kq, rq⟩; have zz1 := rq.cell 1; have zz4 := rq.cell 4; have zz5 := rq.cell 5; have zz6 := rq.cell 6; have zz7 := rq.cell 7; have zz8 := rq.cell 8; have zz9 := rq.cell 9; have zz10 := rq.cell 10; have zz11 := rq.cell 11; have zz12 := rq.cell 12; have zz13 := rq.cell 13; have zl := rq.lt; simp at zz1 zz4 zz5 zz6 zz7 zz8 zz9 zz10 zz11 zz12 zz13))
    all_goals
      have HKQ := Lib.hid kq
      clear kq rq
      go_wp2
      go_ret
      exact ⟨congrArg (fun x => Ending.returned (.string x)) HT2.out, HKQ.out⟩

set_option maxRecDepth 100000 in
set_option maxHeartbeats 4000000 in
theorem tst_rep (hB : TBlM m) (h : ThR w gp vd vr vh vm f l) {n : Int} (hn1 : 1 ≤ n) (hn2 : n ≤ 50) {c : Cond} (hc : CKW l c.k) {t : Blk} {vt : Value} (ht : RBlkV anyB w vt t) (hst : t.size ≤ m) (hsz : t.size ≤ 1000) (hwt : BlkW l t) :
    Calls Tryz.prog 63 #[.pointer (some ⟨gp, 0, none⟩), .agg (encRRep n c vt).toArray] w (OutTx w (kRepeat ++ bSp ++ digits n ++ bSp ++ kWhile ++ bSp ++ showCond l c ++ bSp ++ showBlk l t)) := by
  have k0 := fun cs => (Kept.refl (fun b => w.heap.size ≤ b) w).alloc (Nat.le_refl _) (.cells cs 155)
  obtain ⟨b0, n1, b2, n3, hcd, _⟩ := encRCond_eq c
  obtain ⟨gt, ct, rfl⟩ : ∃ g c, vt = .slice g t.length c := by obtain ⟨_, h1, _⟩ := ht; exact h1.any_
  have lc := showCond_len h.dw hc
  have lt := showBlk_len h.dw hwt
  have ld := (digits_ok (n := n) (by omega) (by omega)).2.1
  have henc : encRRep n c (.slice gt t.length ct) = [vs kRepeat, .int .i64 n, .int .i64 0, .bool false, vs (rckWord c.k), .int .i64 (ckNum c.k), vs b0, .int .i64 n1, vs b2, .int .i64 n3, .int .i64 c.nots, .slice gt t.length ct, vnil, .bool false] := by unfold encRRep; rw [hcd]; rfl
  have hC := tcond_box h c hc [vs kRepeat, .int .i64 n, .int .i64 0, .bool false, vs (rckWord c.k), .int .i64 (ckNum c.k), vs b0, .int .i64 n1, vs b2, .int .i64 n3, .int .i64 c.nots, .slice gt t.length ct, vnil, .bool false]
  have hT := tblk_box hB h hst hsz hwt ht [vs kRepeat, .int .i64 n, .int .i64 0, .bool false, vs (rckWord c.k), .int .i64 (ckNum c.k), vs b0, .int .i64 n1, vs b2, .int .i64 n3, .int .i64 c.nots, .slice gt t.length ct, vnil, .bool false]
  rw [henc]
  rw [hcd] at hC
  have hIt : ∀ W, Kept (fun b => w.heap.size ≤ b) w W → Row W w.heap.size 155 [vs kRepeat, .int .i64 n, .int .i64 0, .bool false, vs (rckWord c.k), .int .i64 (ckNum c.k), vs b0, .int .i64 n1, vs b2, .int .i64 n3, .int .i64 c.nots, .slice gt t.length ct, vnil, .bool false] →
      Calls Tryz.prog 35 #[.int .i64 n] W fun y w' => y = .returned (vs (digits n)) ∧ Kept (fun b => w.heap.size ≤ b) w w' ∧ Row w' w.heap.size 155 [vs kRepeat, .int .i64 n, .int .i64 0, .bool false, vs (rckWord c.k), .int .i64 (ckNum c.k), vs b0, .int .i64 n1, vs b2, .int .i64 n3, .int .i64 c.nots, .slice gt t.length ct, vnil, .bool false] := fun W hk hr => by
    refine (tdec_any (n := n) (by omega) (by omega)).mono ?_
    rintro y w' ⟨h1, h2⟩
    exact ⟨h1, hk.trans (h2.mono (fun b hb => Nat.le_trans hk.size hb)), hr.kept h2 (fun e => by have := hr.lt; omega)⟩
  generalize hsc : showCond l c = sc at *
  generalize hsb : showBlk l t = sb at *
  generalize hsd : digits n = sd at *
  have s0 := scat (P := Tryz.prog) (a := ⟨#[114, 101, 112, 101, 97, 116]⟩) (b := ⟨#[32]⟩) (by simp only [ByteArray.size_append, size_vs, List.length_cons, List.length_nil]; omega)
  have s1 := scat (P := Tryz.prog) (a := ⟨#[114, 101, 112, 101, 97, 116]⟩ ++ ⟨#[32]⟩) (b := ⟨sd.toArray⟩) (by simp only [ByteArray.size_append, size_vs, List.length_cons, List.length_nil]; omega)
  have s2 := scat (P := Tryz.prog) (a := ⟨#[114, 101, 112, 101, 97, 116]⟩ ++ ⟨#[32]⟩ ++ ⟨sd.toArray⟩) (b := ⟨#[32, 119, 104, 105, 108, 101, 32]⟩) (by simp only [ByteArray.size_append, size_vs, List.length_cons, List.length_nil]; omega)
  have s3 := scat (P := Tryz.prog) (a := ⟨#[114, 101, 112, 101, 97, 116]⟩ ++ ⟨#[32]⟩ ++ ⟨sd.toArray⟩ ++ ⟨#[32, 119, 104, 105, 108, 101, 32]⟩) (b := ⟨sc.toArray⟩) (by simp only [ByteArray.size_append, size_vs, List.length_cons, List.length_nil]; omega)
  have s4 := scat (P := Tryz.prog) (a := ⟨#[114, 101, 112, 101, 97, 116]⟩ ++ ⟨#[32]⟩ ++ ⟨sd.toArray⟩ ++ ⟨#[32, 119, 104, 105, 108, 101, 32]⟩ ++ ⟨sc.toArray⟩) (b := ⟨#[32]⟩) (by simp only [ByteArray.size_append, size_vs, List.length_cons, List.length_nil]; omega)
  have s5 := scat (P := Tryz.prog) (a := ⟨#[114, 101, 112, 101, 97, 116]⟩ ++ ⟨#[32]⟩ ++ ⟨sd.toArray⟩ ++ ⟨#[32, 119, 104, 105, 108, 101, 32]⟩ ++ ⟨sc.toArray⟩ ++ ⟨#[32]⟩) (b := ⟨sb.toArray⟩) (by simp only [ByteArray.size_append, size_vs, List.length_cons, List.length_nil]; omega)
  have ht2 : (⟨#[114, 101, 112, 101, 97, 116]⟩ : ByteArray) ++ ⟨#[32]⟩ ++ ⟨sd.toArray⟩ ++ ⟨#[32, 119, 104, 105, 108, 101, 32]⟩ ++ ⟨sc.toArray⟩ ++ ⟨#[32]⟩ ++ ⟨sb.toArray⟩ = ⟨(kRepeat ++ bSp ++ sd ++ bSp ++ kWhile ++ bSp ++ sc ++ bSp ++ sb).toArray⟩ := by rw [bapp, bapp, bapp, bapp, bapp, bapp]; simp [bSp]
  have HC := Lib.hid hC
  have HTB := Lib.hid hT
  have HIT := Lib.hid hIt
  have HT2 := Lib.hid ht2
  have rq : Row (w.alloc (.cells #[vs kRepeat, .int .i64 n, .int .i64 0, .bool false, vs (rckWord c.k), .int .i64 (ckNum c.k), vs b0, .int .i64 n1, vs b2, .int .i64 n3, .int .i64 c.nots, .slice gt t.length ct, vnil, .bool false] 155)).drew w.heap.size 155 _ := (Row.new w 155 _).drew
  have kq := (k0 #[vs kRepeat, .int .i64 n, .int .i64 0, .bool false, vs (rckWord c.k), .int .i64 (ckNum c.k), vs b0, .int .i64 n1, vs b2, .int .i64 n3, .int .i64 c.nots, .slice gt t.length ct, vnil, .bool false]).drew
  clear h hB hC hT hIt ht ht2 k0 henc hcd hc hwt hsc hsb hsd
  unfold vnil vs at *
  go_enter Tryz.func63, Tryz.ntmps63
  go_wp2_with fail
  go_region_law (first
    | (go_simp; go_at_call 95; refine (HC.out _ ?_ ?_).mono ?_; assumption; assumption; rintro y wq ⟨rfl, kq, rq⟩; have zz1 := rq.cell 1; have zz4 := rq.cell 4; have zz5 := rq.cell 5; have zz6 := rq.cell 6; have zz7 := rq.cell 7; have zz8 := rq.cell 8; have zz9 := rq.cell 9; have zz10 := rq.cell 10; have zz11 := rq.cell 11; have zz12 := rq.cell 12; have zz13 := rq.cell 13; have zl := rq.lt; simp at zz1 zz4 zz5 zz6 zz7 zz8 zz9 zz10 zz11 zz12 zz13)
    | (go_simp; go_at_call 36; refine (HTB.out _ ?_ ?_).mono ?_; assumption; assumption; rintro y wq ⟨rfl, kq, rq⟩; have zz1 := rq.cell 1; have zz4 := rq.cell 4; have zz5 := rq.cell 5; have zz6 := rq.cell 6; have zz7 := rq.cell 7; have zz8 := rq.cell 8; have zz9 := rq.cell 9; have zz10 := rq.cell 10; have zz11 := rq.cell 11; have zz12 := rq.cell 12; have zz13 := rq.cell 13; have zl := rq.lt; simp at zz1 zz4 zz5 zz6 zz7 zz8 zz9 zz10 zz11 zz12 zz13)
    | (go_simp; go_at_call 35; refine (HIT.out _ ?_ ?_).mono ?_; assumption; assumption; rintro y wq ⟨rfl, kq, rq⟩; have zz1 := rq.cell 1; have zz4 := rq.cell 4; have zz5 := rq.cell 5; have zz6 := rq.cell 6; have zz7 := rq.cell 7; have zz8 := rq.cell 8; have zz9 := rq.cell 9; have zz10 := rq.cell 10; have zz11 := rq.cell 11; have zz12 := rq.cell 12; have zz13 := rq.cell 13; have zl := rq.lt; simp at zz1 zz4 zz5 zz6 zz7 zz8 zz9 zz10 zz11 zz12 zz13))
  all_goals
    have HKQ := Lib.hid kq
    clear kq rq
    go_wp2
    go_ret
    exact ⟨congrArg (fun x => Ending.returned (.string x)) HT2.out, HKQ.out⟩
end
end Go.Proofs.YtemppijblfflgabGreatDoor.Ev
namespace Go.Proofs.YtemppijblfflgabGreatDoor.Ev
open Go Go.RowKit

theorem tstmt_all {m : Nat} (hB : TBlM m) : TStM (m + 1) := by
  intro w gp vd vr vh vm f l x cs s h hl hsz hsz2 hW hst hs
  cases x with
  | nil => cases hl
  | prim y rest =>
    obtain rfl := len0s rest (by simpa [Blk.length] using hl)
    obtain ⟨rest, rfl, rfl⟩ := hst
    rw [List.append_nil]
    obtain rfl := show_prim hs
    have hy := hW.1
    cases y with
    | put q t => show Calls _ _ _ _ (OutTx w (kPut ++ bSp ++ nameOf l q ++ showTail t ++ kSemi)); rw [tailT_eq]; exact tst_one h kPut (.inl rfl) hy.1 t
    | evict q =>
      have h1 := tst_one h kEvict (.inr (.inl rfl)) hy.1 false
      have e : kEvict ++ bSp ++ nameOf l q ++ tailT false ++ kSemi = showPrim l (.evict q) := by simp [tailT, showPrim]
      rw [e] at h1
      exact h1
    | cool q =>
      have h1 := tst_one h kCool (.inr (.inr (.inl rfl))) hy.1 false
      have e : kCool ++ bSp ++ nameOf l q ++ tailT false ++ kSemi = showPrim l (.cool q) := by simp [tailT, showPrim]
      rw [e] at h1
      exact h1
    | shift q t tl => show Calls _ _ _ _ (OutTx w (kShift ++ bSp ++ nameOf l q ++ bSp ++ nameOf l t ++ showTail tl ++ kSemi)); rw [tailT_eq]; exact tst_shift h hy.1.1 hy.2.1 tl
    | inc v =>
      have h1 := tst_one h kInc (.inr (.inr (.inr (.inl rfl)))) hy.1 false
      have e : kInc ++ bSp ++ nameOf l v ++ tailT false ++ kSemi = showPrim l (.inc v) := by simp [tailT, showPrim]
      rw [e] at h1
      exact h1
    | dec v =>
      have h1 := tst_one h kDec (.inr (.inr (.inr (.inr rfl)))) hy.1 false
      have e : kDec ++ bSp ++ nameOf l v ++ tailT false ++ kSemi = showPrim l (.dec v) := by simp [tailT, showPrim]
      rw [e] at h1
      exact h1
    | drop => exact tst_none kDrop (.inl rfl)
    | bump => exact tst_none kBump (.inr rfl)
  | ite c t o e rest =>
    obtain rfl := len0s rest (by simpa [Blk.length] using hl)
    obtain ⟨vt, ve, rest, rfl, ht, he, rfl⟩ := hst
    rw [List.append_nil]
    obtain rfl := show_ite hs
    simp only [Blk.size] at hsz hsz2
    refine tst_if hB h hW.1 ht ?_ (by omega) (by omega) (by omega) hW.2.1 hW.2.2.1
    cases o with
    | true => exact he
    | false => exact he
  | rep n c t rest =>
    obtain rfl := len0s rest (by simpa [Blk.length] using hl)
    obtain ⟨vt, rest, rfl, ht, rfl⟩ := hst
    rw [List.append_nil]
    obtain rfl := show_rep hs
    simp only [Blk.size] at hsz hsz2
    exact tst_rep hB h hW.2.2.2.1 hW.2.2.2.2 hW.1 ht (by omega) (by omega) hW.2.1

theorem tshow_all : ∀ m, TStM m ∧ TBlM m
  | 0 => by
    have h : TStM 0 := by
      intro w gp vd vr vh vm f l x cs s h hl hsz
      cases x with
      | nil => cases hl
      | prim p r => simp [Blk.size] at hsz
      | ite c t o e r => simp [Blk.size] at hsz
      | rep n c b r => simp [Blk.size] at hsz
    exact ⟨h, tblock_run h⟩
  | m + 1 => by
    have h := tstmt_all (tshow_all m).2
    exact ⟨h, tblock_run h⟩
end Go.Proofs.YtemppijblfflgabGreatDoor.Ev
