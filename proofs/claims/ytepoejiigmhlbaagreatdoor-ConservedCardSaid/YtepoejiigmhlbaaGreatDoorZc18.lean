/- Lemmas for a law's walk. Conditions: none. -/
import Derived.BigQuiet
import Derived.Deep.QuietTactic
import Derived.Deep.DeepMust
import Derived.Deep.DeepCutAuto
import Derived.Deep.CutBlock
import Derived.Deep.RegionWith
import Derived.Laws.IdiomStrings
import Derived.IntWalk
import Derived.Deep.DrawnRows
import Derived.BigRegion
import Derived.Deep.RegionHeld3
import Derived.Deep.RegionLaw
import Derived.Test.YtepoejiigmhlbaaGreatDoorZc01
import Derived.Test.YtepoejiigmhlbaaGreatDoorZc02
import Derived.Test.YtepoejiigmhlbaaGreatDoorZc03
import Derived.Test.YtepoejiigmhlbaaGreatDoorZc04
import Derived.Test.YtepoejiigmhlbaaGreatDoorZc05
import Derived.Test.YtepoejiigmhlbaaGreatDoorZc06
import Derived.Test.YtepoejiigmhlbaaGreatDoorZc07
import Derived.Test.YtepoejiigmhlbaaGreatDoorZc13
import Derived.Test.YtepoejiigmhlbaaGreatDoorZc14
import Derived.Test.YtepoejiigmhlbaaGreatDoorZc15
import Derived.Test.YtepoejiigmhlbaaGreatDoorZc17
set_option linter.all false
namespace Go.Proofs.YtepoejiigmhlbaaGreatDoor.Ev
structure RTok where
 is:Bytes
 txt:Bytes
 pos:Nat
end Go.Proofs.YtepoejiigmhlbaaGreatDoor.Ev
namespace Go.Proofs.YtepoejiigmhlbaaGreatDoor.Ev
structure Raw where
 k:Nat
 deep:Int
 loops:Int
 bad:Nat
 badAt:Nat
 wrong:Nat
 wrongAt:Nat
 decls:List Decl
 freq:Int
 freqs:Int
end Go.Proofs.YtepoejiigmhlbaaGreatDoor.Ev
namespace Go.Proofs.YtepoejiigmhlbaaGreatDoor.Ev
open Go Go.RowKit
def nots (j:Nat) (c:Cond):Cond:=⟨c.k,c.nots+j⟩
end Go.Proofs.YtepoejiigmhlbaaGreatDoor.Ev
namespace Go.Proofs.YtepoejiigmhlbaaGreatDoor.Ev
open Go Go.RowKit
structure QB (s:St):Prop where
 n:s.q.length≤1000
 l:∀l∈s.q,l.length≤100000
end Go.Proofs.YtepoejiigmhlbaaGreatDoor.Ev
namespace Go.Proofs.YtepoejiigmhlbaaGreatDoor.Ev
open Go Go.RowKit
theorem kindWord_len (k:Nat):(kindWord k).length≤5:=by
 unfold kindWord
 split
 ·simp
 ·split<;>simp
theorem decl_facts {p:Policy} (hp:PolW p) {k:Nat} (hk:k<p.decls.length):(declAt p.decls (k:Int)).kind≤2∧(declAt p.decls (k:Int)).name.length≤8∧1≤(declAt p.decls (k:Int)).max∧(declAt p.decls (k:Int)).max≤99∧p.decls[k]?=some (declAt p.decls (k:Int)):=by
 have e:p.decls[k]?=some (declAt p.decls (k:Int)):=by unfold declAt;rw[Int.toNat_natCast,List.getElem?_eq_getElem hk];rfl
 have h:=hp.decls.each _ (List.mem_of_getElem? e)
 refine⟨h.kind,h.name.2.1,h.lo,?_,e⟩
 have:=h.hi
 split at this<;>omega
def declsT (p:Policy) (k:Nat):Bytes:=((p.decls.take k).map showDecl).flatten
theorem declsT_succ {p:Policy} {k:Nat} {d:Decl} (h:p.decls[k]?=some d):declsT p (k+1)=declsT p k++showDecl d:=by
 unfold declsT
 rw[List.take_add_one,h]
 simp
theorem declsT_len {p:Policy} (hp:PolW p):∀k,k≤p.decls.length→(declsT p k).length≤40*k
 |0,_=>by simp[declsT]
 |k+1,hk=>by
  obtain⟨a,b,c,d,e⟩:=decl_facts hp (k:=k) (by omega)
  rw[declsT_succ e,List.length_append]
  have h1:=declsT_len hp k (by omega)
  have h2:=kindWord_len (declAt p.decls (k:Int)).kind
  have h3:=(digits_ok (n:=(declAt p.decls (k:Int)).max) (by omega) (by omega)).2.1
  simp[showDecl,bSp]
  omega
theorem rule_blk_wf {p:Policy} (hp:PolW p) {k:Int} {b:Blk} (h:ruleOf p.rules k=some b):BlkW p.decls b∧b.size≤700:=by
 have hm:=ruleOf_memW h
 have h1:=sizes_ge (x:=(k,b)) hm
 have h2:=hp.size
 exact⟨(hp.rules.each _ hm).w,by simp only at h1;omega⟩
theorem showRules_len {p:Policy} (hp:PolW p):∀k,(showRules p k).length≤70100*k
 |0=>by simp[showRules]
 |k+1=>by
  rw[showRules,List.length_append]
  have h1:=showRules_len hp k
  have h2:(showRule p k).length≤70100:=by
   unfold showRule
   split
   ·rename_i b hb
    have h3:=showBlk_len hp.decls (rule_blk_wf hp hb).1
    have h4:=(rule_blk_wf hp hb).2
    have h5:=nameOf_len hp.decls (k:Int)
    simp[bSp]
    omega
   ·simp
  omega
theorem showFreq_len {p:Policy} (hp:PolW p):(showFreq p.freq).length≤20:=by
 unfold showFreq
 split
 ·have h3:=(digits_ok (n:=p.freq) (by omega) (by have:=hp.freq;omega)).2.1
  simp[bSp]
  omega
 ·simp
end Go.Proofs.YtepoejiigmhlbaaGreatDoor.Ev
namespace Go.Proofs.YtepoejiigmhlbaaGreatDoor.Ev
open Go Go.RowKit
theorem bld_kept {T e:TypeId} {B b:Nat} {bs:List Value} {w w':World} (h:Lib.IsBuilder T e B b bs w) (hk:Kept (fun k=>w.heap.size≤k) w w'):Lib.IsBuilder T e B b bs w':=by
 have main:∀p,Lib.BuilderAt T e B b p bs w→Lib.BuilderAt T e B b p bs w':=by
  rintro p ⟨h1,v,h2,h3,h4⟩
  have lt:∀(g:Nat) o,w.heap[g]?=some o→g<w.heap.size:=fun g o ho=>by
   rcases Nat.lt_or_ge g w.heap.size with h|h
   ·exact h
   ·rw[Array.getElem?_eq_none h]at ho
    cases ho
  refine⟨h1,v,(hk.block b (fun h=>by have:=lt b _ h2;omega)).trans h2,⟨h3.1,?_⟩,h4⟩
  rcases h3.2 with h|⟨g,cap,cur,q1,q2,q3,q4⟩
  ·exact .inl h
  ·exact .inr ⟨g,cap,cur,q1,q2,(hk.block g (fun h=>by have:=lt g _ q3;omega)).trans q3,q4⟩
 exact h.elim (fun x=>.inl (main _ x)) (fun x=>.inr (main _ x))
theorem bld_new (w:World):Lib.IsBuilder 140 5 w.heap.size w.heap.size (Lib.byteCells []) (w.alloc (.cells #[.pointer none,.slice none 0 0] 140)):=
 .inl ⟨Nat.le_refl _,.slice none 0 0,heap_alloc_new w _,⟨rfl,.inl ⟨rfl,rfl⟩⟩,fun h=>by cases h⟩
theorem RulesR.lookK {N:Nat→Prop} {w:World} {bm:Nat} {rules:List (Int×Blk)} (h:RulesR N w bm rules) (k:Int):∃v,(∀W,Kept (fun b=>w.heap.size≤b) w W→∀c,(Instr.lookup 61 (.map (some bm)) (.int .i64 k) c).run Tryz.prog W=
  .ok (if c then .tuple #[v,.bool (ruleOf rules k).isSome]else v) W)∧(match ruleOf rules k with|some b=>BlkV N w v b|none=>v= .slice none 0 0):=by
 obtain⟨M,h1,h2,h3⟩:=h
 have hp:=look_pair M rules h2 h3 k
 have h1':∀W,Kept (fun b=>w.heap.size≤b) w W→IsMap W bm .i64 M:=fun W hk=>h1.kept hk (fun hb=>by have:=h1.lt;omega)
 cases hr:ruleOf rules k with
 |none=>
  rw[hr]at hp
  refine⟨.slice none 0 0,fun W hk c=>?_,rfl⟩
  rw[(h1' W hk).lookup (P:=Tryz.prog) Tryz.underlying61 Tryz.underlying3 zeroStmts k c,show mget M k=none from hp]
  rfl
 |some b=>
  rw[hr]at hp
  obtain⟨v,hv,hb⟩:=hp
  refine⟨v,fun W hk c=>?_,hb⟩
  rw[(h1' W hk).lookup (P:=Tryz.prog) Tryz.underlying61 Tryz.underlying3 zeroStmts k c,hv]
  rfl
theorem bwrite_at {B b:Nat} {l s:Bytes} {w0 W:World} {x:ByteArray} (h:Lib.IsBuilder 140 5 B b (Lib.byteCells l) W) (hB:B≤w0.heap.size) (hk:Kept (fun k=>B≤k) w0 W) (hx:x=⟨s.toArray⟩) (hl:l.length+s.length≤1000000000):
  Calls Tryz.prog 48 #[.pointer (some ⟨b,0,none⟩),.string x] W fun e w'=>(∃n,e= .returned (.tuple #[.int .i64 n,.nilIface]))∧Lib.IsBuilder 140 5 B b (Lib.byteCells (l++s)) w'∧Kept (fun k=>B≤k) w0 w':=by
 subst hx
 refine(bwrite_any h (by omega) (Nat.le_trans hB hk.size)).mono ?_
 rintro e w' ⟨h1,h2,h3⟩
 exact⟨h1,h2,hk.trans h3⟩
theorem ix_kind0 (W:World):(Instr.index 143 (.agg #[.string ⟨#[113,117,101,117,101]⟩,.string ⟨#[103,104,111,115,116]⟩,.string ⟨#[118,97,114]⟩]) (.int .i64 0)).run Tryz.prog W= .ok (.string ⟨kQueue.toArray⟩) W:=by kernel_rfl
theorem ix_kind1 (W:World):(Instr.index 143 (.agg #[.string ⟨#[113,117,101,117,101]⟩,.string ⟨#[103,104,111,115,116]⟩,.string ⟨#[118,97,114]⟩]) (.int .i64 1)).run Tryz.prog W= .ok (.string ⟨kGhost.toArray⟩) W:=by kernel_rfl
theorem ix_kind2 (W:World):(Instr.index 143 (.agg #[.string ⟨#[113,117,101,117,101]⟩,.string ⟨#[103,104,111,115,116]⟩,.string ⟨#[118,97,114]⟩]) (.int .i64 2)).run Tryz.prog W= .ok (.string ⟨kVar.toArray⟩) W:=by kernel_rfl
section
variable {S:Nat→Prop} {w:World} {gp bm:Nat} {p:Policy} {vd:Value}
theorem sblk_at (h:ShR w gp vd (.map (some bm)) p.freq p.decls) {N:Nat→Prop} {b:Blk} {v:Value} (hb:BlkV N w v b) (hw:BlkW p.decls b) (hs:b.size≤700):∀W,Kept (fun b=>w.heap.size≤b) w W→Calls Tryz.prog 50 #[.pointer (some ⟨gp,0,none⟩),v] W (OutTx W (showBlk p.decls b)):=fun W hk=>by
 obtain⟨cs,h1,h2⟩:=hb
 exact(show_all b.size).2 W gp vd (.map (some bm)) p.freq p.decls b v (h.later hk) (Nat.le_refl _) (by omega) hw (blk_later hk ⟨cs,h1.mono (fun _ _ _=>trivial),StmtsR.mono (fun _ _ _=>trivial) b cs h2⟩)
set_option maxRecDepth 100000 in
set_option maxHeartbeats 4000000 in
theorem show_any (h:ShR w gp vd (.map (some bm)) p.freq p.decls) (hr:RulesR S w bm p.rules) (hp:PolW p):Calls Tryz.prog 24 #[.pointer (some ⟨gp,0,none⟩)] w (OutTx w (text p)):=by
 have hn:=hp.decls.len
 have c0:=h.pol.cell 0
 have c1:=h.pol.cell 1
 have c2:=h.pol.cell 2
 have gl:=h.pol.lt
 obtain⟨ad,cd,rfl⟩:=h.decls.any_
 simp at c0 c1 c2
 have hdc:∀k,k<p.decls.length→∃gd,ad=some ⟨gd,0,none⟩∧p.decls.length≤cd∧cd≤9223372036854775807∧gd<w.heap.size∧w.cell? ⟨gd,k*3,none⟩=some (.int .i64 (declAt p.decls (k:Int)).kind)∧w.cell? ⟨gd,k*3+1,none⟩=some (vs (declAt p.decls (k:Int)).name)∧w.cell? ⟨gd,k*3+2,none⟩=some (.int .i64 (declAt p.decls (k:Int)).max):=by
  intro k hk
  obtain⟨gd,cd',ed,_,q1,q2,q3⟩:=h.decls.form (by omega)
  injection ed with ed _ ed'
  subst ed ed'
  have e:p.decls[k]?=some (declAt p.decls (k:Int)):=by unfold declAt;rw[Int.toNat_natCast,List.getElem?_eq_getElem hk];rfl
  unfold maxLen at q2
  exact⟨gd,rfl,q1,q2,q3,h.decls.at_ (fun _=>rfl) e (j:=0) (by omega),h.decls.at_ (fun _=>rfl) e (j:=1) (by omega),h.decls.at_ (fun _=>rfl) e (j:=2) (by omega)⟩
 have HDC:=Lib.hid hdc
 have hdl:=declsT_len hp
 have hrl:=showRules_len hp
 have hfl:=showFreq_len hp
 have hfq:=hp.freq
 have HDL:=Lib.hid hdl
 have HRL:=Lib.hid hrl
 have HFL:=Lib.hid hfl
 have H:=Lib.hid h
 have HR:=Lib.hid hr
 have HP:=Lib.hid hp
 have hb0:=bld_new w
 have k0:Kept (fun b=>w.heap.size≤b) w (w.alloc (.cells #[.pointer none,.slice none 0 0] 140)):=(Kept.refl _ w).alloc (Nat.le_refl _) _
 have HB0:=Lib.hid hb0
 have K0:=Lib.hid k0
 generalize hL:p.decls.length=L at*
 have HL:=Lib.hid hL
 have e0:¬gp=w.heap.size:=by omega
 clear hdl hrl hfl h hr hp hL hb0 k0 hdc
 go_enter Tryz.func24,Tryz.ntmps24
 go_wp2_with fail
 go_loopg [15] L (fun gg s15 wr=>∃k:Nat,k≤L∧L-k≤gg∧s15= .int .i64 k∧Kept (fun b=>w.heap.size≤b) w wr∧Lib.IsBuilder 140 5 w.heap.size w.heap.size (Lib.byteCells (declsT p k)) wr)
 case atStart=>exact⟨0,Nat.zero_le _,by omega,rfl,K0.out,HB0.out⟩
 case round=>
  obtain⟨k,hk,hg,rfl,hkw,hbd⟩:=hrel
  have hlen:=HDL.out k hk
  have HKW:=Lib.hid hkw
  have HBD:=Lib.hid hbd
  clear hbd
  by_cases hlt:k<L
  ·obtain⟨gd,rfl,q1,q2,q3,x0,x1,x2⟩:=HDC.out k hlt
   obtain⟨a,b,c,d,e⟩:=decl_facts HP.out (k:=k) (by have:=HL.out;omega)
   have z0:=(hkw.cell (p:=⟨gd,k*3,none⟩) (by simp only;omega)).trans x0
   have z1:=(hkw.cell (p:=⟨gd,k*3+1,none⟩) (by simp only;omega)).trans x1
   have z2:=(hkw.cell (p:=⟨gd,k*3+2,none⟩) (by simp only;omega)).trans x2
   have zl:=Nat.lt_of_lt_of_le q3 hkw.size
   have hnl:=(digits_ok (n:=(declAt p.decls (k:Int)).max) (by omega) (by omega)).2.1
   have hkl:=kindWord_len (declAt p.decls (k:Int)).kind
   have hsucc:=declsT_succ e
   have hsd:showDecl (declAt p.decls (k:Int))=kindWord (declAt p.decls (k:Int)).kind++bSp++(declAt p.decls (k:Int)).name++bSp++digits (declAt p.decls (k:Int)).max++[59,10]:=rfl
   rw[hsd]at hsucc
   have hit:∀W,Calls Tryz.prog 49 #[.int .i64 (declAt p.decls (k:Int)).max] W fun e w'=>e= .returned (vs (digits (declAt p.decls (k:Int)).max))∧w'=W:=fun W=>by
    have:=Tryz.strconv_Itoa_small (declAt p.decls (k:Int)).max.toNat (by omega) W
    rw[decDigits_of (by omega)]at this
    have e:(((declAt p.decls (k:Int)).max.toNat:Nat):Int)=(declAt p.decls (k:Int)).max:=by omega
    rw[e]at this
    exact this
   generalize hkd:(declAt p.decls (k:Int)).kind=kd at*
   generalize hkw2:kindWord kd=kw at*
   generalize (declAt p.decls (k:Int)).name=nm' at*
   generalize (declAt p.decls (k:Int)).max=mx at*
   generalize digits mx=dg at*
   generalize hSS:declsT p k=SS at*
   have s1:=scat (P:=Tryz.prog) (a:=⟨kw.toArray⟩) (b:=⟨#[32]⟩) (by simp only[ByteArray.size_append,size_vs,List.length_cons,List.length_nil];omega)
   have s2:=scat (P:=Tryz.prog) (a:=⟨kw.toArray⟩++⟨#[32]⟩) (b:=⟨nm'.toArray⟩) (by simp only[ByteArray.size_append,size_vs,List.length_cons,List.length_nil];omega)
   have s3:=scat (P:=Tryz.prog) (a:=⟨kw.toArray⟩++⟨#[32]⟩++⟨nm'.toArray⟩) (b:=⟨#[32]⟩) (by simp only[ByteArray.size_append,size_vs,List.length_cons,List.length_nil];omega)
   have s4:=scat (P:=Tryz.prog) (a:=⟨kw.toArray⟩++⟨#[32]⟩++⟨nm'.toArray⟩++⟨#[32]⟩) (b:=⟨dg.toArray⟩) (by simp only[ByteArray.size_append,size_vs,List.length_cons,List.length_nil];omega)
   have s5:=scat (P:=Tryz.prog) (a:=⟨kw.toArray⟩++⟨#[32]⟩++⟨nm'.toArray⟩++⟨#[32]⟩++⟨dg.toArray⟩) (b:=⟨#[59,10]⟩) (by simp only[ByteArray.size_append,size_vs,List.length_cons,List.length_nil];omega)
   have hx:(⟨kw.toArray⟩:ByteArray)++⟨#[32]⟩++⟨nm'.toArray⟩++⟨#[32]⟩++⟨dg.toArray⟩++⟨#[59,10]⟩=⟨(kw++bSp++nm'++bSp++dg++[59,10]).toArray⟩:=by rw[bapp,bapp,bapp,bapp,bapp];rfl
   have ka:Kept (fun b=>wr.heap.size≤b) wr (wr.alloc (.cells #[.int .i64 (kd:Int),vs nm',.int .i64 mx] 83)).drew:=((Kept.refl _ wr).alloc (Nat.le_refl _) _).drew
   have hw:=bwrite_at (w0:=w) (bld_kept HBD.out ka) (Nat.le_refl _) (hkw.trans (ka.mono (fun b hb=>Nat.le_trans hkw.size hb))) hx (by simp only[List.length_append,List.length_cons,List.length_nil,bSp];omega)
   rw[←hsucc]at hw
   have HW:=Lib.hid hw
   have HIT:=Lib.hid hit
   clear hw hit hx ka hsucc hsd hSS e hkw HBD hkd x0 x1 x2
   unfold vs at*
   have hix:∀W,(Instr.index 143 (.agg #[.string ⟨#[113,117,101,117,101]⟩,.string ⟨#[103,104,111,115,116]⟩,.string ⟨#[118,97,114]⟩]) (.int .i64 (kd:Int))).run Tryz.prog W= .ok (.string ⟨kw.toArray⟩) W:=by
    intro W
    have hk3:kd=0∨kd=1∨kd=2:=by omega
    rw[←hkw2]
    rcases hk3 with rfl|rfl|rfl
    ·exact ix_kind0 W
    ·exact ix_kind1 W
    ·exact ix_kind2 W
   clear a hkw2
   go_wp2_with fail
   go_region_law (first
    |(go_simp;go_at_call 49;refine(HIT.out _).mono ?_;rintro y w5 ⟨rfl,rfl⟩)
    |(go_simp;go_at_call 48;refine HW.out.mono ?_;rintro y w5 ⟨⟨n5,rfl⟩,hb5,hk5⟩;have F5:=Lib.hid (And.intro hb5 hk5);clear hb5 hk5))
   all_goals
    go_wp2
    go_roundg (L-(k+1))
    case measure=>omega
    case rel=>exact⟨k+1,by omega,by omega,by go_num,F5.out.2,F5.out.1⟩
  ·have hke:k=L:=by omega
   subst hke
   have kl:=hkw.size
   have c0':=(hkw.cell (p:=⟨gp,0,none⟩) (by simp only;omega)).trans c0
   have c1':=(hkw.cell (p:=⟨gp,1,none⟩) (by simp only;omega)).trans c1
   clear hkw
   go_upto_if 39 with fail
   go_cut [] (fun wx=>Kept (fun b=>w.heap.size≤b) w wx∧Lib.IsBuilder 140 5 w.heap.size w.heap.size (Lib.byteCells (declsT p k++showFreq p.freq)) wx)
   case first=>
    generalize hSS:declsT p k=SS at*
    by_cases hf0:0<p.freq
    ·have hit:∀W,Calls Tryz.prog 49 #[.int .i64 p.freq] W fun e w'=>e= .returned (vs (digits p.freq))∧w'=W:=fun W=>by
      have:=Tryz.strconv_Itoa_small p.freq.toNat (by omega) W
      rw[decDigits_of (by omega)]at this
      have e:((p.freq.toNat:Nat):Int)=p.freq:=by omega
      rw[e]at this
      exact this
     have hdl:=(digits_ok (n:=p.freq) (by omega) (by omega)).2.1
     have hsf:showFreq p.freq=[102,114,101,113,32]++digits p.freq++[59,10]:=by unfold showFreq;rw[if_pos hf0];simp[bSp]
     have e1:decide (p.freq>0)=true:=decide_eq_true hf0
     generalize p.freq=fq at*
     generalize digits fq=dg at*
     have s1:=scat (P:=Tryz.prog) (a:=⟨#[102,114,101,113,32]⟩) (b:=⟨dg.toArray⟩) (by simp only[ByteArray.size_append,size_vs,List.length_cons,List.length_nil];omega)
     have s2:=scat (P:=Tryz.prog) (a:=⟨#[102,114,101,113,32]⟩++⟨dg.toArray⟩) (b:=⟨#[59,10]⟩) (by simp only[ByteArray.size_append,size_vs,List.length_cons,List.length_nil];omega)
     have hx:(⟨#[102,114,101,113,32]⟩:ByteArray)++⟨dg.toArray⟩++⟨#[59,10]⟩=⟨(showFreq fq).toArray⟩:=by rw[hsf,bapp,bapp]
     have hw:=bwrite_at (w0:=w) HBD.out (Nat.le_refl _) HKW.out hx (by rw[hsf];simp only[List.length_append,List.length_cons,List.length_nil];omega)
     have HW:=Lib.hid hw
     have HIT:=Lib.hid hit
     clear hw hit hx hsf hSS
     unfold vs at*
     go_wp2_with fail
     refine(HIT.out _).mono ?_
     rintro y w2 ⟨rfl,rfl⟩
     go_wp2_with fail
     refine HW.out.mono ?_
     rintro y w5 ⟨⟨n5,rfl⟩,hb5,hk5⟩
     have F5:=Lib.hid (And.intro hb5 hk5)
     clear hb5 hk5
     go_wp2
     go_meet
     exact⟨F5.out.2,F5.out.1⟩
    ·have e1:decide (p.freq>0)=false:=decide_eq_false hf0
     have hsf:showFreq p.freq=[]:=by unfold showFreq;rw[if_neg hf0]
     have HSF:=Lib.hid hsf
     clear hsf hSS
     generalize p.freq=fq at*
     go_wp2
     go_meet
     exact⟨HKW.out,by rw[HSF.out,List.append_nil];exact HBD.out⟩
   obtain⟨k2,hb2⟩:=hcut
   have HK2:=Lib.hid k2
   have HB2:=Lib.hid hb2
   have kl2:=k2.size
   have c0:=(k2.cell (p:=⟨gp,0,none⟩) (by simp only;omega)).trans c0
   have c2':=(k2.cell (p:=⟨gp,2,none⟩) (by simp only;omega)).trans c2
   have hs1:(declsT p k++showFreq p.freq).length≤1000:=by rw[List.length_append];have:=HFL.out;have:=HDL.out k (Nat.le_refl _);omega
   generalize hTT:declsT p k++showFreq p.freq=TT at*
   have HTT:=Lib.hid hTT
   clear k2 hTT hb2
   go_wp2_with fail
   go_loopg [53] k (fun gg s53 wr=>∃j:Nat,j≤k∧k-j≤gg∧s53= .int .i64 j∧Kept (fun b=>w.heap.size≤b) w wr∧Lib.IsBuilder 140 5 w.heap.size w.heap.size (Lib.byteCells (TT++showRules p j)) wr)
   case atStart=>exact⟨0,Nat.zero_le _,by omega,rfl,HK2.out,by rw[show showRules p 0=[]from rfl,List.append_nil];exact HB2.out⟩
   case round=>
    obtain⟨j,hj,hgj,rfl,hkw,hbd⟩:=hrel
    have hrl:=HRL.out j
    have wl:=hkw.size
    have HKW:=Lib.hid hkw
    have HBD:=Lib.hid hbd
    clear hbd
    have y2:=(hkw.cell (p:=⟨gp,2,none⟩) (by simp only;omega)).trans c2
    have n1:¬gp=wr.heap.size:=by omega
    have n4:gp<wr.heap.size:=by omega
    by_cases hlt2:j<k
    ·obtain⟨gd,rfl,q1,q2,q3,x0,x1,x2⟩:=HDC.out j hlt2
     have z0:=(hkw.cell (p:=⟨gd,j*3,none⟩) (by simp only;omega)).trans x0
     have z1:=(hkw.cell (p:=⟨gd,j*3+1,none⟩) (by simp only;omega)).trans x1
     have z2:=(hkw.cell (p:=⟨gd,j*3+2,none⟩) (by simp only;omega)).trans x2
     have zl:=Nat.lt_of_lt_of_le q3 hkw.size
     obtain⟨a,b,c,d,e⟩:=decl_facts HP.out (k:=j) (by have:=HL.out;omega)
     obtain⟨v,hlk,hbv⟩:=HR.out.lookK (j:Int)
     have hsr:showRules p (j+1)=showRules p j++showRule p j:=rfl
     have hNM:nameOf p.decls (j:Int)=(declAt p.decls (j:Int)).name:=rfl
     have hkA:∀cs,Kept (fun b=>w.heap.size≤b) w (wr.alloc (.cells cs 83)):=fun cs=>hkw.alloc hkw.size _
     cases hru:ruleOf p.rules (j:Int)with
     |none=>
      have hs0:showRule p j=[]:=by unfold showRule;rw[hru]
      rw[hru]at hlk hbv
      simp only at hbv
      subst hbv
      have HSR:=Lib.hid (show showRules p (j+1)=showRules p j by rw[hsr,hs0,List.append_nil])
      generalize (declAt p.decls (j:Int)).kind=kw at*
      generalize (declAt p.decls (j:Int)).name=nm' at*
      generalize (declAt p.decls (j:Int)).max=mx at*
      have lk:=hlk _ (hkA #[.int .i64 (kw:Int),vs nm',.int .i64 mx]) true
      have ka:Kept (fun b=>wr.heap.size≤b) wr (wr.alloc (.cells #[.int .i64 (kw:Int),vs nm',.int .i64 mx] 83)):=(Kept.refl _ wr).alloc (Nat.le_refl _) _
      have KA:=Lib.hid ka
      clear hsr hs0 hkw x0 x1 x2 hru e hNM hlk hkA ka
      simp only[Option.isSome_none,if_true]at lk
      unfold vs at*
      go_wp2
      go_roundg (k-(j+1))
      case measure=>omega
      case rel=>exact⟨j+1,by omega,by omega,by go_num,HKW.out.trans (KA.out.mono (fun b hb=>Nat.le_trans wl hb)),by rw[HSR.out];exact bld_kept HBD.out KA.out⟩
     |some bl=>
      have hs0:showRule p j=kOn++bSp++nameOf p.decls (j:Int)++bSp++showBlk p.decls bl++[10]:=by unfold showRule;rw[hru]
      rw[hru]at hlk hbv
      simp only at hbv
      obtain⟨gv,cv,rfl⟩:∃g c,v= .slice (some ⟨g,0,none⟩) bl.length c:=by obtain⟨_,h1,_⟩:=hbv;exact h1.2
      obtain⟨hbw1,hbw2⟩:=rule_blk_wf HP.out hru
      have hbl:=showBlk_len HP.out.decls hbw1
      have hbk:=sblk_at H.out hbv hbw1 hbw2
      rw[hNM]at hs0
      generalize (declAt p.decls (j:Int)).kind=kw at*
      generalize (declAt p.decls (j:Int)).name=nm' at*
      generalize (declAt p.decls (j:Int)).max=mx at*
      generalize hsb:showBlk p.decls bl=sb at*
      have hblk:∀W,Kept (fun b=>wr.heap.size≤b) wr W→Row W wr.heap.size 83 [.int .i64 (kw:Int),vs nm',.int .i64 mx]→Calls Tryz.prog 50 #[.pointer (some ⟨gp,0,none⟩),.slice (some ⟨gv,0,none⟩) bl.length cv] W fun y w'=>y= .returned (vs sb)∧Kept (fun b=>wr.heap.size≤b) wr w'∧Row w' wr.heap.size 83 [.int .i64 (kw:Int),vs nm',.int .i64 mx]:=fun W hk hr=>by
       refine(hbk W (hkw.trans (hk.mono (fun b hb=>Nat.le_trans wl hb)))).mono ?_
       rintro y w' ⟨q1,q2⟩
       exact⟨q1,hk.trans (q2.mono (fun b hb=>Nat.le_trans hk.size hb)),hr.kept q2 (fun e=>by have:=hr.lt;omega)⟩
      have hTL:(TT++showRules p j).length≤600000:=by rw[List.length_append];omega
      have hfs:TT++showRules p (j+1)=(TT++showRules p j)++([111,110,32]++nm'++[32]++sb++[10]):=by rw[hsr,hs0];simp[bSp]
      generalize hSS:TT++showRules p j=SS at*
      have s1:=scat (P:=Tryz.prog) (a:=⟨#[111,110,32]⟩) (b:=⟨nm'.toArray⟩) (by simp only[ByteArray.size_append,size_vs,List.length_cons,List.length_nil];omega)
      have s2:=scat (P:=Tryz.prog) (a:=⟨#[111,110,32]⟩++⟨nm'.toArray⟩) (b:=⟨#[32]⟩) (by simp only[ByteArray.size_append,size_vs,List.length_cons,List.length_nil];omega)
      have s3:=scat (P:=Tryz.prog) (a:=⟨#[111,110,32]⟩++⟨nm'.toArray⟩++⟨#[32]⟩) (b:=⟨sb.toArray⟩) (by simp only[ByteArray.size_append,size_vs,List.length_cons,List.length_nil];omega)
      have s4:=scat (P:=Tryz.prog) (a:=⟨#[111,110,32]⟩++⟨nm'.toArray⟩++⟨#[32]⟩++⟨sb.toArray⟩) (b:=⟨#[10]⟩) (by simp only[ByteArray.size_append,size_vs,List.length_cons,List.length_nil];omega)
      have hx:(⟨#[111,110,32]⟩:ByteArray)++⟨nm'.toArray⟩++⟨#[32]⟩++⟨sb.toArray⟩++⟨#[10]⟩=⟨([111,110,32]++nm'++[32]++sb++[10]).toArray⟩:=by rw[bapp,bapp,bapp,bapp]
      have hw:=fun W (hk:Kept (fun b=>wr.heap.size≤b) wr W)=>bwrite_at (w0:=w) (bld_kept HBD.out hk) (Nat.le_refl _) (hkw.trans (hk.mono (fun b hb=>Nat.le_trans wl hb))) hx (by simp only[List.length_append,List.length_cons,List.length_nil];omega)
      rw[←hfs]at hw
      have HW:=Lib.hid hw
      have HBLK:=Lib.hid hblk
      have rq:Row (wr.alloc (.cells #[.int .i64 (kw:Int),vs nm',.int .i64 mx] 83)).drew wr.heap.size 83 [.int .i64 (kw:Int),vs nm',.int .i64 mx]:=(Row.new wr 83 _).drew
      have kq:Kept (fun b=>wr.heap.size≤b) wr (wr.alloc (.cells #[.int .i64 (kw:Int),vs nm',.int .i64 mx] 83)).drew:=((Kept.refl _ wr).alloc (Nat.le_refl _) _).drew
      have lk:=hlk _ (hkA #[.int .i64 (kw:Int),vs nm',.int .i64 mx]) true
      clear hsr hs0 hkw hbv x0 x1 x2 hru e hNM hbk hblk hfs hSS hsb hlk hkA hx hw
      simp only[Option.isSome_some,if_true]at lk
      unfold vs at*
      go_wp2_with fail
      go_region_law (first
       |(go_simp;go_at_call 50;refine(HBLK.out _ ?_ ?_).mono ?_;assumption;assumption;rintro y wq ⟨rfl,kq,rq⟩;have zz0:=rq.cell 0;have zz1:=rq.cell 1;have zz2:=rq.cell 2;have zl:=rq.lt;simp at zz0 zz1 zz2)
       |(go_simp;go_at_call 48;refine(HW.out _ ?_).mono ?_;assumption;rintro y w5 ⟨⟨n5,rfl⟩,hb5,hk5⟩;have F5:=Lib.hid (And.intro hb5 hk5);clear hb5 hk5))
      all_goals
       go_wp2
       go_roundg (k-(j+1))
       case measure=>omega
       case rel=>exact⟨j+1,by omega,by omega,by go_num,F5.out.2,F5.out.1⟩
    ·have hje:j=k:=by omega
     subst hje
     obtain⟨bl,hru⟩:∃b,missOf p.rules=some b:=Option.isSome_iff_exists.1 HP.out.miss
     have hru2:ruleOf p.rules (-1)=some bl:=hru
     obtain⟨v,hlk,hbv⟩:=HR.out.lookK (-1)
     rw[hru2]at hlk hbv
     simp only at hbv
     obtain⟨gv,cv,rfl⟩:∃g c,v= .slice (some ⟨g,0,none⟩) bl.length c:=by obtain⟨_,h1,_⟩:=hbv;exact h1.2
     obtain⟨hbw1,hbw2⟩:=rule_blk_wf HP.out hru2
     have hbl:=showBlk_len HP.out.decls hbw1
     have hbk:=sblk_at H.out hbv hbw1 hbw2
     have hTL:(TT++showRules p j).length≤600000:=by rw[List.length_append];omega
     have hfs:text p=(TT++showRules p j)++[111,110,32,109,105,115,115,32]++showBlk p.decls bl++[10]:=by
      have e1:declsT p j=(p.decls.map showDecl).flatten:=by unfold declsT;rw[←HL.out,List.take_length]
      unfold text showMiss
      rw[hru,HL.out,←e1,←HTT.out]
      simp[bSp]
     have HFS:=Lib.hid hfs
     generalize hSS:TT++showRules p j=SS at*
     generalize hsb:showBlk p.decls bl=sb at*
     have s1:=scat (P:=Tryz.prog) (a:=⟨SS.toArray⟩) (b:=⟨#[111,110,32,109,105,115,115,32]⟩) (by simp only[ByteArray.size_append,size_vs,List.length_cons,List.length_nil];omega)
     have s2:=scat (P:=Tryz.prog) (a:=⟨SS.toArray⟩++⟨#[111,110,32,109,105,115,115,32]⟩) (b:=⟨sb.toArray⟩) (by simp only[ByteArray.size_append,size_vs,List.length_cons,List.length_nil];omega)
     have s3:=scat (P:=Tryz.prog) (a:=⟨SS.toArray⟩++⟨#[111,110,32,109,105,115,115,32]⟩++⟨sb.toArray⟩) (b:=⟨#[10]⟩) (by simp only[ByteArray.size_append,size_vs,List.length_cons,List.length_nil];omega)
     have hblk1:∀W,Kept (fun b=>wr.heap.size≤b) wr W→Calls Tryz.prog 50 #[.pointer (some ⟨gp,0,none⟩),.slice (some ⟨gv,0,none⟩) bl.length cv] W fun y w'=>y= .returned (vs sb)∧Kept (fun b=>wr.heap.size≤b) wr w':=fun W hk=>by
      refine(hbk W (hkw.trans (hk.mono (fun b hb=>Nat.le_trans wl hb)))).mono ?_
      rintro y w' ⟨q1,q2⟩
      exact⟨q1,hk.trans (q2.mono (fun b hb=>Nat.le_trans hk.size hb))⟩
     have hblk2:∀W,Kept (fun b=>w.heap.size≤b) w W→Calls Tryz.prog 50 #[.pointer (some ⟨gp,0,none⟩),.slice (some ⟨gv,0,none⟩) bl.length cv] W fun y w'=>y= .returned (vs sb)∧Kept (fun b=>w.heap.size≤b) w w':=fun W hk=>by
      refine(hbk W hk).mono ?_
      rintro y w' ⟨q1,q2⟩
      exact⟨q1,hk.trans (q2.mono (fun b hb=>Nat.le_trans hk.size hb))⟩
     have hst:∀W,Kept (fun b=>wr.heap.size≤b) wr W→Calls Tryz.prog 51 #[.pointer (some ⟨w.heap.size,0,none⟩)] W fun y w'=>y= .returned (vs SS)∧Kept (fun b=>w.heap.size≤b) w w':=fun W hk=>by
      refine(Tryz.Builder_String_any w.heap.size w.heap.size SS W (bld_kept HBD.out hk) (Nat.le_trans wl hk.size)).mono ?_
      rintro y w' ⟨q1,q2⟩
      exact⟨q1,(hkw.trans (hk.mono (fun b hb=>Nat.le_trans wl hb))).trans (Kept.of_below q2 (fun k hk=>hk))⟩
     have hlk2:∀W,Kept (fun b=>wr.heap.size≤b) wr W→(Instr.lookup 61 (.map (some bm)) (.int .i64 (-1)) false).run Tryz.prog W= .ok (.slice (some ⟨gv,0,none⟩) bl.length cv) W:=fun W hk=>hlk W (hkw.trans (hk.mono (fun b hb=>Nat.le_trans wl hb))) false
     have hlk3:∀W,Kept (fun b=>w.heap.size≤b) w W→(Instr.lookup 61 (.map (some bm)) (.int .i64 (-1)) false).run Tryz.prog W= .ok (.slice (some ⟨gv,0,none⟩) bl.length cv) W:=fun W hk=>hlk W hk false
     have kq:Kept (fun b=>wr.heap.size≤b) wr wr.drew:=(Kept.refl _ wr).drew
     have lq:=hlk2 _ kq
     have HB1:=Lib.hid hblk1
     have HB3:=Lib.hid hblk2
     have HST:=Lib.hid hst
     have HLK3:=Lib.hid hlk3
     have HC2:=Lib.hid c2
     clear hkw hfs hSS hsb hblk1 hblk2 hst hlk hlk2 hlk3 hbk hbv hru hru2
     unfold vs at*
     go_wp2_with fail
     go_region_law (first
      |(go_simp;go_at_call 50;refine(HB1.out _ ?_).mono ?_;assumption;rintro y wq ⟨rfl,kq⟩;have FB:=Lib.hid kq)
      |(go_simp;go_at_call 50;refine(HB3.out _ ?_).mono ?_;assumption;rintro y wq ⟨rfl,kz⟩)
      |(go_simp;go_at_call 51;refine(HST.out _ ?_).mono ?_;assumption;rintro y wq ⟨rfl,kz⟩;have lz:=HLK3.out _ kz;have zc:=(kz.cell (p:=⟨gp,2,none⟩) (by simp only;omega)).trans HC2.out;have zs:=kz.size))
     all_goals
      have KZ:=Lib.hid kz
      clear kz kq
      go_wp2
      go_ret
      refine⟨?_,KZ.out⟩
      rw[HFS.out]
      refine congrArg (fun x=>Ending.returned (.string x)) ?_
      rw[bapp,bapp,bapp]
end
end Go.Proofs.YtepoejiigmhlbaaGreatDoor.Ev
namespace Go.Proofs.YtepoejiigmhlbaaGreatDoor.Ev
open Go Go.RowKit
section
variable {S:Nat→Prop} {w:World} {ge:Nat} {e:Eng}
set_option maxRecDepth 100000 in
set_option maxHeartbeats 1000000 in
theorem etext_any (h0:EngR S w ge e) (ht:TabE w):Calls Tryz.prog 9 #[.pointer (some ⟨ge,0,none⟩)] w (OutTx w (text e.p)):=by
 obtain⟨gg,gs,ga,gp,bm,bc,loops,vd,vva,SA,A,ns,h⟩:=h0
 have c0:=h.row.cell 0
 have rl:=h.row.lt
 have g0:=h.prog.code.row.cell 0
 have gl:=h.prog.code.row.lt
 simp at c0 g0
 have hsh:ShR w gp vd (.map (some bm)) e.p.freq e.p.decls:=⟨h.prog.pol,h.prog.decls.mono (fun _ _=>trivial),h.pw.decls,ht⟩
 have HC:=Lib.hid (show_any hsh h.prog.rules h.pw)
 clear h hsh ht
 go_enter Tryz.func9,Tryz.ntmps9
 go_wp2_with fail
 refine HC.out.mono ?_
 rintro y w1 ⟨rfl,hk1⟩
 have HK1:=Lib.hid hk1
 clear hk1
 go_wp2
 go_ret
 exact⟨rfl,HK1.out⟩
end
end Go.Proofs.YtepoejiigmhlbaaGreatDoor.Ev
