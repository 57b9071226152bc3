/- Lemmas for a law's walk. Conditions: none. -/
import Derived.Test.YtepoejiigmhlbaaGreatDoorShelf
import Derived.Deep.QuietTactic
import Derived.BigQuiet
import Derived.Deep.LoopGhost
import Derived.Deep.DeepCutAuto
import Derived.Deep.DeepMust
import Derived.Deep.CutBlock
import Derived.Test.YtepoejiigmhlbaaGreatDoorZc02
set_option linter.all false
namespace Go.Proofs.YtepoejiigmhlbaaGreatDoor.Ev
open Go Go.RowKit
def ibBlank (c:UInt8):Int:=Lib.indexByte [32,10] c
def ibPunct (c:UInt8):Int:=Lib.indexByte [59,123,125,60] c
theorem ibBlank_call (c:UInt8) (w:World):Calls Tryz.prog 68 #[.string ⟨#[32,10]⟩,.int .u8 c.toNat] w fun e w'=>e= .returned (.int .i64 (ibBlank c))∧w'=w:=by
 have h:=Tryz.strings_IndexByte ⟨#[32,10]⟩ (c.toNat:Int) w
 simp at h
 exact h
theorem ibPunct_call (c:UInt8) (w:World):Calls Tryz.prog 68 #[.string ⟨#[59,123,125,60]⟩,.int .u8 c.toNat] w fun e w'=>e= .returned (.int .i64 (ibPunct c))∧w'=w:=by
 have h:=Tryz.strings_IndexByte ⟨#[59,123,125,60]⟩ (c.toNat:Int) w
 simp at h
 exact h
theorem blank_idx (c:UInt8):decide (0≤ibBlank c)=blank c:=by
 unfold blank ibBlank
 by_cases h1:c=32
 ·subst h1;rfl
 ·by_cases h2:c=10
  ·subst h2;rfl
  ·have e1:((32:UInt8)==c)=false:=by simpa using fun e=>h1 e.symm
   have e2:((10:UInt8)==c)=false:=by simpa using fun e=>h2 e.symm
   simp[Lib.indexByte,e1,e2,h1,h2]
theorem rd_cell {w:World} {g gp:Nat} {wp:Value} {s:Bytes} {st:PS} (h:Row w g 103 (rdCells s st gp wp)):
  w.cell? ⟨g,0,none⟩=some (vs s)∧w.cell? ⟨g,1,none⟩=some (.int .i64 st.i)∧w.cell? ⟨g,2,none⟩=some (vs st.t.kind)∧w.cell? ⟨g,3,none⟩=some (vs st.t.text)∧w.cell? ⟨g,4,none⟩=some (.int .i64 st.t.pos)∧
  w.cell? ⟨g,5,none⟩=some (.pointer (some ⟨gp,0,none⟩))∧w.cell? ⟨g,6,none⟩=some (.bool st.fseen)∧w.cell? ⟨g,7,none⟩=some (.int .i64 st.depth)∧w.cell? ⟨g,8,none⟩=some (.int .i64 st.loops)∧w.cell? ⟨g,9,none⟩=some wp:=
 ⟨h.cell 0,h.cell 1,h.cell 2,h.cell 3,h.cell 4,h.cell 5,h.cell 6,h.cell 7,h.cell 8,h.cell 9⟩
theorem rd_i {w:World} {g gp:Nat} {wp:Value} {s:Bytes} {st:PS} (h:Row w g 103 (rdCells s st gp wp)) (i:Nat):
  Row (w.setCell ⟨g,1,none⟩ (.int .i64 i)) g 103 (rdCells s {st with i:=i} gp wp):=h.set_ 1 _
theorem vs_idx {s:Bytes} {i:Nat} {c:UInt8} (h:s[i]?=some c):∃hi:i<(ByteArray.mk s.toArray).size,(ByteArray.mk s.toArray)[i]=c:=by
 obtain⟨hi,hc⟩:=List.getElem?_eq_some_iff.1 h
 exact⟨by rw[size_vs];exact hi,by rw[←hc];rfl⟩
theorem punct_idx (c:UInt8):decide (0≤ibPunct c)=punct c:=by
 unfold punct ibPunct
 by_cases h1:c=59
 ·subst h1;rfl
 ·by_cases h2:c=123
  ·subst h2;rfl
  ·by_cases h3:c=125
   ·subst h3;rfl
   ·by_cases h4:c=60
    ·subst h4;rfl
    ·have e1:((59:UInt8)==c)=false:=by simpa using fun e=>h1 e.symm
     have e2:((123:UInt8)==c)=false:=by simpa using fun e=>h2 e.symm
     have e3:((125:UInt8)==c)=false:=by simpa using fun e=>h3 e.symm
     have e4:((60:UInt8)==c)=false:=by simpa using fun e=>h4 e.symm
     simp[Lib.indexByte,e1,e2,e3,e4,h1,h2,h3,h4]
theorem kw_call (x:Bytes) (w:World) (hkw:∀j,j<24→w.cell? ⟨3,j,none⟩=some (vs (keywords.getD j []))):
  Calls Tryz.prog 69 #[.slice (some ⟨3,0,none⟩) 24 24,.string ⟨x.toArray⟩] w fun e w'=>e= .returned (.bool (keywords.contains x))∧w'=w:=by
 have h:=Tryz.slices_Contains_string 3 0 24 24 (keywords.map fun k=>⟨k.toArray⟩) ⟨x.toArray⟩ w (by decide) (by decide) (fun j hj=>by
  have hj':j<24:=hj
  rw[Nat.zero_add,hkw j hj']
  unfold vs
  congr 2
  simp only[List.getD_eq_getElem?_getD,List.getElem?_map]
  have:j<keywords.length:=hj'
  rw[List.getElem?_eq_getElem this]
  rfl)
 have e:Lib.containsS ((keywords.map fun k=>(⟨k.toArray⟩:ByteArray)).take 24) ⟨x.toArray⟩=keywords.contains x:=by
  rw[Bool.eq_iff_iff,Lib.containsS_iff,List.contains_iff_mem]
  have hlen:(keywords.map fun k=>(⟨k.toArray⟩:ByteArray)).length=24:=rfl
  rw[List.take_of_length_le (by rw[hlen];exact Nat.le_refl _),List.mem_map]
  constructor
  ·rintro⟨k,hk,he⟩
   have:k=x:=by
    have h1:=congrArg (fun b:ByteArray=>b.data.toList) he
    simpa using h1
   exact this▸hk
  ·intro hx
   exact⟨x,hx,rfl⟩
 rw[e]at h
 exact h
theorem low_cases (c:UInt8):(low c=true∧(97:Int)≤(c.toNat:Int)∧(c.toNat:Int)≤122)∨(low c=false∧(c.toNat:Int)<97)∨(low c=false∧(97:Int)≤(c.toNat:Int)∧(122:Int)<(c.toNat:Int)):=by
 unfold low
 simp only[Bool.and_eq_true,decide_eq_true_eq,UInt8.le_iff_toNat_le,Bool.and_eq_false_iff,decide_eq_false_iff_not]
 have h1:(97:UInt8).toNat=97:=rfl
 have h2:(122:UInt8).toNat=122:=rfl
 omega
theorem fig_cases (c:UInt8):(fig c=true∧(48:Int)≤(c.toNat:Int)∧(c.toNat:Int)≤57)∨(fig c=false∧(c.toNat:Int)<48)∨(fig c=false∧(48:Int)≤(c.toNat:Int)∧(57:Int)<(c.toNat:Int)):=by
 unfold fig
 simp only[Bool.and_eq_true,decide_eq_true_eq,UInt8.le_iff_toNat_le,Bool.and_eq_false_iff,decide_eq_false_iff_not]
 have h1:(48:UInt8).toNat=48:=rfl
 have h2:(57:UInt8).toNat=57:=rfl
 omega
theorem kw_kept {S:Nat→Prop} {w w':World} (h:∀j,j<24→w.cell? ⟨3,j,none⟩=some (vs (keywords.getD j []))) (hk:Kept S w w') (hS:¬S 3):
  ∀j,j<24→w'.cell? ⟨3,j,none⟩=some (vs (keywords.getD j [])):=fun j hj=>(hk.cell (p:=⟨3,j,none⟩) hS).trans (h j hj)
theorem piece_extract (s:Bytes) (i k:Nat):(ByteArray.mk s.toArray).extract i k=⟨(piece s i k).toArray⟩:=by
 have h:((ByteArray.mk s.toArray).extract i k).data=(piece s i k).toArray:=by
  simp[ByteArray.data_extract,piece,List.extract_eq_take_drop,List.drop_take]
 cases hx:(ByteArray.mk s.toArray).extract i k with
 |mk d=>rw[hx]at h;simp only at h;rw[h]
theorem Row.of_heap {w w':World} {g:Nat} {t:TypeId} {cs:List Value} (h:Row w g t cs) (hh:w'.heap=w.heap):Row w' g t cs:=by
 unfold Row at h ⊢
 rw[hh]
 exact h
theorem lex_end {s:Bytes} {i:Nat} (h:s[skip blank s i]?=none):lex s i=(⟨kEnd,[],skip blank s i⟩,skip blank s i):=by
 unfold lex;simp only[h]
theorem lex_low {s:Bytes} {i:Nat} {c:UInt8} (h:s[skip blank s i]?=some c) (hc:low c=true):lex s i=
  if 8<skip low s (skip blank s i)-skip blank s i then(⟨kNone,[],skip blank s i⟩,skip blank s i)
  else(⟨if keywords.contains (piece s (skip blank s i) (skip low s (skip blank s i)))then piece s (skip blank s i) (skip low s (skip blank s i))else kName,piece s (skip blank s i) (skip low s (skip blank s i)),skip blank s i⟩,skip low s (skip blank s i)):=by
 unfold lex;simp only[h,hc,if_true]
theorem lex_fig {s:Bytes} {i:Nat} {c:UInt8} (h:s[skip blank s i]?=some c) (hl:low c=false) (hc:fig c=true):lex s i=
  if 3<skip fig s (skip blank s i)-skip blank s i then(⟨kNone,[],skip blank s i⟩,skip blank s i)
  else(⟨kNumber,piece s (skip blank s i) (skip fig s (skip blank s i)),skip blank s i⟩,skip fig s (skip blank s i)):=by
 unfold lex;simp only[h,hc,hl,if_true,Bool.false_eq_true,if_false]
theorem lex_punct {s:Bytes} {i:Nat} {c:UInt8} (h:s[skip blank s i]?=some c) (hl:low c=false) (hf:fig c=false) (hc:punct c=true):
  lex s i=(⟨[c],[c],skip blank s i⟩,skip blank s i+1):=by
 unfold lex;simp only[h,hc,hl,hf,if_true,Bool.false_eq_true,if_false]
theorem lex_none {s:Bytes} {i:Nat} {c:UInt8} (h:s[skip blank s i]?=some c) (hl:low c=false) (hf:fig c=false) (hc:punct c=false):
  lex s i=(⟨kNone,[],skip blank s i⟩,skip blank s i):=by
 unfold lex;simp only[h,hc,hl,hf,Bool.false_eq_true,if_false]
theorem next_of {s:Bytes} {st:PS} {t:Tok} {k:Nat} (h:lex s st.i=(t,k)):next s st={st with t:=t,i:=k}:=by
 unfold next;rw[h]
set_option maxRecDepth 100000 in
set_option maxHeartbeats 6000000 in
theorem next_any (g gp:Nat) (wp:Value) (s:Bytes) (st:PS) (w:World) (hkw:∀j,j<24→w.cell? ⟨3,j,none⟩=some (vs (keywords.getD j []))) (hgk:3≠g) (hs:s.length≤1000000) (hi:st.i≤s.length) (hr:Row w g 103 (rdCells s st gp wp)):
  Calls Tryz.prog 36 #[.pointer (some ⟨g,0,none⟩)] w fun e w'=>e= .returned (.tuple #[])∧Kept (fun b=>b=g) w w'∧Row w' g 103 (rdCells s (next s st) gp wp):=by
 have HR:=Lib.hid hr
 have HKW:=Lib.hid hkw
 have HGK:=Lib.hid hgk
 clear hr hkw hgk
 go_enter Tryz.func36,Tryz.ntmps36
 go_upto_block 0 with fail
 go_cut [] (fun wx=>Kept (fun b=>b=g) w wx∧Row wx g 103 (rdCells s {st with i:=skip blank s st.i} gp wp))
 case first=>
  as_aux_lemma=>
   go_wp2_with fail
   go_loopg [] (s.length-st.i) (fun k wr=>∃i,k=s.length-i∧st.i≤i∧i≤s.length∧skip blank s i=skip blank s st.i∧Kept (fun b=>b=g) w wr∧Row wr g 103 (rdCells s {st with i:=i} gp wp))
   case atStart=>exact⟨st.i,rfl,Nat.le_refl _,hi,rfl,Kept.refl _ _,HR.out⟩
   case round=>
    obtain⟨i,hk,hi1,hi2,hsk,hkp,hrow⟩:=hrel
    obtain⟨c0,c1,_⟩:=rd_cell hrow
    have f:=fun j=>hrow.frozen j
    have HK:=Lib.hid hk
    have HSK:=Lib.hid hsk
    have HKP:=Lib.hid hkp
    have HRow:=Lib.hid hrow
    clear hk hsk hkp hrow
    unfold vs at c0
    by_cases hlt:i<s.length
    ·obtain⟨c,hc⟩:∃c,s[i]?=some c:=⟨_,List.getElem?_eq_getElem hlt⟩
     obtain⟨hx,hxc⟩:=vs_idx hc
     have hb:=blank_idx c
     have hst:=skip_step blank s i c hc
     have hsz:=size_vs s
     have Hhst:=Lib.hid hst
     clear hst hc
     by_cases hbl:blank c
     ·rw[hbl]at hb
      have hb2:0≤ibBlank c:=of_decide_eq_true hb
      clear hb
      go_wp2_with fail
      go_quiet ((go_at_call 68;exact Calls.quiet_of_same (ibBlank_call c _)))
      go_wp2
      go_roundg (s.length-(i+1))
      case measure=>have:=HK.out;omega
      case rel=>
       have h1:=rd_i (HRow.out.drewN nq) (i+1)
       rw[show((i+1:Nat):Int)=(i:Int)+1 from by omega]at h1
       refine⟨i+1,rfl,by omega,by omega,?_,(HKP.out.drewN nq).setCell rfl _,h1⟩
       have h2:=Hhst.out
       rw[if_pos hbl,HSK.out]at h2
       exact h2.symm
     ·have hb2:ibBlank c<0:=by
       simp only[Bool.not_eq_true]at hbl
       rw[hbl]at hb
       have:=of_decide_eq_false hb
       omega
      clear hb
      go_wp2_with fail
      go_quiet ((go_at_call 68;exact Calls.quiet_of_same (ibBlank_call c _)))
      go_wp2
      go_meet
      have h2:=Hhst.out
      rw[if_neg hbl,HSK.out]at h2
      rw[h2]
      exact⟨HKP.out.drewN _,HRow.out.drewN _⟩
    ·have hle:i=s.length:=by omega
     have hse:=skip_end blank s i (by simp;omega)
     rw[HSK.out]at hse
     have Hse:=Lib.hid hse
     have Hle:=Lib.hid hle
     clear hse hle
     have hsz:=size_vs s
     have hd:decide ((i:Int)<(s.length:Int))=false:=by simp;omega
     go_wp2_with fail
     go_quiet (fail)
     go_wp2
     go_meet
     rw[Hse.out]
     exact⟨HKP.out.drewN _,HRow.out.drewN _⟩
 case rest=>
  obtain⟨hk,hrow⟩:=hcut
  obtain⟨hp1,hp2⟩:=skip_le blank s st.i hi
  have hlx:(∀t k,lex s st.i=(t,k)→next s st={st with t:=t,i:=k}):=fun t k h=>next_of h
  have Hlx:=Lib.hid hlx
  have hcs:s[skip blank s st.i]?=none∨∃c,s[skip blank s st.i]?=some c:=by
   cases s[skip blank s st.i]? with
   |none=>exact .inl rfl
   |some c=>exact .inr ⟨c,rfl⟩
  have Hcs:=Lib.hid hcs
  have HK:=Lib.hid hk
  clear hlx hcs hk
  obtain⟨c0,c1,c2,c3,c4,_⟩:=rd_cell hrow
  have f:=fun j=>hrow.frozen j
  have h3:=((hrow.set_ 2 (vs kNone)).set_ 3 (vs [])).set_ 4 (.int .i64 (skip blank s st.i:Nat))
  have H3:Hid (Row (((wc.setCell ⟨g,2,none⟩ (vs kNone)).setCell ⟨g,3,none⟩ (vs [])).setCell ⟨g,4,none⟩ (.int .i64 (skip blank s st.i:Nat))) g 103 (rdCells s {st with i:=skip blank s st.i,t:=⟨kNone,[],skip blank s st.i⟩} gp wp)):=h3
  clear h3 hrow
  unfold vs at c0
  go_upto_region 2 with fail
  go_cut [] (fun wx=>Kept (fun b=>b=g) w wx∧Row wx g 103 (rdCells s {st with i:=skip blank s st.i,t:=⟨kNone,[],skip blank s st.i⟩} gp wp))
  case first=>
   go_wp2
   go_meet
   exact⟨((HK.out.setCell rfl _).setCell rfl _).setCell rfl _,H3.out⟩
  case rest=>
   clear c0 c1 c2 c3 c4 f HK H3
   obtain⟨hk,hrow⟩:=hcut
   obtain⟨c0,c1,c2,c3,c4,_⟩:=rd_cell hrow
   have f:=fun j=>hrow.frozen j
   have HK:=Lib.hid hk
   have HRow:=Lib.hid hrow
   clear hk hrow
   have hsz:=size_vs s
   unfold vs at c0
   simp only at c0 c1 c2 c3 c4
   rcases Hcs.out with hno|⟨c,hc⟩
   ·have hlx:=Hlx.out _ _ (lex_end hno)
    have HL:=Lib.hid hlx
    have hpl:skip blank s st.i=s.length:=by
     have:s.length≤skip blank s st.i:=by simpa using hno
     omega
    generalize skip blank s st.i=p at*
    subst hpl
    clear hno hlx
    go_wp2_with fail
    go_quiet (fail)
    go_wp2
    refine bodyPost_ret (results_none rfl _ _ _) rfl ?_
    rw[HL.out]
    exact⟨rfl,(HK.out.drewN _).setCell rfl _,(HRow.out.drewN _).set_ 2 (vs kEnd)⟩
   ·have hplt:skip blank s st.i<s.length:=by
     rcases Nat.lt_or_ge (skip blank s st.i) s.length with h|h
     ·exact h
     ·rw[List.getElem?_eq_none h]at hc;cases hc
    obtain⟨hx,hxc⟩:=vs_idx hc
    have hne:((skip blank s st.i:Int)==(s.length:Int))=false:=by simp;omega
    cases hlow:low c with
    |true=>
     have hl1:(97:Int)≤(c.toNat:Int)∧(c.toNat:Int)≤122:=by
      unfold low at hlow
      simp only[Bool.and_eq_true,decide_eq_true_eq,UInt8.le_iff_toNat_le]at hlow
      have h1:(97:UInt8).toNat=97:=rfl
      have h2:(122:UInt8).toNat=122:=rfl
      omega
     obtain⟨hl1,hl2⟩:=hl1
     have Hlw:=Lib.hid (lex_low hc hlow)
     obtain⟨hk1,hk2⟩:=skip_le low s (skip blank s st.i) (by omega)
     clear hlow hc
     generalize skip blank s st.i=p at*
     go_wp2_with fail
     go_quiet (fail)
     go_upto_block 3 with fail
     go_cut [2] (fun s2 wx=>s2= .int .i64 (skip low s p:Nat)∧Kept (fun b=>b=g) w wx∧Row wx g 103 (rdCells s {st with i:=p,t:=⟨kNone,[],p⟩} gp wp))
     case first=>
      as_aux_lemma=>
       go_wp2_with fail
       go_loopg [2] (s.length-p) (fun k s2 wr=>∃i:Nat,k=s.length-i∧p≤i∧i≤s.length∧s2= .int .i64 i∧skip low s i=skip low s p∧Kept (fun b=>b=g) w wr∧Row wr g 103 (rdCells s {st with i:=p,t:=⟨kNone,[],p⟩} gp wp))
       case atStart=>exact⟨p,rfl,Nat.le_refl _,by omega,rfl,rfl,HK.out.drewN _,HRow.out.drewN _⟩
       case round=>
        clear c0 c1 c2 c3 c4 f HK HRow
        obtain⟨i,hgk,hi1,hi2,rfl,hsk,hk,hrow⟩:=hrel
        obtain⟨c0,c1,c2,c3,c4,_⟩:=rd_cell hrow
        have HK:=Lib.hid hk
        have HRow:=Lib.hid hrow
        have HGk:=Lib.hid hgk
        have HSk:=Lib.hid hsk
        clear hk hrow hgk hsk
        unfold vs at c0
        simp only at c0 c1 c2 c3 c4
        by_cases hlt:i<s.length
        ·obtain⟨d,hd⟩:∃d,s[i]?=some d:=⟨_,List.getElem?_eq_getElem hlt⟩
         obtain⟨hy,hyd⟩:=vs_idx hd
         have Hst:=Lib.hid (skip_step low s i d hd)
         clear hd
         rcases low_cases d with⟨hl,l1,l2⟩|⟨hl,l1⟩|⟨hl,l1,l2⟩
         ·have Hl:=Lib.hid hl
          clear hl
          go_wp2
          go_roundg (s.length-(i+1))
          case measure=>have:=HGk.out;omega
          case rel=>
           have h2:=Hst.out
           rw[if_pos Hl.out,HSk.out]at h2
           exact⟨i+1,rfl,by omega,by omega,by go_num,h2.symm,HK.out,HRow.out⟩
         all_goals
          have Hl:=Lib.hid hl
          clear hl
          go_wp2
          go_meet
          have h2:=Hst.out
          rw[Hl.out,if_neg (by decide),HSk.out]at h2
          rw[h2]
          exact⟨rfl,HK.out,HRow.out⟩
        ·have hle:i=s.length:=by omega
         have Hse:=Lib.hid (skip_end low s i (by simp;omega))
         have Hle:=Lib.hid hle
         clear hle
         go_wp2
         go_meet
         have h2:=Hse.out
         rw[HSk.out]at h2
         rw[h2]
         exact⟨rfl,HK.out,HRow.out⟩
     case rest=>
      clear c0 c1 c2 c3 c4 f HK HRow
      obtain⟨rfl,hk,hrow⟩:=hcut
      obtain⟨c0,c1,c2,c3,c4,_⟩:=rd_cell hrow
      have f:=fun j=>hrow.frozen j
      have HK:=Lib.hid hk
      have HRow:=Lib.hid hrow
      clear hk hrow
      unfold vs at c0
      simp only at c0 c1 c2 c3 c4
      have hex:=piece_extract s p (skip low s p)
      generalize hE:skip low s p=e at*
      clear hE
      by_cases h8:8<e-p
      ·have h8':(8:Int)<(e:Int)-(p:Int):=by omega
       have hl:=Hlw.out
       rw[if_pos h8]at hl
       have HL:=Lib.hid (Hlx.out _ _ hl)
       clear hl h8
       go_wp2
       refine bodyPost_ret (results_none rfl _ _ _) rfl ?_
       rw[HL.out]
       exact⟨rfl,HK.out,HRow.out⟩
      ·have h8':(e:Int)-(p:Int)≤8:=by omega
       have hl:=Hlw.out
       rw[if_neg h8]at hl
       have HL:=Lib.hid (Hlx.out _ _ hl)
       clear hl h8
       generalize hW:piece s p e=word at*
       clear hW
       have hkc:=kw_call word
       have HKC:=Lib.hid hkc
       clear hkc
       cases hcon:keywords.contains word with
       |true=>
        as_aux_lemma=>
         rw[hcon]at HL HKC
         go_wp2_with fail
         go_quiet ((go_at_call 69;exact Calls.quiet_of_same (HKC.out _ (kw_kept HKW.out ((HK.out.setCell rfl _).drewN _) HGK.out))))
         go_wp2_with fail
         (refine wp_tail 14 (by kernel_rfl) (by kernel_rfl) ?_;simp only[List.take_succ_cons,List.take_zero,List.drop_succ_cons,List.drop_zero];repeat still_step);refine wpStill_nil ?_
         go_wp2
         (refine wp_tail 14 (by kernel_rfl) (by kernel_rfl) ?_;simp only[List.take_succ_cons,List.take_zero,List.drop_succ_cons,List.drop_zero];repeat still_step);refine wpStill_nil ?_
         go_wp2
         go_end0
         rw[HL.out]
         refine⟨rfl,?_,?_⟩
         ·repeat' first|with_reducible exact HK.out|with_reducible refine Kept.drewN ?_ _|with_reducible refine Kept.drew ?_|with_reducible refine Kept.setCell ?_ (by rfl) _
         ·have hfin:=(((HRow.out.set_ 2 (vs kName)).set_ 2 (vs word)).set_ 3 (vs word)).set_ 1 (.int .i64 e)
          exact Row.of_heap hfin (by(simp only[drewN_setCell,drew_setCell,World.heap_drewN,heap_drew];try with_reducible rfl))
       |false=>
        as_aux_lemma=>
         rw[hcon]at HL HKC
         go_wp2_with fail
         go_quiet ((go_at_call 69;exact Calls.quiet_of_same (HKC.out _ (kw_kept HKW.out ((HK.out.setCell rfl _).drewN _) HGK.out))))
         go_wp2_with fail
         (refine wp_tail 14 (by kernel_rfl) (by kernel_rfl) ?_;simp only[List.take_succ_cons,List.take_zero,List.drop_succ_cons,List.drop_zero];repeat still_step);refine wpStill_nil ?_
         go_wp2
         go_end0
         rw[HL.out]
         refine⟨rfl,?_,?_⟩
         ·repeat' first|with_reducible exact HK.out|with_reducible refine Kept.drewN ?_ _|with_reducible refine Kept.drew ?_|with_reducible refine Kept.setCell ?_ (by rfl) _
         ·have hfin:=((HRow.out.set_ 2 (vs kName)).set_ 3 (vs word)).set_ 1 (.int .i64 e)
          exact Row.of_heap hfin (by(simp only[drewN_setCell,drew_setCell,World.heap_drewN,heap_drew];try with_reducible rfl))
    |false=>
     have Hlow:=Lib.hid hlow
     have hlc:=low_cases c
     have hfc:=fig_cases c
     have hltp:skip blank s st.i≤s.length:=by omega
     have Hpre:=Lib.hid (fun(hf:fig c=true)=>lex_fig hc hlow hf)
     have Hpu:=Lib.hid (fun(hf:fig c=false) (hp:punct c=true)=>lex_punct hc hlow hf hp)
     have Hno:=Lib.hid (fun(hf:fig c=false) (hp:punct c=false)=>lex_none hc hlow hf hp)
     obtain⟨hk1,hk2⟩:=skip_le fig s (skip blank s st.i) hltp
     have hpc:piece s (skip blank s st.i) (skip blank s st.i+1)=[c]:=by
      unfold piece
      rw[List.drop_take,Nat.add_sub_cancel_left]
      have h0:=List.getElem?_eq_getElem hplt
      rw[hc]at h0
      injection h0 with h0
      rw[List.drop_eq_getElem_cons hplt,←h0]
      rfl
     have hex1:=piece_extract s (skip blank s st.i) (skip blank s st.i+1)
     rw[hpc]at hex1
     have Hex1:=Lib.hid hex1
     have Hlc:=Lib.hid hlc
     have Hfc:=Lib.hid hfc
     clear hlow hc hlc hfc hpc hex1
     generalize skip blank s st.i=p at*
     go_wp2_with fail
     go_quiet (fail)
     go_upto_region 7 with fail
     go_cut [66] (fun x wx=>x= .bool false∧Kept (fun b=>b=g) w wx∧Row wx g 103 (rdCells s {st with i:=p,t:=⟨kNone,[],p⟩} gp wp))
     case first=>
      rcases Hlc.out with⟨h,_⟩|⟨_,h1⟩|⟨_,h1,h2⟩
      ·rw[Hlow.out]at h;cases h
      ·go_wp2
       go_meet
       exact⟨rfl,HK.out.drewN _,HRow.out.drewN _⟩
      ·go_wp2
       go_meet
       exact⟨by rw[decide_eq_false (by omega)],HK.out.drewN _,HRow.out.drewN _⟩
     case rest=>
      clear c0 c1 c2 c3 c4 f HK HRow
      obtain⟨rfl,hk,hrow⟩:=hcut
      obtain⟨c0,c1,c2,c3,c4,_⟩:=rd_cell hrow
      have f:=fun j=>hrow.frozen j
      have HK:=Lib.hid hk
      have HRow:=Lib.hid hrow
      clear hk hrow
      unfold vs at c0
      simp only at c0 c1 c2 c3 c4
      go_upto_region 14 with fail
      go_cut [137] (fun x wx=>x= .bool (fig c)∧Kept (fun b=>b=g) w wx∧Row wx g 103 (rdCells s {st with i:=p,t:=⟨kNone,[],p⟩} gp wp))
      case first=>
       rcases Hfc.out with⟨h,h1,h2⟩|⟨h,h1⟩|⟨h,h1,h2⟩
       all_goals
        have Hfg:=Lib.hid h
        clear h
        go_wp2
        go_meet
        rw[Hfg.out]
        refine⟨?_,HK.out,HRow.out⟩
        first|with_reducible rfl|rw[decide_eq_false (by omega)]
      case rest=>
       clear c0 c1 c2 c3 c4 f HK HRow
       obtain⟨rfl,hk,hrow⟩:=hcut
       obtain⟨c0,c1,c2,c3,c4,_⟩:=rd_cell hrow
       have f:=fun j=>hrow.frozen j
       have HK:=Lib.hid hk
       have HRow:=Lib.hid hrow
       clear hk hrow
       unfold vs at c0
       simp only at c0 c1 c2 c3 c4
       cases hfig:fig c with
       |true=>
        have Hlw:=Lib.hid (Hpre.out hfig)
        clear hfig
        go_upto_block 5 with fail
        go_cut [2] (fun s2 wx=>s2= .int .i64 (skip fig s p:Nat)∧Kept (fun b=>b=g) w wx∧Row wx g 103 (rdCells s {st with i:=p,t:=⟨kNone,[],p⟩} gp wp))
        case first=>
         as_aux_lemma=>
          go_wp2_with fail
          go_loopg [2] (s.length-p) (fun k s2 wr=>∃i:Nat,k=s.length-i∧p≤i∧i≤s.length∧s2= .int .i64 i∧skip fig s i=skip fig s p∧Kept (fun b=>b=g) w wr∧Row wr g 103 (rdCells s {st with i:=p,t:=⟨kNone,[],p⟩} gp wp))
          case atStart=>exact⟨p,rfl,Nat.le_refl _,by omega,rfl,rfl,HK.out,HRow.out⟩
          case round=>
           clear c0 c1 c2 c3 c4 f HK HRow
           obtain⟨i,hgk,hi1,hi2,rfl,hsk,hk,hrow⟩:=hrel
           obtain⟨c0,c1,c2,c3,c4,_⟩:=rd_cell hrow
           have HK:=Lib.hid hk
           have HRow:=Lib.hid hrow
           have HGk:=Lib.hid hgk
           have HSk:=Lib.hid hsk
           clear hk hrow hgk hsk
           unfold vs at c0
           simp only at c0 c1 c2 c3 c4
           by_cases hlt:i<s.length
           ·obtain⟨d,hd⟩:∃d,s[i]?=some d:=⟨_,List.getElem?_eq_getElem hlt⟩
            obtain⟨hy,hyd⟩:=vs_idx hd
            have Hst:=Lib.hid (skip_step fig s i d hd)
            clear hd
            rcases fig_cases d with⟨hl,l1,l2⟩|⟨hl,l1⟩|⟨hl,l1,l2⟩
            ·have Hl:=Lib.hid hl
             clear hl
             go_wp2
             go_roundg (s.length-(i+1))
             case measure=>have:=HGk.out;omega
             case rel=>
              have h2:=Hst.out
              rw[if_pos Hl.out,HSk.out]at h2
              exact⟨i+1,rfl,by omega,by omega,by go_num,h2.symm,HK.out,HRow.out⟩
            all_goals
             have Hl:=Lib.hid hl
             clear hl
             go_wp2
             go_meet
             have h2:=Hst.out
             rw[Hl.out,if_neg (by decide),HSk.out]at h2
             rw[h2]
             exact⟨rfl,HK.out,HRow.out⟩
           ·have hle:i=s.length:=by omega
            have Hse:=Lib.hid (skip_end fig s i (by simp;omega))
            have Hle:=Lib.hid hle
            clear hle
            go_wp2
            go_meet
            have h2:=Hse.out
            rw[HSk.out]at h2
            rw[h2]
            exact⟨rfl,HK.out,HRow.out⟩
        case rest=>
         as_aux_lemma=>
          clear c0 c1 c2 c3 c4 f HK HRow
          obtain⟨rfl,hk,hrow⟩:=hcut
          obtain⟨c0,c1,c2,c3,c4,_⟩:=rd_cell hrow
          have f:=fun j=>hrow.frozen j
          have HK:=Lib.hid hk
          have HRow:=Lib.hid hrow
          clear hk hrow
          unfold vs at c0
          simp only at c0 c1 c2 c3 c4
          have hex:=piece_extract s p (skip fig s p)
          generalize hE:skip fig s p=e at*
          clear hE
          by_cases h8:3<e-p
          ·have h8':(3:Int)<(e:Int)-(p:Int):=by omega
           have hl:=Hlw.out
           rw[if_pos h8]at hl
           have HL:=Lib.hid (Hlx.out _ _ hl)
           clear hl h8
           go_wp2
           refine bodyPost_ret (results_none rfl _ _ _) rfl ?_
           rw[HL.out]
           exact⟨rfl,HK.out,HRow.out⟩
          ·have h8':(e:Int)-(p:Int)≤3:=by omega
           have hl:=Hlw.out
           rw[if_neg h8]at hl
           have HL:=Lib.hid (Hlx.out _ _ hl)
           clear hl h8
           generalize hW:piece s p e=word at*
           clear hW
           go_wp2_with fail
           (refine wp_tail 14 (by kernel_rfl) (by kernel_rfl) ?_;simp only[List.take_succ_cons,List.take_zero,List.drop_succ_cons,List.drop_zero];repeat still_step);refine wpStill_nil ?_
           go_wp2
           go_end0
           rw[HL.out]
           refine⟨rfl,?_,?_⟩
           ·repeat' first|with_reducible exact HK.out|with_reducible refine Kept.drewN ?_ _|with_reducible refine Kept.drew ?_|with_reducible refine Kept.setCell ?_ (by rfl) _
           ·have hfin:=((HRow.out.set_ 2 (vs kNumber)).set_ 3 (vs word)).set_ 1 (.int .i64 e)
            exact Row.of_heap hfin (by(simp only[drewN_setCell,drew_setCell,World.heap_drewN,heap_drew];try with_reducible rfl))
       |false=>
        have hpi:=punct_idx c
        have hex:=Hex1.out
        have hplen:(p:Int)+1≤(s.length:Int):=by omega
        have hpge:(p:Int)≤(p:Int)+1:=by omega
        cases hpun:punct c with
        |true=>
         as_aux_lemma=>
          have HL:=Lib.hid (Hlx.out _ _ (Hpu.out hfig hpun))
          rw[hpun]at hpi
          have hp2:0≤ibPunct c:=of_decide_eq_true hpi
          clear hfig hpun hpi
          go_wp2_with (go_at_call 68;refine(ibPunct_call c _).mono ?_;rintro e w' ⟨rfl,rfl⟩)
          (refine wp_tail 14 (by kernel_rfl) (by kernel_rfl) ?_;simp only[List.take_succ_cons,List.take_zero,List.drop_succ_cons,List.drop_zero];repeat still_step);refine wpStill_nil ?_
          go_wp2
          (refine wp_tail 14 (by kernel_rfl) (by kernel_rfl) ?_;simp only[List.take_succ_cons,List.take_zero,List.drop_succ_cons,List.drop_zero];repeat still_step);refine wpStill_nil ?_
          go_wp2
          go_end0
          rw[HL.out]
          refine⟨rfl,?_,?_⟩
          ·repeat' first|with_reducible exact HK.out|with_reducible refine Kept.drewN ?_ _|with_reducible refine Kept.drew ?_|with_reducible refine Kept.setCell ?_ (by rfl) _
          ·have hfin:=((HRow.out.set_ 2 (vs [c])).set_ 3 (vs [c])).set_ 1 (.int .i64 (p+1:Nat))
           rw[show((p+1:Nat):Int)=(p:Int)+1 from by omega]at hfin
           exact Row.of_heap hfin (by(simp only[drewN_setCell,drew_setCell,World.heap_drewN,heap_drew];try with_reducible rfl))
        |false=>
         as_aux_lemma=>
          have HL:=Lib.hid (Hlx.out _ _ (Hno.out hfig hpun))
          rw[hpun]at hpi
          have hp2:ibPunct c<0:=by have:=of_decide_eq_false hpi;omega
          clear hfig hpun hpi
          go_wp2_with (go_at_call 68;refine(ibPunct_call c _).mono ?_;rintro e w' ⟨rfl,rfl⟩)
          refine bodyPost_ret (results_none rfl _ _ _) rfl ?_
          rw[HL.out]
          exact⟨rfl,HK.out,HRow.out⟩
end Go.Proofs.YtepoejiigmhlbaaGreatDoor.Ev
