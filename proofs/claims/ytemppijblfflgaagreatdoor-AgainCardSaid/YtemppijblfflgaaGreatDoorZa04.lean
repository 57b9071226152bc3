/- Parts of a proof that a law's walk returns true. Conditions: none. -/
import Derived.Test.YtemppijblfflgaaGreatDoorZa00
import Derived.Test.YtemppijblfflgaaGreatDoorZa02
set_option linter.all false
set_option maxRecDepth 100000
set_option maxHeartbeats 8000000
namespace Go.Proofs.YtemppijblfflgaaGreatDoor.Ev
open Go Go.RowKit
def Qv (c:UInt8):Int:=Lib.indexByte [32,10] c
def Qt (c:UInt8):Int:=Lib.indexByte [59,123,125,60] c
theorem Qu (c:UInt8) (w:World):Calls Tryz.prog 116 #[.string ⟨#[32,10]⟩,.int .u8 c.toNat] w fun e w'=>e= .returned (.int .i64 (Qv c))∧w'=w:=by
 have h:=Tryz.strings_IndexByte ⟨#[32,10]⟩ (c.toNat:Int) w
 simp at h
 exact h
theorem Qs (c:UInt8) (w:World):Calls Tryz.prog 116 #[.string ⟨#[59,123,125,60]⟩,.int .u8 c.toNat] w fun e w'=>e= .returned (.int .i64 (Qt c))∧w'=w:=by
 have h:=Tryz.strings_IndexByte ⟨#[59,123,125,60]⟩ (c.toNat:Int) w
 simp at h
 exact h
theorem i9 (c:UInt8):decide (0≤Qv c)=blank c:=by
 unfold blank Qv
 by_cases h1:c=32
 ·subst h1;rfl
 ·by_cases h2:c=10
  ·subst h2;rfl
  ·have e1:((32:UInt8)==c)=false:=by simpa using fun e=>h1 e.symm
   have e2:((10:UInt8)==c)=false:=by simpa using fun e=>h2 e.symm
   simp[Lib.indexByte,e1,e2,h1,h2]
theorem AV {w:World} {g gp:Nat} {wp:Value} {s:Ae} {st:PS} (h:AM w g 172 (Dq s st gp wp)):
  w.cell? ⟨g,0,none⟩=some (vs s)∧w.cell? ⟨g,1,none⟩=some (.int .i64 st.i)∧w.cell? ⟨g,2,none⟩=some (vs st.t.kind)∧w.cell? ⟨g,3,none⟩=some (vs st.t.text)∧w.cell? ⟨g,4,none⟩=some (.int .i64 st.t.pos)∧
  w.cell? ⟨g,5,none⟩=some (.pointer (some ⟨gp,0,none⟩))∧w.cell? ⟨g,6,none⟩=some (.bool st.fseen)∧w.cell? ⟨g,7,none⟩=some (.int .i64 st.depth)∧w.cell? ⟨g,8,none⟩=some (.int .i64 st.loops)∧w.cell? ⟨g,9,none⟩=some wp:=
 ⟨h.cell 0,h.cell 1,h.cell 2,h.cell 3,h.cell 4,h.cell 5,h.cell 6,h.cell 7,h.cell 8,h.cell 9⟩
theorem Aci {w:World} {g gp:Nat} {wp:Value} {s:Ae} {st:PS} (h:AM w g 172 (Dq s st gp wp)) (i:Nat):
  AM (w.setCell ⟨g,1,none⟩ (.int .i64 i)) g 172 (Dq s {st with i:=i} gp wp):=h.set_ 1 _
theorem NI {s:Ae} {i:Nat} {c:UInt8} (h:s[i]?=some c):∃hi:i<(ByteArray.mk s.toArray).size,(ByteArray.mk s.toArray)[i]=c:=by
 obtain⟨hi,hc⟩:=Ap.1 h
 exact⟨by rw[At];exact hi,by rw[←hc];rfl⟩
theorem gW (c:UInt8):decide (0≤Qt c)=FJ c:=by
 unfold FJ Qt
 by_cases h1:c=59
 ·subst h1;rfl
 ·by_cases h2:c=123
  ·subst h2;rfl
  ·by_cases h3:c=125
   ·subst h3;rfl
   ·by_cases h4:c=60
    ·subst h4;rfl
    ·have e1:((59:UInt8)==c)=false:=by simpa using fun e=>h1 e.symm
     have e2:((123:UInt8)==c)=false:=by simpa using fun e=>h2 e.symm
     have e3:((125:UInt8)==c)=false:=by simpa using fun e=>h3 e.symm
     have e4:((60:UInt8)==c)=false:=by simpa using fun e=>h4 e.symm
     simp[Lib.indexByte,e1,e2,e3,e4,h1,h2,h3,h4]
theorem p7 (x:Ae) (w:World) (CV:∀j,j<24→w.cell? ⟨14,j,none⟩=some (vs (AQ.getD j []))):
  Calls Tryz.prog 117 #[.slice (some ⟨14,0,none⟩) 24 24,.string ⟨x.toArray⟩] w fun e w'=>e= .returned (.bool (AQ.contains x))∧w'=w:=by
 have h:=Tryz.slices_Contains_string 14 0 24 24 (AQ.map fun k=>⟨k.toArray⟩) ⟨x.toArray⟩ w (by decide) (by decide) (fun j hj=>by
  have Mx:j<24:=hj
  rw[FA,CV j Mx]
  unfold vs
  congr 2
  simp only[List.getD_eq_getElem?_getD,Az]
  have:j<AQ.length:=Mx
  rw[Ah this]
  rfl)
 have e:Lib.containsS ((AQ.map fun k=>(⟨k.toArray⟩:ByteArray)).take 24) ⟨x.toArray⟩=AQ.contains x:=by
  rw[Ka,Lib.containsS_iff,Cn]
  have hlen:(AQ.map fun k=>(⟨k.toArray⟩:ByteArray)).length=24:=rfl
  rw[List.take_of_length_le (by rw[hlen];exact Ab _),AT]
  constructor
  ·rintro⟨k,hk,he⟩
   have:k=x:=by
    have h1:=AL (fun b:ByteArray=>b.data.toList) he
    simpa using h1
   exact this▸hk
  ·intro hx
   exact⟨x,hx,rfl⟩
 rw[e]at h
 exact h
theorem RA (c:UInt8):(low c=true∧(97:Int)≤(c.toNat:Int)∧(c.toNat:Int)≤122)∨(low c=false∧(c.toNat:Int)<97)∨(low c=false∧(97:Int)≤(c.toNat:Int)∧(122:Int)<(c.toNat:Int)):=by
 unfold low
 simp only[C3,Dc,CC,U7,RN]
 have h1:(97:UInt8).toNat=97:=rfl
 have h2:(122:UInt8).toNat=122:=rfl
 omega
theorem RK (c:UInt8):(E6 c=true∧(48:Int)≤(c.toNat:Int)∧(c.toNat:Int)≤57)∨(E6 c=false∧(c.toNat:Int)<48)∨(E6 c=false∧(48:Int)≤(c.toNat:Int)∧(57:Int)<(c.toNat:Int)):=by
 unfold E6
 simp only[C3,Dc,CC,U7,RN]
 have h1:(48:UInt8).toNat=48:=rfl
 have h2:(57:UInt8).toNat=57:=rfl
 omega
theorem W9 {S:Nat→Prop} {w w':World} (h:∀j,j<24→w.cell? ⟨14,j,none⟩=some (vs (AQ.getD j []))) (hk:Af S w w') (hS:¬S 14):
  ∀j,j<24→w'.cell? ⟨14,j,none⟩=some (vs (AQ.getD j [])):=fun j hj=>(hk.cell (p:=⟨14,j,none⟩) hS).trans (h j hj)
theorem Gv (s:Ae) (i k:Nat):(ByteArray.mk s.toArray).extract i k=⟨(CT s i k).toArray⟩:=by
 have h:((ByteArray.mk s.toArray).extract i k).data=(CT s i k).toArray:=by
  simp[ByteArray.data_extract,CT,List.extract_eq_take_drop,VQ]
 cases hx:(ByteArray.mk s.toArray).extract i k with
 |mk d=>rw[hx]at h;simp only at h;rw[h]
theorem AM.of_heap {w w':World} {g:Nat} {t:TypeId} {cs:List Value} (h:AM w g t cs) (hh:w'.heap=w.heap):AM w' g t cs:=by
 unfold AM at h ⊢
 rw[hh]
 exact h
theorem pY {s:Ae} {i:Nat} (h:s[skip blank s i]?=none):D6 s i=(⟨DJ,[],skip blank s i⟩,skip blank s i):=by
 unfold D6;simp only[h]
theorem pW {s:Ae} {i:Nat} {c:UInt8} (h:s[skip blank s i]?=some c) (hc:low c=true):D6 s i=
  if 8<skip low s (skip blank s i)-skip blank s i then(⟨Bu,[],skip blank s i⟩,skip blank s i)
  else(⟨if AQ.contains (CT s (skip blank s i) (skip low s (skip blank s i)))then CT s (skip blank s i) (skip low s (skip blank s i))else BG,CT s (skip blank s i) (skip low s (skip blank s i)),skip blank s i⟩,skip low s (skip blank s i)):=by
 unfold D6;simp only[h,hc,A0]
theorem pX {s:Ae} {i:Nat} {c:UInt8} (h:s[skip blank s i]?=some c) (hl:low c=false) (hc:E6 c=true):D6 s i=
  if 3<skip E6 s (skip blank s i)-skip blank s i then(⟨Bu,[],skip blank s i⟩,skip blank s i)
  else(⟨Bc,CT s (skip blank s i) (skip E6 s (skip blank s i)),skip blank s i⟩,skip E6 s (skip blank s i)):=by
 unfold D6;simp only[h,hc,hl,A0,An,A1]
theorem ie {s:Ae} {i:Nat} {c:UInt8} (h:s[skip blank s i]?=some c) (hl:low c=false) (hf:E6 c=false) (hc:FJ c=true):
  D6 s i=(⟨[c],[c],skip blank s i⟩,skip blank s i+1):=by
 unfold D6;simp only[h,hc,hl,hf,A0,An,A1]
theorem lJ {s:Ae} {i:Nat} {c:UInt8} (h:s[skip blank s i]?=some c) (hl:low c=false) (hf:E6 c=false) (hc:FJ c=false):
  D6 s i=(⟨Bu,[],skip blank s i⟩,skip blank s i):=by
 unfold D6;simp only[h,hc,hl,hf,An,A1]
theorem pR {s:Ae} {st:PS} {t:Mc} {k:Nat} (h:D6 s st.i=(t,k)):next s st={st with t:=t,i:=k}:=by
 unfold next;rw[h]
theorem lx (g gp:Nat) (wp:Value) (s:Ae) (st:PS) (w:World) (CV:∀j,j<24→w.cell? ⟨14,j,none⟩=some (vs (AQ.getD j []))) (Vy:14≠g) (hs:s.length≤1000000) (hi:st.i≤s.length) (hr:AM w g 172 (Dq s st gp wp)):
  Calls Tryz.prog 73 #[.pointer (some ⟨g,0,none⟩)] w fun e w'=>e= .returned (.tuple #[])∧Af (fun b=>b=g) w w'∧AM w' g 172 (Dq s (next s st) gp wp):=by
 have HR:=Aa hr
 have PU:=Aa CV
 have HGK:=Aa Vy
 clear hr CV Vy
 go_enter Tryz.func73,Tryz.ntmps73
 go_upto_block 0 with fail
 go_cut [] (fun wx=>Af (fun b=>b=g) w wx∧AM wx g 172 (Dq s {st with i:=skip blank s st.i} gp wp))
 case first=>
  as_aux_lemma=>
   go_wp2_with fail
   go_loopg [] (s.length-st.i) (fun k wr=>∃i,k=s.length-i∧st.i≤i∧i≤s.length∧skip blank s i=skip blank s st.i∧Af (fun b=>b=g) w wr∧AM wr g 172 (Dq s {st with i:=i} gp wp))
   case atStart=>exact⟨st.i,rfl,Ab _,hi,rfl,Af.refl _ _,HR.out⟩
   case round=>
    obtain⟨i,hk,qy,hi2,Vb,Nh,BQ⟩:=hrel
    obtain⟨c0,c1,_⟩:=AV BQ
    have f:=fun j=>BQ.frozen j
    have HK:=Aa hk
    have HSK:=Aa Vb
    have HKP:=Aa Nh
    have Hd:=Aa BQ
    clear hk Vb Nh BQ
    unfold vs at c0
    by_cases Cy:i<s.length
    ·obtain⟨c,hc⟩:∃c,s[i]?=some c:=⟨_,Ah Cy⟩
     obtain⟨hx,XT⟩:=NI hc
     have hb:=i9 c
     have CP:=Ks blank s i c hc
     have Fw:=At s
     have _Y:=Aa CP
     clear CP hc
     by_cases OH:blank c
     ·rw[OH]at hb
      have Hy:0≤Qv c:=GA hb
      clear hb
      go_wp2_with fail
      go_quiet ((go_at_call 116;exact Ep (Qu c _)))
      go_wp2
      go_roundg (s.length-(i+1))
      case measure=>have:=HK.out;omega
      case rel=>
       have h1:=Aci (Hd.out.drewN nq) (i+1)
       rw[show((i+1:Nat):Int)=(i:Int)+1 from by omega]at h1
       refine⟨i+1,rfl,by omega,by omega,?_,(HKP.out.drewN nq).setCell rfl _,h1⟩
       have h2:=_Y.out
       rw[Ak OH,HSK.out]at h2
       exact h2.symm
     ·have Hy:Qv c<0:=by
       simp only[Sg]at OH
       rw[OH]at hb
       have:=ON hb
       omega
      clear hb
      go_wp2_with fail
      go_quiet ((go_at_call 116;exact Ep (Qu c _)))
      go_wp2
      go_meet
      have h2:=_Y.out
      rw[Ad OH,HSK.out]at h2
      rw[h2]
      exact⟨HKP.out.drewN _,Hd.out.drewN _⟩
    ·have hle:i=s.length:=by omega
     have Vu:=Ml blank s i (by simp;omega)
     rw[HSK.out]at Vu
     have od:=Aa Vu
     have Hle:=Aa hle
     clear Vu hle
     have Fw:=At s
     have hd:decide ((i:Int)<(s.length:Int))=false:=by simp;omega
     go_wp2_with fail
     go_quiet (fail)
     go_wp2
     go_meet
     rw[od.out]
     exact⟨HKP.out.drewN _,Hd.out.drewN _⟩
 case rest=>
  obtain⟨hk,BQ⟩:=hcut
  obtain⟨hp1,Ti⟩:=LD blank s st.i hi
  have zv:(∀t k,D6 s st.i=(t,k)→next s st={st with t:=t,i:=k}):=fun t k h=>pR h
  have wJ:=Aa zv
  have aE:s[skip blank s st.i]?=none∨∃c,s[skip blank s st.i]?=some c:=by
   cases s[skip blank s st.i]? with
   |none=>exact .inl rfl
   |some c=>exact .inr ⟨c,rfl⟩
  have Hcs:=Aa aE
  have HK:=Aa hk
  clear zv aE hk
  obtain⟨c0,c1,c2,c3,c4,_⟩:=AV BQ
  have f:=fun j=>BQ.frozen j
  have h3:=((BQ.set_ 2 (vs Bu)).set_ 3 (vs [])).set_ 4 (.int .i64 (skip blank s st.i:Nat))
  have H3:Hid (AM (((wc.setCell ⟨g,2,none⟩ (vs Bu)).setCell ⟨g,3,none⟩ (vs [])).setCell ⟨g,4,none⟩ (.int .i64 (skip blank s st.i:Nat))) g 172 (Dq s {st with i:=skip blank s st.i,t:=⟨Bu,[],skip blank s st.i⟩} gp wp)):=h3
  clear h3 BQ
  unfold vs at c0
  go_upto_region 2 with fail
  go_cut [] (fun wx=>Af (fun b=>b=g) w wx∧AM wx g 172 (Dq s {st with i:=skip blank s st.i,t:=⟨Bu,[],skip blank s st.i⟩} gp wp))
  case first=>
   go_wp2
   go_meet
   exact⟨((HK.out.setCell rfl _).setCell rfl _).setCell rfl _,H3.out⟩
  case rest=>
   clear c0 c1 c2 c3 c4 f HK H3
   obtain⟨hk,BQ⟩:=hcut
   obtain⟨c0,c1,c2,c3,c4,_⟩:=AV BQ
   have f:=fun j=>BQ.frozen j
   have HK:=Aa hk
   have Hd:=Aa BQ
   clear hk BQ
   have Fw:=At s
   unfold vs at c0
   simp only at c0 c1 c2 c3 c4
   rcases Hcs.out with Vv|⟨c,hc⟩
   ·have zv:=wJ.out _ _ (pY Vv)
    have HL:=Aa zv
    have SW:skip blank s st.i=s.length:=by
     have:s.length≤skip blank s st.i:=by simpa using Vv
     omega
    generalize skip blank s st.i=p at*
    subst SW
    clear Vv zv
    go_wp2_with fail
    go_quiet (fail)
    go_wp2
    refine Av (Cl rfl _ _ _) rfl ?_
    rw[HL.out]
    exact⟨rfl,(HK.out.drewN _).setCell rfl _,(Hd.out.drewN _).set_ 2 (vs DJ)⟩
   ·have qq:skip blank s st.i<s.length:=by
     rcases BP (skip blank s st.i) s.length with h|h
     ·exact h
     ·rw[Bq h]at hc;cases hc
    obtain⟨hx,XT⟩:=NI hc
    have Cu:((skip blank s st.i:Int)==(s.length:Int))=false:=by simp;omega
    cases K8:low c with
    |true=>
     have J6:(97:Int)≤(c.toNat:Int)∧(c.toNat:Int)≤122:=by
      unfold low at K8
      simp only[C3,Dc,CC]at K8
      have h1:(97:UInt8).toNat=97:=rfl
      have h2:(122:UInt8).toNat=122:=rfl
      omega
     obtain⟨J6,Ik⟩:=J6
     have _X:=Aa (pW hc K8)
     obtain⟨Bi,A4⟩:=LD low s (skip blank s st.i) (by omega)
     clear K8 hc
     generalize skip blank s st.i=p at*
     go_wp2_with fail
     go_quiet (fail)
     go_upto_block 3 with fail
     go_cut [2] (fun s2 wx=>s2= .int .i64 (skip low s p:Nat)∧Af (fun b=>b=g) w wx∧AM wx g 172 (Dq s {st with i:=p,t:=⟨Bu,[],p⟩} gp wp))
     case first=>
      as_aux_lemma=>
       go_wp2_with fail
       go_loopg [2] (s.length-p) (fun k s2 wr=>∃i:Nat,k=s.length-i∧p≤i∧i≤s.length∧s2= .int .i64 i∧skip low s i=skip low s p∧Af (fun b=>b=g) w wr∧AM wr g 172 (Dq s {st with i:=p,t:=⟨Bu,[],p⟩} gp wp))
       case atStart=>exact⟨p,rfl,Ab _,by omega,rfl,rfl,HK.out.drewN _,Hd.out.drewN _⟩
       case round=>
        clear c0 c1 c2 c3 c4 f HK Hd
        obtain⟨i,Vy,qy,hi2,rfl,Vb,hk,BQ⟩:=hrel
        obtain⟨c0,c1,c2,c3,c4,_⟩:=AV BQ
        have HK:=Aa hk
        have Hd:=Aa BQ
        have j6:=Aa Vy
        have XK:=Aa Vb
        clear hk BQ Vy Vb
        unfold vs at c0
        simp only at c0 c1 c2 c3 c4
        by_cases Cy:i<s.length
        ·obtain⟨d,hd⟩:∃d,s[i]?=some d:=⟨_,Ah Cy⟩
         obtain⟨hy,hyd⟩:=NI hd
         have fc:=Aa (Ks low s i d hd)
         clear hd
         rcases RA d with⟨hl,l1,l2⟩|⟨hl,l1⟩|⟨hl,l1,l2⟩
         ·have Hl:=Aa hl
          clear hl
          go_wp2
          go_roundg (s.length-(i+1))
          case measure=>have:=j6.out;omega
          case rel=>
           have h2:=fc.out
           rw[Ak Hl.out,XK.out]at h2
           exact⟨i+1,rfl,by omega,by omega,by go_num,h2.symm,HK.out,Hd.out⟩
         all_goals
          have Hl:=Aa hl
          clear hl
          go_wp2
          go_meet
          have h2:=fc.out
          rw[Hl.out,Ad (by decide),XK.out]at h2
          rw[h2]
          exact⟨rfl,HK.out,Hd.out⟩
        ·have hle:i=s.length:=by omega
         have od:=Aa (Ml low s i (by simp;omega))
         have Hle:=Aa hle
         clear hle
         go_wp2
         go_meet
         have h2:=od.out
         rw[XK.out]at h2
         rw[h2]
         exact⟨rfl,HK.out,Hd.out⟩
     case rest=>
      clear c0 c1 c2 c3 c4 f HK Hd
      obtain⟨rfl,hk,BQ⟩:=hcut
      obtain⟨c0,c1,c2,c3,c4,_⟩:=AV BQ
      have f:=fun j=>BQ.frozen j
      have HK:=Aa hk
      have Hd:=Aa BQ
      clear hk BQ
      unfold vs at c0
      simp only at c0 c1 c2 c3 c4
      have mC:=Gv s p (skip low s p)
      generalize hE:skip low s p=e at*
      clear hE
      by_cases h8:8<e-p
      ·have jO:(8:Int)<(e:Int)-(p:Int):=by omega
       have hl:=_X.out
       rw[Ak h8]at hl
       have HL:=Aa (wJ.out _ _ hl)
       clear hl h8
       go_wp2
       refine Av (Cl rfl _ _ _) rfl ?_
       rw[HL.out]
       exact⟨rfl,HK.out,Hd.out⟩
      ·have jO:(e:Int)-(p:Int)≤8:=by omega
       have hl:=_X.out
       rw[Ad h8]at hl
       have HL:=Aa (wJ.out _ _ hl)
       clear hl h8
       generalize hW:CT s p e=word at*
       clear hW
       have hkc:=p7 word
       have HKC:=Aa hkc
       clear hkc
       cases zY:AQ.contains word with
       |true=>
        as_aux_lemma=>
         rw[zY]at HL HKC
         go_wp2_with fail
         go_quiet ((go_at_call 117;exact Ep (HKC.out _ (W9 PU.out ((HK.out.setCell rfl _).drewN _) HGK.out))))
         go_wp2_with fail
         (refine DM 14 (by kernel_rfl) (by kernel_rfl) ?_;simp only[Aw,AO,Ax,AK];repeat still_step);refine Cf ?_
         go_wp2
         (refine DM 14 (by kernel_rfl) (by kernel_rfl) ?_;simp only[Aw,AO,Ax,AK];repeat still_step);refine Cf ?_
         go_wp2
         go_end0
         rw[HL.out]
         refine⟨rfl,?_,?_⟩
         ·repeat' first|with_reducible exact HK.out|with_reducible refine Af.drewN ?_ _|with_reducible refine Af.drew ?_|with_reducible refine Af.setCell ?_ (by rfl) _
         ·have A6:=(((Hd.out.set_ 2 (vs BG)).set_ 2 (vs word)).set_ 3 (vs word)).set_ 1 (.int .i64 e)
          exact AM.of_heap A6 (by(simp only[CX,Dr,C1,Ho];try with_reducible rfl))
       |false=>
        as_aux_lemma=>
         rw[zY]at HL HKC
         go_wp2_with fail
         go_quiet ((go_at_call 117;exact Ep (HKC.out _ (W9 PU.out ((HK.out.setCell rfl _).drewN _) HGK.out))))
         go_wp2_with fail
         (refine DM 14 (by kernel_rfl) (by kernel_rfl) ?_;simp only[Aw,AO,Ax,AK];repeat still_step);refine Cf ?_
         go_wp2
         go_end0
         rw[HL.out]
         refine⟨rfl,?_,?_⟩
         ·repeat' first|with_reducible exact HK.out|with_reducible refine Af.drewN ?_ _|with_reducible refine Af.drew ?_|with_reducible refine Af.setCell ?_ (by rfl) _
         ·have A6:=((Hd.out.set_ 2 (vs BG)).set_ 3 (vs word)).set_ 1 (.int .i64 e)
          exact AM.of_heap A6 (by(simp only[CX,Dr,C1,Ho];try with_reducible rfl))
    |false=>
     have Afq:=Aa K8
     have eO:=RA c
     have hfc:=RK c
     have Adq:skip blank s st.i≤s.length:=by omega
     have wI:=Aa (fun(hf:E6 c=true)=>pX hc K8 hf)
     have Hpu:=Aa (fun(hf:E6 c=false) (hp:FJ c=true)=>ie hc K8 hf hp)
     have Hno:=Aa (fun(hf:E6 c=false) (hp:FJ c=false)=>lJ hc K8 hf hp)
     obtain⟨Bi,A4⟩:=LD E6 s (skip blank s st.i) Adq
     have qr:CT s (skip blank s st.i) (skip blank s st.i+1)=[c]:=by
      unfold CT
      rw[VQ,Dj]
      have h0:=Ah qq
      rw[hc]at h0
      injection h0 with h0
      rw[Gt qq,←h0]
      rfl
     have vU:=Gv s (skip blank s st.i) (skip blank s st.i+1)
     rw[qr]at vU
     have Afs:=Aa vU
     have Hlc:=Aa eO
     have Hfc:=Aa hfc
     clear K8 hc eO hfc qr vU
     generalize skip blank s st.i=p at*
     go_wp2_with fail
     go_quiet (fail)
     go_upto_region 7 with fail
     go_cut [66] (fun x wx=>x= .bool false∧Af (fun b=>b=g) w wx∧AM wx g 172 (Dq s {st with i:=p,t:=⟨Bu,[],p⟩} gp wp))
     case first=>
      rcases Hlc.out with⟨h,_⟩|⟨_,h1⟩|⟨_,h1,h2⟩
      ·rw[Afq.out]at h;cases h
      ·go_wp2
       go_meet
       exact⟨rfl,HK.out.drewN _,Hd.out.drewN _⟩
      ·go_wp2
       go_meet
       exact⟨by rw[IA (by omega)],HK.out.drewN _,Hd.out.drewN _⟩
     case rest=>
      clear c0 c1 c2 c3 c4 f HK Hd
      obtain⟨rfl,hk,BQ⟩:=hcut
      obtain⟨c0,c1,c2,c3,c4,_⟩:=AV BQ
      have f:=fun j=>BQ.frozen j
      have HK:=Aa hk
      have Hd:=Aa BQ
      clear hk BQ
      unfold vs at c0
      simp only at c0 c1 c2 c3 c4
      go_upto_region 14 with fail
      go_cut [137] (fun x wx=>x= .bool (E6 c)∧Af (fun b=>b=g) w wx∧AM wx g 172 (Dq s {st with i:=p,t:=⟨Bu,[],p⟩} gp wp))
      case first=>
       rcases Hfc.out with⟨h,h1,h2⟩|⟨h,h1⟩|⟨h,h1,h2⟩
       all_goals
        have Hfg:=Aa h
        clear h
        go_wp2
        go_meet
        rw[Hfg.out]
        refine⟨?_,HK.out,Hd.out⟩
        first|with_reducible rfl|rw[IA (by omega)]
      case rest=>
       clear c0 c1 c2 c3 c4 f HK Hd
       obtain⟨rfl,hk,BQ⟩:=hcut
       obtain⟨c0,c1,c2,c3,c4,_⟩:=AV BQ
       have f:=fun j=>BQ.frozen j
       have HK:=Aa hk
       have Hd:=Aa BQ
       clear hk BQ
       unfold vs at c0
       simp only at c0 c1 c2 c3 c4
       cases PA:E6 c with
       |true=>
        have _X:=Aa (wI.out PA)
        clear PA
        go_upto_block 5 with fail
        go_cut [2] (fun s2 wx=>s2= .int .i64 (skip E6 s p:Nat)∧Af (fun b=>b=g) w wx∧AM wx g 172 (Dq s {st with i:=p,t:=⟨Bu,[],p⟩} gp wp))
        case first=>
         as_aux_lemma=>
          go_wp2_with fail
          go_loopg [2] (s.length-p) (fun k s2 wr=>∃i:Nat,k=s.length-i∧p≤i∧i≤s.length∧s2= .int .i64 i∧skip E6 s i=skip E6 s p∧Af (fun b=>b=g) w wr∧AM wr g 172 (Dq s {st with i:=p,t:=⟨Bu,[],p⟩} gp wp))
          case atStart=>exact⟨p,rfl,Ab _,by omega,rfl,rfl,HK.out,Hd.out⟩
          case round=>
           clear c0 c1 c2 c3 c4 f HK Hd
           obtain⟨i,Vy,qy,hi2,rfl,Vb,hk,BQ⟩:=hrel
           obtain⟨c0,c1,c2,c3,c4,_⟩:=AV BQ
           have HK:=Aa hk
           have Hd:=Aa BQ
           have j6:=Aa Vy
           have XK:=Aa Vb
           clear hk BQ Vy Vb
           unfold vs at c0
           simp only at c0 c1 c2 c3 c4
           by_cases Cy:i<s.length
           ·obtain⟨d,hd⟩:∃d,s[i]?=some d:=⟨_,Ah Cy⟩
            obtain⟨hy,hyd⟩:=NI hd
            have fc:=Aa (Ks E6 s i d hd)
            clear hd
            rcases RK d with⟨hl,l1,l2⟩|⟨hl,l1⟩|⟨hl,l1,l2⟩
            ·have Hl:=Aa hl
             clear hl
             go_wp2
             go_roundg (s.length-(i+1))
             case measure=>have:=j6.out;omega
             case rel=>
              have h2:=fc.out
              rw[Ak Hl.out,XK.out]at h2
              exact⟨i+1,rfl,by omega,by omega,by go_num,h2.symm,HK.out,Hd.out⟩
            all_goals
             have Hl:=Aa hl
             clear hl
             go_wp2
             go_meet
             have h2:=fc.out
             rw[Hl.out,Ad (by decide),XK.out]at h2
             rw[h2]
             exact⟨rfl,HK.out,Hd.out⟩
           ·have hle:i=s.length:=by omega
            have od:=Aa (Ml E6 s i (by simp;omega))
            have Hle:=Aa hle
            clear hle
            go_wp2
            go_meet
            have h2:=od.out
            rw[XK.out]at h2
            rw[h2]
            exact⟨rfl,HK.out,Hd.out⟩
        case rest=>
         as_aux_lemma=>
          clear c0 c1 c2 c3 c4 f HK Hd
          obtain⟨rfl,hk,BQ⟩:=hcut
          obtain⟨c0,c1,c2,c3,c4,_⟩:=AV BQ
          have f:=fun j=>BQ.frozen j
          have HK:=Aa hk
          have Hd:=Aa BQ
          clear hk BQ
          unfold vs at c0
          simp only at c0 c1 c2 c3 c4
          have mC:=Gv s p (skip E6 s p)
          generalize hE:skip E6 s p=e at*
          clear hE
          by_cases h8:3<e-p
          ·have jO:(3:Int)<(e:Int)-(p:Int):=by omega
           have hl:=_X.out
           rw[Ak h8]at hl
           have HL:=Aa (wJ.out _ _ hl)
           clear hl h8
           go_wp2
           refine Av (Cl rfl _ _ _) rfl ?_
           rw[HL.out]
           exact⟨rfl,HK.out,Hd.out⟩
          ·have jO:(e:Int)-(p:Int)≤3:=by omega
           have hl:=_X.out
           rw[Ad h8]at hl
           have HL:=Aa (wJ.out _ _ hl)
           clear hl h8
           generalize hW:CT s p e=word at*
           clear hW
           go_wp2_with fail
           (refine DM 14 (by kernel_rfl) (by kernel_rfl) ?_;simp only[Aw,AO,Ax,AK];repeat still_step);refine Cf ?_
           go_wp2
           go_end0
           rw[HL.out]
           refine⟨rfl,?_,?_⟩
           ·repeat' first|with_reducible exact HK.out|with_reducible refine Af.drewN ?_ _|with_reducible refine Af.drew ?_|with_reducible refine Af.setCell ?_ (by rfl) _
           ·have A6:=((Hd.out.set_ 2 (vs Bc)).set_ 3 (vs word)).set_ 1 (.int .i64 e)
            exact AM.of_heap A6 (by(simp only[CX,Dr,C1,Ho];try with_reducible rfl))
       |false=>
        have xC:=gW c
        have mC:=Afs.out
        have y8:(p:Int)+1≤(s.length:Int):=by omega
        have Adi:(p:Int)≤(p:Int)+1:=by omega
        cases iC:FJ c with
        |true=>
         as_aux_lemma=>
          have HL:=Aa (wJ.out _ _ (Hpu.out PA iC))
          rw[iC]at xC
          have Ti:0≤Qt c:=GA xC
          clear PA iC xC
          go_wp2_with (go_at_call 116;refine(Qs c _).mono ?_;rintro e w' ⟨rfl,rfl⟩)
          (refine DM 14 (by kernel_rfl) (by kernel_rfl) ?_;simp only[Aw,AO,Ax,AK];repeat still_step);refine Cf ?_
          go_wp2
          (refine DM 14 (by kernel_rfl) (by kernel_rfl) ?_;simp only[Aw,AO,Ax,AK];repeat still_step);refine Cf ?_
          go_wp2
          go_end0
          rw[HL.out]
          refine⟨rfl,?_,?_⟩
          ·repeat' first|with_reducible exact HK.out|with_reducible refine Af.drewN ?_ _|with_reducible refine Af.drew ?_|with_reducible refine Af.setCell ?_ (by rfl) _
          ·have A6:=((Hd.out.set_ 2 (vs [c])).set_ 3 (vs [c])).set_ 1 (.int .i64 (p+1:Nat))
           rw[show((p+1:Nat):Int)=(p:Int)+1 from by omega]at A6
           exact AM.of_heap A6 (by(simp only[CX,Dr,C1,Ho];try with_reducible rfl))
        |false=>
         as_aux_lemma=>
          have HL:=Aa (wJ.out _ _ (Hno.out PA iC))
          rw[iC]at xC
          have Ti:Qt c<0:=by have:=ON xC;omega
          clear PA iC xC
          go_wp2_with (go_at_call 116;refine(Qs c _).mono ?_;rintro e w' ⟨rfl,rfl⟩)
          refine Av (Cl rfl _ _ _) rfl ?_
          rw[HL.out]
          exact⟨rfl,HK.out,Hd.out⟩
end Go.Proofs.YtemppijblfflgaaGreatDoor.Ev
