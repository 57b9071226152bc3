/- Parts of a proof that a law's walk returns true. Conditions: none. -/
import Derived.Test.YtemppijblfflgaaGreatDoorZa00
import Derived.Test.YtemppijblfflgaaGreatDoorZa01
import Derived.Test.YtemppijblfflgaaGreatDoorZa02
import Derived.Test.YtemppijblfflgaaGreatDoorZa04
import Derived.Test.YtemppijblfflgaaGreatDoorZa10
import Derived.Test.YtemppijblfflgaaGreatDoorZa15
import Derived.Test.YtemppijblfflgaaGreatDoorZa17
import Derived.Test.YtemppijblfflgaaGreatDoorZa18
set_option linter.all false
set_option maxRecDepth 100000
set_option maxHeartbeats 8000000
namespace Go.Proofs.YtemppijblfflgaaGreatDoor.Ev
open Go Go.RowKit
structure PH (w:World) (gw:Nat×Nat):Prop where
 head:w.cell? ⟨3,0,none⟩=some (.slice (some ⟨gw.1,gw.2,none⟩) 24 24)
 at_:∀j,j<24→w.cell? ⟨gw.1,gw.2+j,none⟩=some (vs (AQ.getD j []))
 lt:3<w.heap.size∧gw.1<w.heap.size
theorem PH.kept {w w':World} {gw:Nat×Nat} (h:PH w gw) (hk:Af (fun b=>w.heap.size≤b) w w'):PH w' gw:=
 ⟨(hk.cell (p:=⟨3,0,none⟩) (by have:=h.lt.1;simp only;omega)).trans h.head,fun j hj=>(hk.cell (p:=⟨gw.1,gw.2+j,none⟩) (by have:=h.lt.2;simp only;omega)).trans (h.at_ j hj),AD h.lt.1 hk.size,AD h.lt.2 hk.size⟩
theorem lZ:(Tryz.prog.info? 127).map (fun i=>(i.zero,i.size,i.bytes))=some (some (.agg #[vs [],vs [],.int .i64 0]),3,40):=by kernel_rfl
section
variable {w:World}
theorem T3 (c:UInt8):Calls Tryz.prog 84 #[.int .u8 c.toNat] w fun e w'=>e= .returned (.bool (low c))∧w'=w:=by
 rcases RA c with⟨hl,l1,l2⟩|⟨hl,l1⟩|⟨hl,l1,l2⟩
 ·rw[hl]
  clear hl
  go_enter Tryz.func84,Tryz.ntmps84
  go_wp2
  go_ret
  exact⟨rfl,rfl⟩
 ·rw[hl]
  clear hl
  go_enter Tryz.func84,Tryz.ntmps84
  go_wp2
  go_ret
  exact⟨rfl,rfl⟩
 ·rw[hl]
  have e1:decide ((c.toNat:Int)≤122)=false:=by simp;omega
  clear hl
  go_enter Tryz.func84,Tryz.ntmps84
  go_wp2
  go_ret
  exact⟨rfl,rfl⟩
theorem YO (c:UInt8):Calls Tryz.prog 85 #[.int .u8 c.toNat] w fun e w'=>e= .returned (.bool (E6 c))∧w'=w:=by
 rcases RK c with⟨hl,l1,l2⟩|⟨hl,l1⟩|⟨hl,l1,l2⟩
 ·rw[hl]
  clear hl
  go_enter Tryz.func85,Tryz.ntmps85
  go_wp2
  go_ret
  exact⟨rfl,rfl⟩
 ·rw[hl]
  clear hl
  go_enter Tryz.func85,Tryz.ntmps85
  go_wp2
  go_ret
  exact⟨rfl,rfl⟩
 ·rw[hl]
  have e1:decide ((c.toNat:Int)≤57)=false:=by simp;omega
  clear hl
  go_enter Tryz.func85,Tryz.ntmps85
  go_wp2
  go_ret
  exact⟨rfl,rfl⟩
end
structure TL (w wr:World) (s:Ae) (m i:Nat) (done:List CB) (a:Option Addr) (n c:Nat):Prop where
 kept:Af (fun b=>w.heap.size≤b) w wr
 nn:n=done.length
 sl:Sl (fun b=>w.heap.size≤b) wr 127 3 (.slice a n c) n (done.flatMap Kk)
 eq:done++Jt s (m+1) i=Pb s
 i1:i≤s.length
 m1:s.length≤i+m
 dl:done.length≤i
theorem TL.start (w:World) (s:Ae):TL w w s s.length 0 [] none 0 0:=⟨Af.refl _ _,rfl,⟨Cz _ _ _ _,fun g hg=>by cases hg⟩,rfl,Bn _,by omega,Bn _⟩
theorem TL.drewN {w wr:World} {s:Ae} {m i:Nat} {done:List CB} {a:Option Addr} {n c:Nat} (h:TL w wr s m i done a n c) (k:Nat):TL w (wr.drewN k) s m i done a n c:=⟨h.kept.drewN k,h.nn,h.sl.of_heap rfl,h.eq,h.i1,h.m1,h.dl⟩
theorem TL.next {w wr w3:World} {s:Ae} {m i:Nat} {done:List CB} {a:Option Addr} {n c:Nat} (h:TL w wr s m i done a n c) {x:CB} {E:Nat} (hx:Qe s i=(x,E)) (hf:JX x=false) (hk:Af (fun b=>w.heap.size≤b) w w3) {g2 c2:Nat}
  (hs:Sl (fun b=>w.heap.size≤b) w3 127 3 (.slice (some ⟨g2,0,none⟩) (n+1) c2) (n+1) (done.flatMap Kk++Kk x)):(∃m',TL w w3 s m' E (done++[x]) (some ⟨g2,0,none⟩) (n+1) c2)∧i<E∧E≤s.length:=by
 have sJ:=eg s i h.i1 (by rw[hx];exact hf)
 rw[hx]at sJ
 have heq:=h.eq
 rw[Jt,hx]at heq
 simp only[hf,An,A1]at heq
 have hm:=h.m1
 obtain⟨o1,o2⟩:=sJ
 simp only at o1 o2
 refine⟨⟨m-1,hk,by rw[Ao,←h.nn];rfl,by rw[XJ];simpa using hs,?_,o2,by omega,by have:=h.dl;simp;omega⟩,o1,o2⟩
 have e:m-1+1=m:=by omega
 rw[e,Al]
 exact heq
theorem TL.last {w wr w3:World} {s:Ae} {m i:Nat} {done:List CB} {a:Option Addr} {n c:Nat} (h:TL w wr s m i done a n c) {x:CB} {E:Nat} (hx:Qe s i=(x,E)) (hf:JX x=true) {g2 c2:Nat}
  (hs:Sl (fun b=>w.heap.size≤b) w3 127 3 (.slice (some ⟨g2,0,none⟩) (n+1) c2) (n+1) (done.flatMap Kk++Kk x)):Sl (fun b=>w.heap.size≤b) w3 127 3 (.slice (some ⟨g2,0,none⟩) (n+1) c2) (Pb s).length ((Pb s).flatMap Kk):=by
 have heq:=h.eq
 rw[Jt,hx]at heq
 simp only[hf,A0]at heq
 rw[←heq,XJ,Ao,←h.nn]
 simpa using hs
theorem TL.went {w wr wc w3:World} {s:Ae} {m i:Nat} {done:List CB} {a:Option Addr} {n c:Nat} (h:TL w wr s m i done a n c) (hk:Af (fun b=>wr.heap.size≤b) wr wc) {o:Obj}
  (BY:Af (fun b=>(Value.slice a n c).ownBlock=some b∨(wc.alloc o).heap.size≤b) (wc.alloc o) w3):Af (fun b=>w.heap.size≤b) w w3:=by
 have Fw:=h.kept.size
 refine h.kept.trans ((hk.mono (fun b hb=>Ai Fw hb)).trans (((Af.refl _ _).alloc (Ai Fw hk.size) o).trans (BY.mono (fun b hb=>hb.elim (fun e=>h.sl.2 b e) (fun e=>?_)))))
 have:=hk.size
 simp at e
 omega
def zW8 (w:World) (s:Ae) (e:Ending) (w':World):Prop:=
 Af (fun b=>w.heap.size≤b) w w'∧∃v,e= .returned v∧Sl (fun b=>w.heap.size≤b) w' 127 3 v (Pb s).length ((Pb s).flatMap Kk)
theorem eG (word:Ae) (j:Nat) (hj:j<24):(AQ.take (j+1)).contains word=((AQ.take j).contains word||(AQ.getD j []==word)):=by
 have h:j<AQ.length:=hj
 rw[dC h]
 have e:AQ.getD j []=AQ[j]:=by simp only[List.getD,Ah h,Hs]
 rw[e]
 generalize AQ[j]=k
 generalize AQ.take j=l
 have e2:(l++[k]).contains word=(l.contains word|| [k].contains word):=by
  rw[Ka,Tw,Cn,Cn,Cn,CI]
 rw[e2]
 congr 1
 rw[Ka,Cn,D3,OY]
 exact eq_comm
def io (word:Ae) (j:Nat):Ae:=if(AQ.take j).contains word then word else BG
theorem lP {word:Ae} {j:Nat} (hj:j<24) (h:(AQ.getD j []==word)=true):io word (j+1)=AQ.getD j []:=by
 unfold io
 rw[eG word j hj,h,Te,Ak rfl]
 exact(by simpa using h:AQ.getD j []=word).symm
theorem p8 {word:Ae} {j:Nat} (hj:j<24) (h:(AQ.getD j []==word)=false):io word (j+1)=io word j:=by
 unfold io
 rw[eG word j hj,h,Bool.or_false]
section
variable {w:World} {gw:Nat×Nat} {s:Ae}
theorem aP (hw:PH w gw) (hl:s.length≤1000):Calls Tryz.prog 50 #[vs s] w (zW8 w s):=by
 obtain⟨i0,Lt,KX,Ls,Lr⟩:=Cj lZ
 obtain⟨gw,ow⟩:=gw
 have HW:=Aa hw
 clear hw
 unfold vs at*
 go_enter Tryz.func50,Tryz.ntmps50
 go_wp2_with fail
 go_loopg [3,4] (s.length+1) (fun gg s3 s4 wr=>∃(m i:Nat) (done:List CB) (a:Option Addr) (n c:Nat),s3= .slice a n c∧s4= .int .i64 i∧s.length+1-i≤gg∧TL w wr s m i done a n c)
 case atStart=>exact⟨s.length,0,[],none,0,0,rfl,rfl,by omega,TL.start w s⟩
 case round=>
  obtain⟨m,i,done,a,n,c,rfl,rfl,hg,hT⟩:=hrel
  have HT:=Aa hT
  have HG:=Aa hg
  have qy:=hT.i1
  clear hT hg
  go_upto_block 2 with fail
  go_cut [4] (fun s4 wx=>s4= .int .i64 (skip blank s i:Nat)∧∃q,wx=wr.drewN q)
  case first=>
   go_wp2_with fail
   go_loopg [4] (s.length-i) (fun k s4 wz=>∃j:Nat,k=s.length-j∧i≤j∧j≤s.length∧s4= .int .i64 j∧skip blank s j=skip blank s i∧∃q,wz=wr.drewN q)
   case atStart=>exact⟨i,rfl,Ab _,qy,rfl,rfl,0,rfl⟩
   case round=>
    obtain⟨j,Vy,hj1,hj2,rfl,Vb,q,rfl⟩:=hrel
    have j6:=Aa Vy
    have XK:=Aa Vb
    clear Vy Vb
    have Fw:=At s
    by_cases Cy:j<s.length
    ·obtain⟨d,hd⟩:∃d,s[j]?=some d:=⟨_,Ah Cy⟩
     obtain⟨hy,hyd⟩:=NI hd
     have fc:=Aa (Ks blank s j d hd)
     clear hd
     by_cases hb:blank d=true
     ·have Hy:d=32∨d=10:=by simpa[blank]using hb
      have HB:=Aa hb
      clear hb
      rcases Hy with rfl|rfl
      all_goals
       go_wp2
       go_roundg (s.length-(j+1))
       case measure=>have:=j6.out;omega
       case rel=>
        have h2:=fc.out
        rw[Ak HB.out,XK.out]at h2
        exact⟨j+1,rfl,by omega,by omega,by go_num,h2.symm,q,rfl⟩
     ·have e1:((d.toNat:Int)==32)=false:=by
       simp only[Bv,ne_eq];intro e;apply hb
       have:d=32:=nL.1 (by show d.toNat=32;omega)
       rw[this];rfl
      have e2:((d.toNat:Int)==10)=false:=by
       simp only[Bv,ne_eq];intro e;apply hb
       have:d=10:=nL.1 (by show d.toNat=10;omega)
       rw[this];rfl
      have e3:decide ((d.toNat:Int)=32)=false:=by simpa using e1
      have e4:decide ((d.toNat:Int)=10)=false:=by simpa using e2
      have HB:=Aa hb
      clear hb
      go_wp2
      go_meet
      have h2:=fc.out
      rw[Ad HB.out,XK.out]at h2
      rw[h2]
      exact⟨rfl,q,rfl⟩
    ·have hle:j=s.length:=by omega
     have Vu:=Ml blank s j (by simp;omega)
     rw[XK.out]at Vu
     have od:=Aa Vu
     have hd:decide ((j:Int)<(s.length:Int))=false:=by simp;omega
     clear Vu hle
     go_wp2
     go_meet
     rw[od.out]
     exact⟨rfl,q,rfl⟩
  case rest=>
   obtain⟨rfl,q,rfl⟩:=hcut
   obtain⟨hp1,Ti⟩:=LD blank s i qy
   have hT:=HT.out.drewN q
   have hrx:=pF s i
   have Rg:=Aa hT
   have HRX:=Aa hrx
   clear hT hrx HT
   generalize wr.drewN q=wq at*
   generalize skip blank s i=p at*
   have Zv:Af (fun b=>wq.heap.size≤b) wq (wq.alloc (.cells #[vs Bu,vs [],.int .i64 p] 127)):=(Af.refl _ _).alloc (Ab _) _
   have BQ:=AM.new wq 127 [vs Bu,vs [],.int .i64 p]
   have PU:=Aa Zv
   have O5:=Aa BQ
   clear Zv BQ
   unfold vs at*
   go_upto_block 4 with fail
   go_cut [6] (fun s6 wx=>s6= .int .i64 (Fr s p:Nat)∧Af (fun b=>wq.heap.size≤b) wq wx∧AM wx wq.heap.size 127 [vs (LC s p),vs [],.int .i64 p])
   case first=>
    have Fw:=At s
    have hpp:s[p]?=none∨∃c,s[p]?=some c:=by
     cases s[p]? with
     |none=>exact .inl rfl
     |some c=>exact .inr ⟨c,rfl⟩
    have HWQ:=Aa (HW.out.kept Rg.out.kept)
    rcases hpp with Vv|⟨c,hc⟩
    ·have SW:p=s.length:=by
      have:s.length≤p:=by simpa using Vv
      omega
     have HI:=Aa (aR Vv)
     clear Vv
     subst SW
     go_wp2
     go_meet
     rw[HI.out.1,HI.out.2]
     exact⟨rfl,(Af.refl _ _).alloc (Ab _) _,AM.new wq 127 [vs DJ,vs [],.int .i64 s.length]⟩
    ·have qq:p<s.length:=by
      rcases BP p s.length with h|h
      ·exact h
      ·rw[Bq h]at hc;cases hc
     obtain⟨hx,XT⟩:=NI hc
     have Cu:((p:Int)==(s.length:Int))=false:=by simp;omega
     have iD:decide ((p:Int)=(s.length:Int))=false:=by simp;omega
     cases K8:low c with
     |true=>
      have HL:=Aa (fS hc K8)
      have Agc:=Aa K8
      have oz:=Aa (T3 (w:=wq.alloc (.cells #[vs Bu,vs [],.int .i64 p] 127)) c)
      rw[K8]at oz
      clear hc K8
      unfold vs at oz
      go_wp2_with fail
      refine oz.out.mono ?_
      rintro e w1 ⟨rfl,rfl⟩
      go_upto_block 5 with fail
      go_cut [6] (fun s6 wx=>s6= .int .i64 (skip low s p:Nat)∧wx=(wq.alloc (.cells #[vs Bu,vs [],.int .i64 p] 127)))
      case first=>
       go_wp2_with fail
       go_loopg [6] (s.length-p) (fun k s6 wz=>∃j:Nat,k=s.length-j∧p≤j∧j≤s.length∧s6= .int .i64 j∧skip low s j=skip low s p∧wz=(wq.alloc (.cells #[vs Bu,vs [],.int .i64 p] 127)))
       case atStart=>exact⟨p,rfl,Ab _,Ti,rfl,rfl,rfl⟩
       case round=>
        obtain⟨j,Vy,hj1,hj2,rfl,Vb,rfl⟩:=hrel
        have j6:=Aa Vy
        have XK:=Aa Vb
        clear Vy Vb
        by_cases Cy:j<s.length
        ·obtain⟨d,hd⟩:∃d,s[j]?=some d:=⟨_,Ah Cy⟩
         obtain⟨hy,hyd⟩:=NI hd
         have fc:=Aa (Ks low s j d hd)
         have oy:=Aa (T3 (w:=wq.alloc (.cells #[vs Bu,vs [],.int .i64 p] 127)) d)
         clear hd
         unfold vs at oy
         cases iF:low d with
         |true=>
          rw[iF]at oy
          have Mk:=Aa iF
          clear iF
          go_wp2_with fail
          refine oy.out.mono ?_
          rintro e w1 ⟨rfl,rfl⟩
          go_wp2
          go_roundg (s.length-(j+1))
          case measure=>have:=j6.out;omega
          case rel=>
           have h2:=fc.out
           rw[Mk.out,Ak rfl,XK.out]at h2
           exact⟨j+1,rfl,by omega,by omega,by go_num,h2.symm,rfl⟩
         |false=>
          rw[iF]at oy
          have Mk:=Aa iF
          clear iF
          go_wp2_with fail
          refine oy.out.mono ?_
          rintro e w1 ⟨rfl,rfl⟩
          go_wp2
          go_meet
          have h2:=fc.out
          rw[Mk.out,Ad (by decide),XK.out]at h2
          rw[h2]
          exact⟨rfl,rfl⟩
        ·have hle:j=s.length:=by omega
         have Vu:=Ml low s j (by simp;omega)
         rw[XK.out]at Vu
         have od:=Aa Vu
         have hd:decide ((j:Int)<(s.length:Int))=false:=by simp;omega
         clear Vu hle
         go_wp2
         go_meet
         rw[od.out]
         exact⟨rfl,rfl⟩
      case rest=>
       obtain⟨rfl,rfl⟩:=hcut
       obtain⟨Bi,A4⟩:=LD low s p Ti
       have Agj:=Aa (And.intro Bi A4)
       have mC:=Gv s p (skip low s p)
       generalize skip low s p=e at*
       by_cases h8:8<e-p
       ·have jO:(8:Int)<(e:Int)-(p:Int):=by omega
        have wj:decide ((e:Int)-(p:Int)≤8)=false:=by simp;omega
        have H8:=Aa h8
        clear h8
        go_wp2
        go_meet
        rw[HL.out.1,HL.out.2,Ak H8.out]
        exact⟨rfl,PU.out,O5.out⟩
       ·have jO:(e:Int)-(p:Int)≤8:=by omega
        have wj:decide ((e:Int)-(p:Int)≤8)=true:=by simp;omega
        have H8:=Aa h8
        clear h8
        generalize hW:CT s p e=word at*
        have hwk:=HWQ.out.kept ((Af.refl _ wq).alloc (Ab _) (.cells #[vs BG,vs [],.int .i64 p] 127))
        have hh:=hwk.head
        have SX:=hwk.lt.2
        dsimp only at hh SX
        have HWK:=Aa hwk
        clear hwk
        go_wp2_with fail
        go_loopg [60] 24 (fun k s60 wz=>∃j:Nat,k=24-j∧j≤24∧s60= .int .i64 j∧Af (fun b=>wq.heap.size≤b) wq wz∧AM wz wq.heap.size 127 [vs (io word j),vs [],.int .i64 p])
        case atStart=>exact⟨0,rfl,by omega,rfl,(Af.refl _ wq).alloc (Ab _) (.cells #[vs BG,vs [],.int .i64 p] 127),AM.new wq 127 [vs BG,vs [],.int .i64 p]⟩
        case round=>
         obtain⟨j,Vy,hj,rfl,hk,hr⟩:=hrel
         by_cases Cy:j<24
         ·have hcw:=(HWQ.out.kept hk).at_ j Cy
          dsimp only at hcw
          have r0:=hr.cell 0
          have rl:=hr.lt
          have rf:=fun j=>hr.frozen j
          have HK:=Aa hk
          have HR:=Aa hr
          have j6:=Aa Vy
          clear hk hr Vy
          simp at r0
          cases hm:(AQ.getD j []==word)with
          |true=>
           have HY:=Aa (lP Cy hm)
           have LV:decide (AQ.getD j []=word)=true:=by simpa using hm
           generalize AQ.getD j []=kw at*
           unfold vs at*
           go_wp2
           go_roundg (24-(j+1))
           case measure=>have:=j6.out;omega
           case rel=>
            refine⟨j+1,rfl,by omega,by go_num,HK.out.setCell (p:=⟨wq.heap.size,0,none⟩) (Ab _) _,?_⟩
            rw[HY.out]
            exact HR.out.set_ 0 (vs kw)
          |false=>
           have HY:=Aa (p8 Cy hm)
           have LV:decide (AQ.getD j []=word)=false:=by simpa using hm
           generalize AQ.getD j []=kw at*
           unfold vs at*
           go_wp2
           go_roundg (24-(j+1))
           case measure=>have:=j6.out;omega
           case rel=>
            refine⟨j+1,rfl,by omega,by go_num,HK.out,?_⟩
            rw[HY.out]
            exact HR.out
         ·have zJ:j=24:=by omega
          subst zJ
          have HK:=Aa hk
          have HR:=Aa hr
          clear hk hr Vy
          go_wp2
          go_meet
          rw[HL.out.1,HL.out.2,Ad H8.out]
          exact⟨rfl,HK.out,HR.out⟩
     |false=>
      have oz:=Aa (T3 (w:=wq.alloc (.cells #[vs Bu,vs [],.int .i64 p] 127)) c)
      have tX:=Aa (YO (w:=wq.alloc (.cells #[vs Bu,vs [],.int .i64 p] 127)) c)
      rw[K8]at oz
      unfold vs at oz tX
      cases PA:E6 c with
      |true=>
       have HL:=Aa (fT hc K8 PA)
       have Agc:=Aa (And.intro K8 PA)
       rw[PA]at tX
       clear hc K8 PA
       go_wp2_with fail
       refine oz.out.mono ?_
       rintro e w1 ⟨rfl,rfl⟩
       go_wp2_with fail
       refine tX.out.mono ?_
       rintro e w1 ⟨rfl,rfl⟩
       go_upto_block 9 with fail
       go_cut [6] (fun s6 wx=>s6= .int .i64 (skip E6 s p:Nat)∧wx=(wq.alloc (.cells #[vs Bu,vs [],.int .i64 p] 127)))
       case first=>
        go_wp2_with fail
        go_loopg [6] (s.length-p) (fun k s6 wz=>∃j:Nat,k=s.length-j∧p≤j∧j≤s.length∧s6= .int .i64 j∧skip E6 s j=skip E6 s p∧wz=(wq.alloc (.cells #[vs Bu,vs [],.int .i64 p] 127)))
        case atStart=>exact⟨p,rfl,Ab _,Ti,rfl,rfl,rfl⟩
        case round=>
         obtain⟨j,Vy,hj1,hj2,rfl,Vb,rfl⟩:=hrel
         have j6:=Aa Vy
         have XK:=Aa Vb
         clear Vy Vb
         by_cases Cy:j<s.length
         ·obtain⟨d,hd⟩:∃d,s[j]?=some d:=⟨_,Ah Cy⟩
          obtain⟨hy,hyd⟩:=NI hd
          have fc:=Aa (Ks E6 s j d hd)
          have oy:=Aa (YO (w:=wq.alloc (.cells #[vs Bu,vs [],.int .i64 p] 127)) d)
          clear hd
          unfold vs at oy
          cases iF:E6 d with
          |true=>
           rw[iF]at oy
           have Mk:=Aa iF
           clear iF
           go_wp2_with fail
           refine oy.out.mono ?_
           rintro e w1 ⟨rfl,rfl⟩
           go_wp2
           go_roundg (s.length-(j+1))
           case measure=>have:=j6.out;omega
           case rel=>
            have h2:=fc.out
            rw[Mk.out,Ak rfl,XK.out]at h2
            exact⟨j+1,rfl,by omega,by omega,by go_num,h2.symm,rfl⟩
          |false=>
           rw[iF]at oy
           have Mk:=Aa iF
           clear iF
           go_wp2_with fail
           refine oy.out.mono ?_
           rintro e w1 ⟨rfl,rfl⟩
           go_wp2
           go_meet
           have h2:=fc.out
           rw[Mk.out,Ad (by decide),XK.out]at h2
           rw[h2]
           exact⟨rfl,rfl⟩
         ·have hle:j=s.length:=by omega
          have Vu:=Ml E6 s j (by simp;omega)
          rw[XK.out]at Vu
          have od:=Aa Vu
          have hd:decide ((j:Int)<(s.length:Int))=false:=by simp;omega
          clear Vu hle
          go_wp2
          go_meet
          rw[od.out]
          exact⟨rfl,rfl⟩
       case rest=>
        obtain⟨rfl,rfl⟩:=hcut
        obtain⟨Bi,A4⟩:=LD E6 s p Ti
        have Agj:=Aa (And.intro Bi A4)
        generalize skip E6 s p=e at*
        by_cases h8:3<e-p
        ·have jO:(3:Int)<(e:Int)-(p:Int):=by omega
         have wj:decide ((e:Int)-(p:Int)≤3)=false:=by simp;omega
         have H8:=Aa h8
         clear h8
         go_wp2
         go_meet
         rw[HL.out.1,HL.out.2,Ak H8.out]
         exact⟨rfl,PU.out,O5.out⟩
        ·have jO:(e:Int)-(p:Int)≤3:=by omega
         have wj:decide ((e:Int)-(p:Int)≤3)=true:=by simp;omega
         have H8:=Aa h8
         clear h8
         go_wp2
         go_meet
         rw[HL.out.1,HL.out.2,Ad H8.out]
         exact⟨rfl,(Af.refl _ wq).alloc (Ab _) (.cells #[vs J1,vs [],.int .i64 p] 127),AM.new wq 127 [vs J1,vs [],.int .i64 p]⟩
      |false=>
       rw[PA]at tX
       have qr:=Wh hc
       have mC:=Gv s p (p+1)
       rw[qr]at mC
       have y8:(p:Int)+1≤(s.length:Int):=by omega
       have Adi:(p:Int)≤(p:Int)+1:=by omega
       have HP:=Aa (fun hp:FJ c=true=>Ys hc K8 PA hp)
       have HN:=Aa (fun hp:FJ c=false=>kD hc K8 PA hp)
       clear hc K8 PA
       cases vH:FJ c with
       |true=>
        have hp4:c=59∨c=123∨c=125∨c=60:=by simpa[FJ,or_assoc]using vH
        have HL:=Aa (HP.out vH)
        clear vH qr
        go_wp2_with fail
        refine oz.out.mono ?_
        rintro e w1 ⟨rfl,rfl⟩
        go_wp2_with fail
        refine tX.out.mono ?_
        rintro e w1 ⟨rfl,rfl⟩
        clear oz tX
        rcases hp4 with rfl|rfl|rfl|rfl
        all_goals
         go_wp2
         go_meet
         rw[HL.out.1,HL.out.2]
         exact⟨by go_num,(Af.refl _ wq).alloc (Ab _) (.cells #[vs [_],vs [],.int .i64 p] 127),AM.new wq 127 [vs [_],vs [],.int .i64 p]⟩
       |false=>
        have HL:=Aa (HN.out vH)
        have VA:∀k:UInt8,k=59∨k=123∨k=125∨k=60→¬(c.toNat:Int)=(k.toNat:Int):=by
         intro k hk e
         have XW:c=k:=nL.1 (by omega)
         rw[XW]at vH
         rcases hk with rfl|rfl|rfl|rfl<;>exact absurd vH (by decide)
        have d1:¬(c.toNat:Int)=59:=VA 59 (by decide)
        have d2:¬(c.toNat:Int)=123:=VA 123 (by decide)
        have d3:¬(c.toNat:Int)=125:=VA 125 (by decide)
        have d4:¬(c.toNat:Int)=60:=VA 60 (by decide)
        have b1:((c.toNat:Int)==59)=false:=by simpa using d1
        have b2:((c.toNat:Int)==123)=false:=by simpa using d2
        have b3:((c.toNat:Int)==125)=false:=by simpa using d3
        have b4:((c.toNat:Int)==60)=false:=by simpa using d4
        have n1:decide ((c.toNat:Int)=59)=false:=by simpa using d1
        have n2:decide ((c.toNat:Int)=123)=false:=by simpa using d2
        have n3:decide ((c.toNat:Int)=125)=false:=by simpa using d3
        have n4:decide ((c.toNat:Int)=60)=false:=by simpa using d4
        clear vH VA qr
        go_wp2_with fail
        refine oz.out.mono ?_
        rintro e w1 ⟨rfl,rfl⟩
        go_wp2_with fail
        refine tX.out.mono ?_
        rintro e w1 ⟨rfl,rfl⟩
        clear oz tX
        go_wp2
        go_meet
        rw[HL.out.1,HL.out.2]
        exact⟨rfl,PU.out,O5.out⟩
   case rest=>
    obtain⟨rfl,BY,sH⟩:=hcut
    clear PU O5
    have hpe:p≤Fr s p∧Fr s p≤s.length:=by
     unfold Fr
     cases hc:s[p]? with
     |none=>exact⟨Ab _,Ti⟩
     |some c=>
      simp only
      have qq:=(Ap.1 hc).1
      obtain⟨a1,a2⟩:=LD low s p Ti
      obtain⟨b1,b2⟩:=LD E6 s p Ti
      split
      ·exact⟨a1,a2⟩
      ·split
       ·exact⟨b1,b2⟩
       ·split
        ·omega
        ·omega
    obtain⟨e1,e2⟩:=hpe
    have mC:=Gv s p (Fr s p)
    have sJ:=eg s i qy
    have Fw:=At s
    have Xj:=sH.lt
    have rf:=fun j=>sH.frozen j
    have r1:=sH.cell 1
    simp at r1
    have oJ:=sH.set_ 1 (vs (CT s p (Fr s p)))
    have xH:=BY.setCell (p:=⟨wq.heap.size,1,none⟩) (Ab _) (vs (CT s p (Fr s p)))
    have HQ1:=Aa oJ
    have oY:=Aa xH
    have HON:=Aa sJ
    clear BY sH oJ xH sJ
    generalize LC s p=K at*
    generalize hE:Fr s p=E at*
    generalize hP:CT s p E=word at*
    clear hE hP
    unfold vs at*
    go_upto_region 28 with fail
    go_cut [] (fun wx=>Af (fun b=>wq.heap.size≤b) wq wx∧AM wx wq.heap.size 127 [vs K,vs word,.int .i64 p])
    case first=>
     go_wp2
     go_meet
     exact⟨oY.out,HQ1.out⟩
    case rest=>
     clear oY HQ1 rf Xj r1
     obtain⟨CU,Mw⟩:=hcut
     have hd8:2≤maxLen:=by unfold maxLen;omega
     have IZ:=Rg.out.nn
     have LW:=Rg.out.dl
     have px:=(Rg.out.sl.kept CU (fun b hb h2=>by have:=Rg.out.sl.lt hb;omega)).alloc (.cells #[vs K,vs word,.int .i64 p] 127)
     have q1:w.heap.size≤(wc.alloc (.cells #[vs K,vs word,.int .i64 p] 127)).heap.size:=by
      have:=CU.size;have:=Rg.out.kept.size;simp;omega
     have q2:=FN wc [vs K,vs word,.int .i64 p] 127
     have q3:∀u∈ [vs K,vs word,.int .i64 p],u.oneCell'=true:=by
      intro u hu
      simp at hu
      rcases hu with rfl|rfl|rfl<;>rfl
     have q4:n+1≤maxLen:=by unfold maxLen;omega
     have q5:(n+1)*40≤140737488355328:=by omega
     have c0:=Mw.cell 0
     have c1:=Mw.cell 1
     have c2:=Mw.cell 2
     have Xj:=Mw.lt
     have hT0:∀w3,Af (fun b=>(Value.slice a n c).ownBlock=some b∨(wc.alloc (.cells #[vs K,vs word,.int .i64 p] 127)).heap.size≤b) (wc.alloc (.cells #[vs K,vs word,.int .i64 p] 127)) w3→w3.cell? ⟨wq.heap.size,0,none⟩=some (.string ⟨K.toArray⟩):=by
      intro w3 hk
      have Vv:¬((Value.slice a n c).ownBlock=some wq.heap.size∨(wc.alloc (.cells #[vs K,vs word,.int .i64 p] 127)).heap.size≤wq.heap.size):=by
       rintro(h1|h1)
       ·have:=Rg.out.sl.lt h1;omega
       ·simp at h1;omega
      exact(hk.cell (p:=⟨wq.heap.size,0,none⟩) Vv).trans ((Mw.alloc _).cell 0)
     have HT0:=Aa hT0
     clear hT0
     have wD:=Aa px
     have Q1:=Aa q1
     have Q2:=Aa q2
     have Q3:=Aa q3
     have Rq:=Aa CU
     have fi:=Aa Mw
     clear px q1 q2 q3 CU Mw IZ hd8 LW
     simp at c0 c1 c2
     unfold vs at*
     by_cases XU:K=Bu
     ·have b1:(K==Bu)=true:=by simpa using XU
      have b2:decide (K=Bu)=true:=by simpa using XU
      have HF:=Aa (show JX ⟨K,word,p⟩=true by unfold JX;rw[b1];rfl)
      clear XU
      go_wp2_with (at_builtin;go_must (refine Fq Z6 Lt KX Ls Lr rfl (by decide) wD.out Q1.out rfl _ _ rfl rfl ⟨wc.heap.size,0,none⟩ 1 1 [.string ⟨K.toArray⟩,.string ⟨word.toArray⟩,.int .i64 p] rfl rfl Q2.out Q3.out q4 q5 (E0 _) ?_;intro g2 Er w3 Fo BY EE;have rH:=Aa Fo;have fd:=Aa BY;have js:=Aa EE;have d0:=HT0.out _ BY;clear Fo BY EE))
      go_ret
      exact⟨Rg.out.went Rq.out fd.out,_,rfl,Rg.out.last HRX.out HF.out rH.out⟩
     ·have b1:(K==Bu)=false:=by simpa using XU
      have b2:decide (K=Bu)=false:=by simpa using XU
      by_cases PR:K=DJ
      ·have b3:(K==DJ)=true:=by simpa using PR
       have b4:decide (K=DJ)=true:=by simpa using PR
       have HF:=Aa (show JX ⟨K,word,p⟩=true by unfold JX;rw[b3,Te])
       clear XU PR
       go_wp2_with (at_builtin;go_must (refine Fq Z6 Lt KX Ls Lr rfl (by decide) wD.out Q1.out rfl _ _ rfl rfl ⟨wc.heap.size,0,none⟩ 1 1 [.string ⟨K.toArray⟩,.string ⟨word.toArray⟩,.int .i64 p] rfl rfl Q2.out Q3.out q4 q5 (E0 _) ?_;intro g2 Er w3 Fo BY EE;have rH:=Aa Fo;have fd:=Aa BY;have js:=Aa EE;have d0:=HT0.out _ BY;clear Fo BY EE))
       go_ret
       exact⟨Rg.out.went Rq.out fd.out,_,rfl,Rg.out.last HRX.out HF.out rH.out⟩
      ·have b3:(K==DJ)=false:=by simpa using PR
       have b4:decide (K=DJ)=false:=by simpa using PR
       have HF:=Aa (show JX ⟨K,word,p⟩=false by unfold JX;rw[b1,b3];rfl)
       clear XU PR
       go_wp2_with (at_builtin;go_must (refine Fq Z6 Lt KX Ls Lr rfl (by decide) wD.out Q1.out rfl _ _ rfl rfl ⟨wc.heap.size,0,none⟩ 1 1 [.string ⟨K.toArray⟩,.string ⟨word.toArray⟩,.int .i64 p] rfl rfl Q2.out Q3.out q4 q5 (E0 _) ?_;intro g2 Er w3 Fo BY EE;have rH:=Aa Fo;have fd:=Aa BY;have js:=Aa EE;have d0:=HT0.out _ BY;clear Fo BY EE))
       have FF:=Rg.out.next HRX.out HF.out (Rg.out.went Rq.out fd.out) rH.out
       have oX:=Aa FF
       obtain⟨_,o1,o2⟩:=FF
       go_roundg (s.length+1-E)
       case measure=>have:=HG.out;omega
       case rel=>
        obtain⟨⟨m',hL⟩,_,_⟩:=oX.out
        exact⟨m',E,_,_,_,_,rfl,rfl,Ab _,hL⟩
end
end Go.Proofs.YtemppijblfflgaaGreatDoor.Ev
namespace Go.Proofs.YtemppijblfflgaaGreatDoor.Ev
def M7 (s:Ae) (n:Nat) (o:AJ Unit):AJ Unit:=o.bind fun _ st=>Cw s n st
def ML (s:Ae) (m n:Nat) (o:AJ Unit):AJ Unit:=o.bind fun _ st=>CR s m n st
def OC (o:AJ Unit):Bool:=match o with
 | .ok _ st=>isDecl st.t.kind
 | .bad _ _=>false
theorem bK (o:AJ Unit):OC o=(o.isB G1||o.isB G4||o.isB IY||o.isB BX):=by
 cases o<;>rfl
theorem Zf {o:AJ Unit} (h:OC o=true):∃st,o= .ok () st∧isDecl st.t.kind=true:=by
 cases o with
 |ok a st=>exact⟨st,rfl,h⟩
 |bad e p=>cases h
theorem Xb {k:Ae} (h:isDecl k=true):k=G1∨k=G4∨k=IY∨k=BX:=by
 unfold isDecl at h
 simpa[or_assoc]using h
section
variable {s:Ae} {o:AJ Unit} {st:PS} {n m:Nat}
theorem ZK (h:isDecl st.t.kind=true):M7 s (n+1) (.ok () st)=M7 s n (decl s st):=by
 show Cw s (n+1) st=_
 unfold Cw M7
 rw[Ak h]
theorem cE (h:OC o=false):M7 s (n+1) o=o:=by
 cases o with
 |bad e p=>rfl
 |ok a st=>
  have h':isDecl st.t.kind=false:=h
  show Cw s (n+1) st=_
  unfold Cw
  rw[h']
  rfl
theorem YG (h:st.t.kind=Mv):ML s m (n+1) (.ok () st)=ML s m n (Gc s m st):=by
 show CR s m (n+1) st=_
 unfold CR ML
 rw[Ak h]
theorem ba (h:o.isB Mv=false):ML s m (n+1) o=o:=by
 cases o with
 |bad e p=>rfl
 |ok a st=>
  have h':¬st.t.kind=Mv:=by simpa[AJ.isB]using h
  show CR s m (n+1) st=_
  unfold CR
  rw[Ad h']
theorem bq:EA s=(ML s 1500 702 (M7 s 702 (.ok () (start s)))).bind fun _ st=>want s DJ st:=by
 unfold EA M7 ML
 show(Cw s 702 (start s)).bind _=((Cw s 702 (start s)).bind _).bind _
 cases Cw s 702 (start s)<;>rfl
theorem AB.start (s:Ae):AB s ⟨0,0,0,0,0,0,0,[],0,0⟩ (start s):=
 ⟨On.start s,Yx s,rfl,rfl,rfl,rfl,rfl,rfl,rfl,by decide,by decide⟩
theorem lj (h7:¬700<s.length) {e p:Nat} (h:EA s= .bad e p):read s= .error (e,p):=by
 unfold read
 rw[Ad h7,h]
theorem bo (h7:¬700<s.length) {t:Mc} {x:Nat×Nat} (h:EA s= .ok t st) (hw:st.wrong=some x):read s= .error x:=by
 unfold read
 rw[Ad h7,h]
 simp only
 rw[hw]
theorem YP (h7:¬700<s.length) {t:Mc} (h:EA s= .ok t st) (hw:st.wrong=none) (hm:(Cm st.rules).isSome=false):read s= .error (Pk,0):=by
 unfold read
 rw[Ad h7,h]
 simp only
 rw[hw]
 simp only
 rw[Ak (by cases hx:Cm st.rules<;>simp_all)]
theorem gS (h7:¬700<s.length) {t:Mc} (h:EA s= .ok t st) (hw:st.wrong=none) (hm:(Cm st.rules).isSome=true):read s= .ok ⟨st.decls,st.freq,st.rules⟩:=by
 unfold read
 rw[Ad h7,h]
 simp only
 rw[hw]
 simp only
 rw[Ad (by cases hx:Cm st.rules<;>simp_all)]
theorem T5 (h7:700<s.length):read s= .error (eX,0):=by
 unfold read
 rw[Ak h7]
end
end Go.Proofs.YtemppijblfflgaaGreatDoor.Ev
namespace Go.Proofs.YtemppijblfflgaaGreatDoor.Ev
open Go Go.RowKit
section
variable {w:World} {g gp:Nat} {tl:Value} {ts:List CB} {pc:List Value} {r:Ff} {s:Ae} {α:Type} {o:AJ α}
theorem gD (h:FQ w g gp tl ts pc r) (hs:Bs s r o) (ht:DD ts (toks s)) {kd kr:Ae} (hk:kd≠J1) (OD:GE kd=kr):
  Calls Tryz.prog 89 #[.pointer (some ⟨g,0,none⟩),vs kr] w (fun e w'=>e= .returned (.bool (o.isB kd))∧Kg g w w'∧FQ w' g gp tl ts pc (if o.isB kd then {r with k:=r.k+1}else r)):=by
 have SE:=JG h hs ht hk OD
 obtain⟨c0,c1,_⟩:=h.cells
 have ff:=fun j=>h.row.frozen j
 have h8:=h.tl
 have Cy:=hs.lt
 rw[←ht.len]at Cy
 have HR:=Aa h
 have HS:=Aa hs
 cases hb:o.isB kd with
 |true=>
  obtain⟨a,st,rfl,OE,Qz⟩:=Gu (s:=s) hb
  rw[hb]at SE
  have HI:=Aa SE
  have HT:=Aa Qz
  generalize Gh:r.k=k at*
  generalize hL:ts.length=L at*
  have wW:=Aa Gh
  have HL:=Aa hL
  clear SE hs h hb OE Qz ht Gh hL OD
  unfold vs at*
  go_enter jQ,dd
  go_wp2_with fail
  refine HI.out.mono ?_
  rintro e w1 ⟨rfl,n,rfl⟩
  go_wp2
  go_ret
  have BY:Kg g w ((w.setCell ⟨g,1,none⟩ (.int .i64 (k+1))).drewN n):=((Af.refl _ w).setCell (p:=⟨g,1,none⟩) (.inl rfl) _).drewN n
  refine⟨rfl,BY,HR.out.turn BY ?_ rfl⟩
  have:=HR.out.row.set_ 1 (.int .i64 (k+1))
  exact this
 |false=>
  have Qz:=Gp (s:=s) hb
  rw[hb]at SE
  have HI:=Aa SE
  have HT:=Aa Qz
  clear SE hs h hb Qz ht OD c0 c1 ff Cy h8
  unfold vs at*
  go_enter jQ,dd
  go_wp2_with fail
  refine HI.out.mono ?_
  rintro e w1 ⟨rfl,n,rfl⟩
  go_wp2
  go_ret
  exact⟨rfl,(Af.refl _ _).drewN n,HR.out.drewN n⟩
def Afm (w:World) (g gp:Nat) (tl:Value) (ts:List CB) (pc:List Value) (s:Ae) (ds:List Bf) (o:AJ Mc) (e:Ending) (w':World):Prop:=
 ∃x:CB,e= .returned (DB x)∧Kg g w w'∧∃r',FQ w' g gp tl ts pc r'∧r'.decls=ds∧match o with
  | .ok _ st=>r'.bad=0∧nI st.wrong r'
  | .bad e p=>r'.bad=e∧r'.badAt=p∧e≠0
theorem gL (h:FQ w g gp tl ts pc r) (hs:Bs s r o) (ht:DD ts (toks s)):
  Calls Tryz.prog 54 #[.pointer (some ⟨g,0,none⟩),vs DJ] w (Afm w g gp tl ts pc s r.decls (BC s DJ o)):=by
 have Zj:=fun W (hW:FQ W g gp tl ts pc r)=>gD hW hs ht (kd:=DJ) (kr:=DJ) (by decide) (by decide)
 obtain⟨c0,c1,_⟩:=h.cells
 have Cy:=h.row.lt
 obtain⟨x,hx⟩:=hs.tok ht
 obtain⟨gt,ct,rfl,h1,h2,h3,h4,h5,t0,t1,t2⟩:=h.at_ hx
 unfold maxLen at h2
 have Jj:r.k<ts.length:=h3
 have h8:=h.tl
 have HR:=Aa h
 have HS:=Aa hs
 have oU:=Aa ht
 have HT:=Aa Zj
 generalize Gh:r.k=k at*
 generalize hL:ts.length=L at*
 have wW:=Aa Gh
 have HL:=Aa hL
 clear hs h hx ht Gh hL Zj
 cases hb:o.isB DJ
 all_goals
  have HB:=Aa hb
  clear hb
  unfold vs at*
  go_enter Tryz.func54,Tryz.ntmps54
  go_wp2
  go_region
  go_wp2_with fail
  have vF:FQ ((w.alloc (.cells #[vs [],vs [],.int .i64 0] 127)).alloc (.cells #[vs x.is,vs x.txt,.int .i64 x.pos] 127)).drew g gp (.slice (some ⟨gt,0,none⟩) L ct) ts pc r:=((HR.out.alloc _).alloc _).drewN 1
  have x0:AM ((w.alloc (.cells #[vs [],vs [],.int .i64 0] 127)).alloc (.cells #[vs x.is,vs x.txt,.int .i64 x.pos] 127)).drew w.heap.size 127 [vs [],vs [],.int .i64 0]:=(AM.new w _ _).alloc _
  have x1:AM ((w.alloc (.cells #[vs [],vs [],.int .i64 0] 127)).alloc (.cells #[vs x.is,vs x.txt,.int .i64 x.pos] 127)).drew (w.heap.size+1) 127 [vs x.is,vs x.txt,.int .i64 x.pos]:=by
   have:=AM.new (w.alloc (.cells #[vs [],vs [],.int .i64 0] 127)) 127 [vs x.is,vs x.txt,.int .i64 x.pos]
   simp only[RX]at this
   exact this
  have kk:Kg g w ((w.alloc (.cells #[vs [],vs [],.int .i64 0] 127)).alloc (.cells #[vs x.is,vs x.txt,.int .i64 x.pos] 127)).drew:=(((Af.refl _ w).alloc (.inr (Ab _)) _).alloc (.inr (by simp)) _).drew
  have GM:=HT.out _ vF
  rw[HB.out]at GM
  have MG:=Aa GM
  have X0:=Aa x0
  have X1:=Aa x1
  have KK:=Aa kk
  clear vF GM x0 x1 kk
  unfold vs at*
  refine MG.out.mono ?_
  rintro e w1 ⟨rfl,Bi,Mj⟩
  have K1:=Aa Bi
  have oW:=Aa Mj
  clear Bi Mj
  first
   |(go_wp2_with fail
     refine(Mn oW.out HS.out oU.out (e:=2) (by decide)).mono ?_
     rintro e w2 ⟨rfl,A4,r2,Ij,Cp,Fp⟩
     have XN:=Aa Fp
     clear Fp
     have K2:=Aa A4
     have Tc:=Aa Ij
     have SL:=Aa Cp
     clear A4 Ij Cp)
   |skip
  first
   |have y0:=Eg K2.out (Eg K1.out X0.out (by omega)) (by omega)
   |have y0:=Eg K1.out X0.out (by omega)
  first
   |have y1:=Eg K2.out (Eg K1.out X1.out (by omega)) (by omega)
   |have y1:=Eg K1.out X1.out (by omega)
  have d0:=y0.cell 0
  have d1:=y0.cell 1
  have d2:=y0.cell 2
  have e0:=y1.cell 0
  have xS:=y1.cell 1
  have tC:=y1.cell 2
  have fz:=fun j=>y0.frozen j
  have Y0:=Aa y0
  clear y0 y1
  simp at d0 d1 d2 e0 xS tC
  go_wp2
  have q1:=Y0.out
  have Kv:(Value.slice (some ⟨gt,0,none⟩) L ct).ownBlock≠some w.heap.size:=fun e=>by injection e with e;simp only at e;omega
  first
   |have g0:=Tc.out
   |have g0:=oW.out
  first
   |have kk:Kg g w _:=(KK.out.trans K1.out).trans K2.out
   |have kk:Kg g w _:=KK.out.trans K1.out
  have g1:=g0.far q1 (by decide) Kv 0 (.string ⟨x.is.toArray⟩)
  have q2:=q1.set_ 0 (.string ⟨x.is.toArray⟩)
  have g2:=g1.far q2 (by decide) Kv 1 (.string ⟨x.txt.toArray⟩)
  have q3:=q2.set_ 1 (.string ⟨x.txt.toArray⟩)
  have g3:=g2.far q3 (by decide) Kv 2 (.int .i64 x.pos)
  have q4:=q3.set_ 2 (.int .i64 x.pos)
  have k4:=((kk.setCell (p:=⟨w.heap.size,0,none⟩) (.inr (Ab _)) (.string ⟨x.is.toArray⟩)).setCell (p:=⟨w.heap.size,1,none⟩) (.inr (Ab _)) (.string ⟨x.txt.toArray⟩)).setCell (p:=⟨w.heap.size,2,none⟩) (.inr (Ab _)) (.int .i64 x.pos)
  refine Av (AG (cs:=[.string ⟨x.is.toArray⟩,.string ⟨x.txt.toArray⟩,.int .i64 x.pos]) Tryz.results54 fa Yz rfl q4) rfl ?_
  refine⟨x,rfl,k4,?_⟩
  first
   |(obtain⟨a,st,rfl,e1,e2⟩:=VZ (s:=s) HB.out
     rw[e2]
     have tj:=AB.bad HS.out
     have hw0:=AB.wrong HS.out
     simp only[A0]at g3
     exact⟨_,g3,rfl,tj,hw0⟩)
   |(refine⟨_,g3,XN.out,?_⟩
     have hx:=Yl (s:=s) HB.out (r:=_) (by rw[Gp HB.out];exact(show Bs s _ ((o.bind fun _ st=>AJ.ok () st).fail_ D1)from by cases o<;>exact SL.out))
     have RE:=hx.1
     have eI:=hx.2
     cases hw:BC s DJ o with
     |ok t st=>exact absurd hw (eI t st)
     |bad e p=>
      rw[hw]at RE
      exact⟨DF.bad RE,DF.badAt RE,DF.ne RE⟩)
end
section
variable {B:Nat} {w:World} {g gp:Nat} {tl:Value} {ts:List CB} {f:Int} {r:Ff} {vd:Value} {s:Ae} {st:PS}
theorem gU (h:RP B w g gp tl ts f Bx Bx Bx false r vd) (hs:AB s r st) (ht:DD ts (toks s)) (hk:isDecl st.t.kind=true) (LW:r.decls.length≤900) (Xo:f=st.freq):
  Calls Tryz.prog 52 #[.pointer (some ⟨g,0,none⟩)] w (nS B w g gp tl ts s r.decls.length (decl s st)):=by
 rcases Xb hk with h1|h1|h1|h1
 ·exact Pr (.inl rfl) h hs ht h1 LW Xo
 ·exact Pr (.inr (.inl rfl)) h hs ht h1 LW Xo
 ·exact Pr (.inr (.inr rfl)) h hs ht h1 LW Xo
 ·exact br h hs ht h1 LW
end
def VN (N:Nat→Prop) (w:World) (gp:Nat) (p:AF):Prop:=
 ∃vd vr vh vm hs rs,AM w gp 122 [vd,.int .i64 p.freq,vr,vh,vm,.bool true]∧Sl N w 130 3 vd p.decls.length (p.decls.flatMap FL)∧
  RZ N w vr vh p.decls.length hs rs∧Hz N w p.rules true vm p.decls.length hs rs∧N gp∧∃a n c,vm= .slice a n c
def zW11 (w:World) (s:Ae) (e:Ending) (w':World):Prop:=
 Af (fun b=>w.heap.size≤b) w w'∧match read s with
  | .error (k,pos)=>e= .returned (.tuple #[.pointer none,.int .i64 k,.int .i64 pos])
  | .ok p=>∃gp,e= .returned (.tuple #[.pointer (some ⟨gp,0,none⟩),.int .i64 0,.int .i64 0])∧VN (fun b=>w.heap.size≤b) w' gp p
section
variable {B:Nat} {w w2:World} {g gp:Nat} {tl:Value} {ts:List CB} {f:Int} {vr vh vm:Value} {ms:Bool} {r:Ff} {vd:Value} {hs:List Bool} {rs:List Value} {s:Ae} {st:PS}
theorem RP.setPol (h:RP B w g gp tl ts f vr vh vm ms r vd) (i:Nat) (u:Value) {vr' vh' vm':Value} {ms':Bool} (he: [vd,.int .i64 f,vr,vh,vm,.bool ms].set i u=[vd,.int .i64 f,vr',vh',vm',.bool ms']):
  RP B (w.setCell ⟨gp,i,none⟩ u) g gp tl ts f vr' vh' vm' ms' r vd:=by
 have hk:Af (fun b=>b=gp) w (w.setCell ⟨gp,i,none⟩ u):=Af.one w ⟨gp,i,none⟩ _
 obtain⟨N,ht⟩:=h.rd.toks
 have vI:=h.rd.pol.ne_ h.rd.row (by decide)
 have Mh:=h.sl.kept hk (fun b hb e=>h.sl.ne_row h.rd.pol (by decide) (e▸hb))
 have hp:=h.rd.pol.set_ i u
 rw[he]at hp
 exact⟨⟨h.rd.row.far (fun e=>vI e.symm) _,⟨N,ht.kept hk (fun b hb e=>ht.ne_row h.rd.pol (by decide) (e▸hb))⟩,h.rd.tl,hp,⟨_,vd,rfl,Mh⟩,h.rd.dl⟩,h.g0,h.p0,Mh,by simpa using h.sz⟩
theorem RP.alloc (h:RP B w g gp tl ts f vr vh vm ms r vd) (o:Obj):RP B (w.alloc o) g gp tl ts f vr vh vm ms r vd:=
 h.call ((Af.refl (fun b=>b=g∨w.heap.size≤b) w).alloc (.inr (Ab _)) o) (h.rd.alloc o) rfl
theorem RP.drewN (h:RP B w g gp tl ts f vr vh vm ms r vd) (n:Nat):RP B (w.drewN n) g gp tl ts f vr vh vm ms r vd:=h.call ((Af.refl _ w).drewN n) (h.rd.drewN n) rfl
theorem gB {m:Nat} {st':PS} (h:jo s st) (hk:st.t.kind=Mv) (e:Gc s m st= .ok () st'):st'.freq=st.freq:=by
 rw[T1]at e
 obtain⟨k,st1,e1,e2⟩:=AA e
 obtain⟨b,AP,e3,e4⟩:=AA e2
 injection e4 with _ e4
 obtain⟨f1,_,_⟩:=Gb h.ok hk e1
 obtain⟨f2,_⟩:=DP f1.ok (by rw[f1.depth,h.depth];omega) (by rw[f1.loops,h.loops];omega) e3
 rw[←e4]
 split
 ·exact f2.freq.trans f1.freq
 ·exact f2.freq.trans f1.freq
structure WJ (B:Nat) (w wr:World) (g gp:Nat) (tl:Value) (ts:List CB) (s:Ae) (n:Nat) (o:AJ Unit) (r:Ff) (f:Int) (vd:Value):Prop where
 rp:RP B wr g gp tl ts f Bx Bx Bx false r vd
 kept:Af (fun b=>B≤b) w wr
 says:Bs s r o
 eq:M7 s (n+1) o=M7 s 702 (.ok () (start s))
 mid:∀st,o= .ok () st→jo s st∧st.rules=[]∧f=st.freq∧left s st≤n
 dl:r.decls.length+C6 s o≤702
theorem WJ.next {B:Nat} {w wr w':World} {n:Nat} {r':Ff} {f':Int} {Nu:Value} (h:WJ B w wr g gp tl ts s n (.ok () st) r f vd) (hk:isDecl st.t.kind=true) (A4:Af (fun b=>B≤b) wr w') (hP:RP B w' g gp tl ts f' Bx Bx Bx false r' Nu) (hs:Bs s r' (decl s st))
  (hf:∀st',decl s st= .ok () st'→f'=st'.freq) (hl:r'.decls.length≤r.decls.length+1):(∃n',WJ B w w' g gp tl ts s n' (decl s st) r' f' Nu)∧C6 s (decl s st)<C6 s (AJ.ok () st:AJ Unit):=by
 obtain⟨m1,m2,m3,m4⟩:=h.mid st rfl
 have Kf:=NU m1.ok
 have Cy:C6 s (decl s st)<C6 s (AJ.ok () st:AJ Unit):=by
  show C6 s (decl s st)<left s st
  cases hd:decl s st with
  |bad e p=>exact Kf
  |ok a st'=>exact(QS m1 hk m2 hd).2.2
 refine⟨⟨n-1,hP,h.kept.trans A4,hs,?_,fun st' e=>?_,by have:=h.dl;omega⟩,Cy⟩
 ·have e:n-1+1=n:=by omega
  rw[e,←ZK hk]
  exact h.eq
 ·obtain⟨d1,d2,d3⟩:=QS m1 hk m2 e
  exact⟨d1,d2,hf st' e,by omega⟩
structure WF (B:Nat) (w wr:World) (g gp:Nat) (tl:Value) (ts:List CB) (s:Ae) (n:Nat) (o0 o:AJ Unit) (r:Ff) (f:Int) (vr vh vm:Value) (ms:Bool) (vd:Value) (hs:List Bool) (rs:List Value):Prop where
 rq:RQ B wr g gp tl ts f vr vh vm ms r vd hs rs
 kept:Af (fun b=>B≤b) w wr
 says:Bs s r o
 eq:ML s 1500 (n+1) o=ML s 1500 702 o0
 mid:∀st,o= .ok () st→jo s st∧f=st.freq∧left s st≤n∧n≤701∧(st.wrong=none→Hz (fun b=>B≤b) wr st.rules ms vm r.decls.length hs rs)
theorem WF.next {B:Nat} {w wr w':World} {n:Nat} {o0:AJ Unit} {r':Ff} {vm':Value} {ms':Bool} {SV:List Bool} {xv:List Value} (h:WF B w wr g gp tl ts s n o0 (.ok () st) r f vr vh vm ms vd hs rs) (hk:st.t.kind=Mv) (A4:Af (fun b=>B≤b) wr w')
  (hP:RQ B w' g gp tl ts f vr vh vm' ms' r' vd SV xv) (vo:Bs s r' (Gc s 1500 st)) (hd:r'.decls=r.decls) (hm:∀st',Gc s 1500 st= .ok () st'→st'.wrong=none→Hz (fun b=>B≤b) w' st'.rules ms' vm' r.decls.length SV xv):
  (∃n',WF B w w' g gp tl ts s n' o0 (Gc s 1500 st) r' f vr vh vm' ms' vd SV xv)∧C6 s (Gc s 1500 st)<C6 s (AJ.ok () st:AJ Unit):=by
 obtain⟨m1,m2,m3,m5,m4⟩:=h.mid st rfl
 have Kf:=NU m1.ok
 have Cy:C6 s (Gc s 1500 st)<C6 s (AJ.ok () st:AJ Unit):=by
  show C6 s (Gc s 1500 st)<left s st
  cases hd:Gc s 1500 st with
  |bad e p=>exact Kf
  |ok a st'=>exact(Qd m1 hk hd).2.1
 refine⟨⟨n-1,hP,h.kept.trans A4,vo,?_,fun st' e=>?_⟩,Cy⟩
 ·have e:n-1+1=n:=by omega
  rw[e,←YG hk]
  exact h.eq
 ·obtain⟨d1,d2,d3⟩:=Qd m1 hk e
  refine⟨d1,m2.trans (gB m1 hk e).symm,by omega,by omega,fun hw=>?_⟩
  rw[hd]
  exact hm st' e hw
end
end Go.Proofs.YtemppijblfflgaaGreatDoor.Ev
namespace Go.Proofs.YtemppijblfflgaaGreatDoor.Ev
theorem JA (k:Da) {c:Nat} {n:Int}:Gl.count c n∉Aq k:=by
 intro h
 unfold Aq at h
 rcases CI.1 h with h|h
 ·cases hk:k.k with
  |less a b=>
   rw[hk]at h
   cases a<;>cases b<;>simp[Ja,Gk]at h
  |_=>rw[hk]at h;simp[Ja]at h
 ·split at h<;>simp at h
theorem Gj {l:List Bf}:∀(b:AC) (c o:Nat),EG l b→∀(c':Nat) (n:Int),Gl.count c' n∈BR c o b→0≤n∧n≤50
 | .nil,_,_,_,_,_,h=>by simp[BR]at h
 | .prim p r,c,o,hw,c',n,h=>by
  simp only[BR,Bt]at h
  rcases h with h|h
  ·cases h
  ·exact Gj r _ _ hw.2 c' n h
 | .ite k t other e r,c,o,hw,c',n,h=>by
  obtain⟨_,w1,w2,w3⟩:=hw
  simp only[BR]at h
  split at h
  ·simp only[CI,Bt]at h
   rcases h with h|h|h|h|h|h
   ·exact absurd h (JA k)
   ·cases h
   ·exact Gj t _ _ w1 c' n h
   ·cases h
   ·exact Gj e _ _ w2 c' n h
   ·exact Gj r _ _ w3 c' n h
  ·simp only[CI,Bt]at h
   rcases h with h|h|h|h
   ·exact absurd h (JA k)
   ·cases h
   ·exact Gj t _ _ w1 c' n h
   ·exact Gj r _ _ w3 c' n h
 | .rep m k b r,c,o,hw,c',n,h=>by
  obtain⟨_,w1,w2,w3⟩:=hw
  simp only[BR,CI,Bt]at h
  rcases h with h|h|h|h|h|h|h
  ·injection h with _ h
   subst h
   omega
  ·cases h
  ·exact absurd h (JA k)
  ·cases h
  ·exact Gj b _ _ w1 c' n h
  ·cases h
  ·exact Gj r _ _ w2 c' n h
theorem be {l:List Bf} {b:AC} {c:Nat} (h:EG l b):∀(c':Nat) (n:Int),Gl.count c' n∈BR c 0 b++[.fin]→0≤n∧n≤50:=by
 intro c' n hm
 rcases CI.1 hm with hm|hm
 ·exact Gj b c 0 h c' n hm
 ·simp at hm
end Go.Proofs.YtemppijblfflgaaGreatDoor.Ev
namespace Go.Proofs.YtemppijblfflgaaGreatDoor.Ev
open Go Go.RowKit
theorem JJ (x:Value) (n:Nat):madeCells #[x] n=(List.replicate n x).toArray:=by
 apply Array.toList_inj.1
 apply Fg
 intro i
 unfold madeCells
 simp only[Array.toList_map,Array.toList_range,Az]
 by_cases hi:i<n
 ·rw[List.getElem?_range hi];simp[Co,hi,Nat.mod_one]
 ·rw[Bq (by simp;omega),Bq (by simp;omega)];rfl
theorem Ci.first {B:Nat} {w0:World} {gg gp gs ga lp bc:Nat} {vd bmv vva:Value} {SA:Nat→Prop} {A:Am} {p:AF} {key:Int} {s:St} (LU:oS B w0 gg gp vd bmv (.map (some bc)) lp p) (CP:tE B w0 gs ga vva SA A s.vars) (hB:B≤w0.heap.size) (Ux:lp≤490000):
  Ci B ((w0.alloc (.cells (List.replicate lp (Value.int .i64 0)).toArray 3)).alloc (.cells #[.pointer (some ⟨gg,0,none⟩),.pointer (some ⟨gs,0,none⟩),.int .u64 key,.slice none 0 0,.bool false,.slice (some ⟨w0.heap.size,0,none⟩) lp lp,.slice none 0 0] 144))
   ⟨w0.heap.size+1,gg,gp,gs,ga,vd,bmv,.map (some bc),lp,.slice none 0 0,.slice (some ⟨w0.heap.size,0,none⟩) lp lp,.slice none 0 0,vva⟩ SA p key A ⟨0,[],false,List.replicate lp 0,⟨s,[]⟩⟩:=by
 have k1:Af (fun b=>w0.heap.size≤b) w0 ((w0.alloc (.cells (List.replicate lp (Value.int .i64 0)).toArray 3)).alloc (.cells #[.pointer (some ⟨gg,0,none⟩),.pointer (some ⟨gs,0,none⟩),.int .u64 key,.slice none 0 0,.bool false,.slice (some ⟨w0.heap.size,0,none⟩) lp lp,.slice none 0 0] 144)):=
  ((Af.refl _ w0).alloc (Ab _) _).alloc (by simp) _
 obtain⟨vl,vf,vq,bm,ha⟩:=CP.ar
 have hl:Sl (fun b=>B≤b) (w0.alloc (.cells (List.replicate lp (Value.int .i64 0)).toArray 3)) 3 1 (.slice (some ⟨w0.heap.size,0,none⟩) lp lp) lp (List.replicate lp (Value.int .i64 0)):=
  Sl.of_row (AM.new w0 _ _) hB (by simp) (by unfold maxLen;omega)
 have e:(List.replicate lp (0:Int)).map L6=List.replicate lp (Value.int .i64 0):=by rw[ae];rfl
 have el:(List.replicate lp (0:Int)).length=lp:=F0
 refine⟨LU.kept k1 (fun b hb=>Ai hB hb),?_,CP.srow.kept k1 (by have:=CP.srow.lt;omega),⟨Cz _ _ _ _,fun g hg=>by cases hg⟩,?_,⟨Cz _ _ _ _,fun g hg=>by cases hg⟩,
  CP.vars.kept k1 (fun b hb=>by have:=CP.vars.lt hb;omega),⟨vl,vf,vq,bm,(ha.shrink.kept k1 (fun b hb=>by have:=hb.2;omega)).mono (fun b hb=>hb.1)⟩,?_,CP.gs0,fun b hb=>⟨(CP.sa b hb).1,AD (CP.sa b hb).2 k1.size⟩,fun hb=>?_,CP.ss,(fun b hb=>by cases hb),fun b hb hs=>?_,(fun b hb=>by cases hb),CP.s4,(fun b hb=>by cases hb),(fun b hb=>by cases hb),fun b hb hv=>?_⟩
 ·have h:=AM.new (w0.alloc (.cells (List.replicate lp (Value.int .i64 0)).toArray 3)) 144 [.pointer (some ⟨gg,0,none⟩),.pointer (some ⟨gs,0,none⟩),.int .u64 key,.slice none 0 0,.bool false,.slice (some ⟨w0.heap.size,0,none⟩) lp lp,.slice none 0 0]
  simpa using h
 ·show Sl _ _ _ 1 _ (List.replicate lp (0:Int)).length ((List.replicate lp (0:Int)).map L6)
  rw[e,el]
  exact hl.alloc _
 ·show B≤w0.heap.size+1
  omega
 ·have:=(CP.sa _ hb).2;simp only at this;omega
 ·injection hb with hb
  simp only at hb
  subst hb
  have:=(CP.sa _ hs).2;omega
 ·injection hb with hb
  simp only at hb
  subst hb
  have:=CP.vars.lt hv;omega
theorem bL:(Tryz.prog.info? 120).map (fun i=>(i.zero,i.size,i.bytes))=some (some (.slice none 0 0),1,24):=by kernel_rfl
theorem iv:(Tryz.prog.info? 4).map (fun i=>(i.zero,i.size,i.bytes))=some (some (.bool false),1,1):=by kernel_rfl
theorem lA (n:Nat) (hn:n≤1000) (W:World):(Instr.makeSlice 119 (.int .i64 (n:Int)) (.int .i64 (n:Int))).run Tryz.prog W=
  .ok (.slice (some ⟨W.heap.size,0,none⟩) n n) (W.alloc (.cells (List.replicate n (Value.slice none 0 0)).toArray 120)):=by
 obtain⟨i0,Lt,KX,Ls,Lr⟩:=Cj bL
 have h:=pz (P:=Tryz.prog) W 119 120 i0 _ Tryz.underlying119 Lt KX .i64 .i64 (n:Int) (n:Int) (by omega) (by omega) (by rw[Lr];omega) (by omega)
 rw[Ls,A3]at h
 have e:(Value.slice none 0 0).cells=#[Value.slice none 0 0]:=rfl
 rw[e,Jm,JJ]at h
 exact h
theorem uK (n:Nat) (hn:n≤1000) (W:World):(Instr.makeSlice 48 (.int .i64 (n:Int)) (.int .i64 (n:Int))).run Tryz.prog W=
  .ok (.slice (some ⟨W.heap.size,0,none⟩) n n) (W.alloc (.cells (List.replicate n (Value.bool false)).toArray 4)):=by
 obtain⟨i0,Lt,KX,Ls,Lr⟩:=Cj iv
 have h:=pz (P:=Tryz.prog) W 48 4 i0 _ Tryz.underlying48 Lt KX .i64 .i64 (n:Int) (n:Int) (by omega) (by omega) (by rw[Lr];omega) (by omega)
 rw[Ls,A3]at h
 have e:(Value.bool false).cells=#[Value.bool false]:=rfl
 rw[e,Jm,JJ]at h
 exact h
theorem C0.nil_ (N:Nat→Prop) (w:World):C0 N w (.slice none 0 0) .nil:=⟨[],⟨Cz _ _ _ _,fun g hg=>by cases hg⟩,rfl⟩
theorem Hz.none_ (N:Nat→Prop) (w:World) (n:Nat):Hz N w [] false (.slice none 0 0) n (List.replicate n false) (List.replicate n (.slice none 0 0)):=
 ⟨rfl,C0.nil_ N w,fun k hk=>by rw[Co,Ak hk];rfl,fun k hk=>⟨.slice none 0 0,by rw[Co,Ak hk],C0.nil_ N w⟩⟩
theorem Sl.made {N:Nat→Prop} {w:World} {t:TypeId} {n:Nat} {x:Value} (h0:N w.heap.size) (hn:n≤maxLen):Sl N (w.alloc (.cells (List.replicate n x).toArray t)) t 1 (.slice (some ⟨w.heap.size,0,none⟩) n n) n (List.replicate n x):=
 ⟨⟨by simp,.inr ⟨w.heap.size,n,_,rfl,Bn _,OR w _,Ab _,hn,by simp,by simp⟩⟩,fun g hg=>by injection hg with hg;simp only at hg;exact hg▸h0⟩
abbrev yA:Ff:=⟨0,0,0,0,0,0,0,[],0,0⟩
theorem RP.start {B:Nat} {W:World} {tl:Value} {ts:List CB} (hs:Sl (fun b=>B≤b) W 127 3 tl ts.length (ts.flatMap Kk)) (Kv:ts.length≤1000) (hB:B≤W.heap.size):
  RP B ((W.alloc (.cells #[.slice none 0 0,.int .i64 0,.slice none 0 0,.slice none 0 0,.slice none 0 0,.bool false] 122)).alloc (.cells #[tl,.int .i64 0,.int .i64 0,.int .i64 0,.int .i64 0,.int .i64 0,.int .i64 0,.int .i64 0,.pointer (some ⟨W.heap.size,0,none⟩),.int .i64 0] 124))
   (W.heap.size+1) W.heap.size tl ts 0 Bx Bx Bx false yA Bx:=by
 have hp:=AM.new W 122 [.slice none 0 0,.int .i64 0,.slice none 0 0,.slice none 0 0,.slice none 0 0,.bool false]
 have hr:=AM.new (W.alloc (.cells #[.slice none 0 0,.int .i64 0,.slice none 0 0,.slice none 0 0,.slice none 0 0,.bool false] 122)) 124 [tl,.int .i64 0,.int .i64 0,.int .i64 0,.int .i64 0,.int .i64 0,.int .i64 0,.int .i64 0,.pointer (some ⟨W.heap.size,0,none⟩),.int .i64 0]
 simp only[RX]at hr
 have Uv:∀W',Sl (fun b=>B≤b) W' 130 3 Bx 0 []:=fun W'=>⟨Cz _ _ _ _,fun g hg=>by cases hg⟩
 exact⟨⟨hr,⟨_,(hs.alloc _).alloc _⟩,Kv,hp.alloc _,⟨_,Bx,rfl,Uv _⟩,Bn _⟩,Nat.le_succ_of_le hB,hB,Uv _,by simp;omega⟩
section
variable {w:World} {gw:Nat×Nat} {s:Ae}
theorem gJ (hw:PH w gw) (s:Ae):Calls Tryz.prog 29 #[vs s] w (zW11 w s):=by
 by_cases h7:700<s.length
 ·have hr:=Aa (T5 h7)
  have Fw:=At s
  have Mh:(700:Int)<(s.length:Int):=by omega
  clear h7 hw
  unfold vs
  go_enter Tryz.func29,Tryz.ntmps29
  go_wp2
  go_ret3
  refine⟨Af.refl _ _,?_⟩
  rw[hr.out]
  rfl
 ·have GM:=aP hw (s:=s) (by omega)
  have Fw:=At s
  have Mh:(s.length:Int)≤700:=by omega
  have MG:=Aa GM
  have H7:=Aa h7
  clear GM h7 hw
  unfold vs at*
  go_enter Tryz.func29,Tryz.ntmps29
  go_wp2_with fail
  refine MG.out.mono ?_
  rintro e w1 ⟨Bi,tl,rfl,sA⟩
  have hlen:=gC s
  obtain⟨ta,tc,rfl⟩:=sA.any_
  generalize Kv:(Value.slice ta (Pb s).length tc)=tl at*
  have hP:=RP.start (B:=w.heap.size) sA (by omega) Bi.size
  have kP:Af (fun b=>w.heap.size≤b) w ((w1.alloc (.cells #[.slice none 0 0,.int .i64 0,.slice none 0 0,.slice none 0 0,.slice none 0 0,.bool false] 122)).alloc (.cells #[tl,.int .i64 0,.int .i64 0,.int .i64 0,.int .i64 0,.int .i64 0,.int .i64 0,.int .i64 0,.pointer (some ⟨w1.heap.size,0,none⟩),.int .i64 0] 124)):=
   (Bi.alloc Bi.size _).alloc (by simp;have:=Bi.size;omega) _
  have zW:WJ w.heap.size w ((w1.alloc (.cells #[.slice none 0 0,.int .i64 0,.slice none 0 0,.slice none 0 0,.slice none 0 0,.bool false] 122)).alloc (.cells #[tl,.int .i64 0,.int .i64 0,.int .i64 0,.int .i64 0,.int .i64 0,.int .i64 0,.int .i64 0,.pointer (some ⟨w1.heap.size,0,none⟩),.int .i64 0] 124)) (w1.heap.size+1) w1.heap.size tl (Pb s) s 701 (.ok () (start s)) yA 0 Bx:=
   ⟨hP,kP,AB.start s,rfl,fun st e=>by
    injection e with _ e
    subst e
    have hl:left s (start s)≤701:=by unfold left;omega
    exact⟨Rw s (by omega),rfl,rfl,hl⟩,by
    have hl:left s (start s)≤701:=by unfold left;omega
    show 0+left s (start s)≤702
    omega⟩
  have HD0:=Aa zW
  clear sA hP kP zW MG
  subst Kv
  generalize hTS:Pb s=TS at*
  have tL:=Aa (show DD TS (toks s)from hTS▸YI s)
  clear hTS
  go_upto_block 0 with fail
  generalize (w1.alloc (.cells #[.slice none 0 0,.int .i64 0,.slice none 0 0,.slice none 0 0,.slice none 0 0,.bool false] 122)).alloc (.cells #[.slice ta TS.length tc,.int .i64 0,.int .i64 0,.int .i64 0,.int .i64 0,.int .i64 0,.int .i64 0,.int .i64 0,.pointer (some ⟨w1.heap.size,0,none⟩),.int .i64 0] 124)=W0 at*
  generalize w1.heap.size+1=g at*
  generalize w1.heap.size=gp at*
  clear Bi hlen
  go_cut [] (fun wx=>∃n o1 r1 f1 OM,WJ w.heap.size w wx g gp (.slice ta TS.length tc) TS s n o1 r1 f1 OM∧OC o1=false)
  case first=>
   go_wp2_with fail
   go_loopg [] 702 (fun gg wr=>∃n o1 r1 f1 OM,WJ w.heap.size w wr g gp (.slice ta TS.length tc) TS s n o1 r1 f1 OM∧C6 s o1≤gg)
   case atStart=>exact⟨701,_,_,_,_,HD0.out,by have:=HD0.out.dl;simp at this ⊢;omega⟩
   case round=>
    clear HD0
    obtain⟨n,o1,r1,f1,OM,hL,hg⟩:=hrel
    have i1:=fun W (h:FQ W g gp (.slice ta TS.length tc) TS [OM,.int .i64 f1,Bx,Bx,Bx,.bool false] r1)=>JG h hL.says tL.out (kd:=G1) (kr:=G1) (by decide) (by decide)
    have i2:=fun W (h:FQ W g gp (.slice ta TS.length tc) TS [OM,.int .i64 f1,Bx,Bx,Bx,.bool false] r1)=>JG h hL.says tL.out (kd:=G4) (kr:=G4) (by decide) (by decide)
    have i3:=fun W (h:FQ W g gp (.slice ta TS.length tc) TS [OM,.int .i64 f1,Bx,Bx,Bx,.bool false] r1)=>JG h hL.says tL.out (kd:=IY) (kr:=IY) (by decide) (by decide)
    have i4:=fun W (h:FQ W g gp (.slice ta TS.length tc) TS [OM,.int .i64 f1,Bx,Bx,Bx,.bool false] r1)=>JG h hL.says tL.out (kd:=BX) (kr:=BX) (by decide) (by decide)
    have I1:=Aa i1
    have I2:=Aa i2
    have I3:=Aa i3
    have I4:=Aa i4
    have HL:=Aa hL
    have HG:=Aa hg
    have HE:=Aa (bK o1)
    clear i1 i2 i3 i4 hL hg
    unfold vs at*
    go_upto_region 4 with fail
    go_cut [28] (fun s28 wx=>s28= .bool (OC o1)∧∃q,wx=wr.drewN q)
    case first=>
     cases b1:o1.isB G1 with
     |true=>
      rw[b1]at I1 HE
      go_wp2_with fail
      refine(I1.out _ HL.out.rp.rd).mono ?_
      rintro x w2 ⟨rfl,q1,rfl⟩
      go_wp2
      go_meet
      exact⟨by rw[HE.out];rfl,q1,rfl⟩
     |false=>
      rw[b1]at I1 HE
      cases b2:o1.isB G4 with
      |true=>
       rw[b2]at I2 HE
       go_wp2_with fail
       refine(I1.out _ HL.out.rp.rd).mono ?_
       rintro x w2 ⟨rfl,q1,rfl⟩
       go_wp2_with fail
       refine(I2.out _ (HL.out.rp.rd.drewN _)).mono ?_
       rintro x w2 ⟨rfl,q2,rfl⟩
       go_wp2
       go_meet
       exact⟨by rw[HE.out];rfl,_,rfl⟩
      |false=>
       rw[b2]at I2 HE
       cases b3:o1.isB IY with
       |true=>
        rw[b3]at I3 HE
        go_wp2_with fail
        refine(I1.out _ HL.out.rp.rd).mono ?_
        rintro x w2 ⟨rfl,q1,rfl⟩
        go_wp2_with fail
        refine(I2.out _ (HL.out.rp.rd.drewN _)).mono ?_
        rintro x w2 ⟨rfl,q2,rfl⟩
        go_wp2_with fail
        refine(I3.out _ (HL.out.rp.rd.drewN _)).mono ?_
        rintro x w2 ⟨rfl,q3,rfl⟩
        go_wp2
        go_meet
        exact⟨by rw[HE.out];rfl,_,rfl⟩
       |false=>
        rw[b3]at I3 HE
        cases b4:o1.isB BX
        all_goals
         rw[b4]at I4 HE
         go_wp2_with fail
         refine(I1.out _ HL.out.rp.rd).mono ?_
         rintro x w2 ⟨rfl,q1,rfl⟩
         go_wp2_with fail
         refine(I2.out _ (HL.out.rp.rd.drewN _)).mono ?_
         rintro x w2 ⟨rfl,q2,rfl⟩
         go_wp2_with fail
         refine(I3.out _ (HL.out.rp.rd.drewN _)).mono ?_
         rintro x w2 ⟨rfl,q3,rfl⟩
         go_wp2_with fail
         refine(I4.out _ (HL.out.rp.rd.drewN _)).mono ?_
         rintro x w2 ⟨rfl,q4,rfl⟩
         go_wp2
         go_meet
         exact⟨by rw[HE.out];rfl,_,rfl⟩
    case rest=>
     obtain⟨rfl,q,rfl⟩:=hcut
     clear I1 I2 I3 I4 HE
     have Ww:=HL.out
     have hP1:=Ww.rp.drewN q
     have kP1:=Ww.kept.drewN q
     cases hid:OC o1 with
     |true=>
      obtain⟨st,rfl,OE⟩:=Zf hid
      obtain⟨m1,m2,m3,m4⟩:=Ww.mid st rfl
      have LW:=Ww.dl
      have qD:=gU hP1 Ww.says tL.out OE (by omega) m3
      have HDC:=Aa qD
      have Ye:=Aa OE
      clear Ww hP1 kP1 qD OE hid m1 m2 m3 m4 LW
      go_wp2_with fail
      refine HDC.out.mono ?_
      rintro x w2 ⟨rfl,A4,f2,oG,r2,qJ,Cp,vT,Ik⟩
      have FF:=HL.out.next Ye.out (((Af.refl _ wr).drewN q).trans A4) qJ Cp vT Ik
      have oX:=Aa FF
      have Cy:=FF.2
      have hg:=HG.out
      clear FF A4 qJ Cp vT Ik HDC
      go_wp2
      go_roundg (C6 s (decl s st))
      case measure=>omega
      case rel=>
       obtain⟨⟨n',hn⟩,_⟩:=oX.out
       exact⟨n',_,_,_,_,hn,Ab _⟩
     |false=>
      have HF:=Aa hid
      clear Ww hP1 kP1 hid
      go_wp2
      go_meet
      obtain⟨l1,l2,l3,l4,l5,l6⟩:=HL.out
      exact⟨n,o1,r1,f1,OM,⟨l1.drewN q,l2.drewN q,l3,l4,l5,l6⟩,HF.out⟩
  case rest=>
   obtain⟨n,o1,r1,f1,OM,hL,hid⟩:=hcut
   clear HD0
   have ho1:o1=M7 s 702 (.ok () (start s)):=by rw[←hL.eq,cE hid]
   have LW:=hL.dl
   have hP:=hL.rp
   have Mh:=hP.sl
   obtain⟨ad,cd,rfl⟩:=Mh.any_
   have c8:=hP.rd.cells.2.2.2.2.2.2.2.2.1
   have p0:=hP.rd.pol.cell 0
   have p2:=hP.rd.pol.cell 2
   have pf:=fun j=>hP.rd.pol.frozen j
   have pl:=hP.rd.pol.lt
   have rl:=hP.rd.row.lt
   simp at p0 p2
   have Pg:=lA r1.decls.length (by omega)
   have HL:=Aa hL
   have HO1:=Aa ho1
   have XL:=Aa (show r1.decls.length≤702 by omega)
   have HID:=Aa hid
   clear hL hP Mh ho1 LW hid
   generalize oK:r1.decls.length=N at*
   have dK:=Aa oK
   generalize hEE:(List.replicate N (Value.slice none 0 0))=E at Pg
   have HEE:=Aa hEE
   clear oK hEE
   unfold Bx at*
   go_upto_region 6 with fail
   go_cut [] (fun wx=>∃vr,RP w.heap.size wx g gp (.slice ta TS.length tc) TS f1 vr (.slice none 0 0) (.slice none 0 0) false r1 (.slice ad N cd)∧Sl (fun b=>w.heap.size≤b) wx 120 1 vr N (List.replicate N (Value.slice none 0 0))∧Af (fun b=>w.heap.size≤b) w wx)
   case first=>
    go_region
    go_wp2
    go_meet
    have JS:=HL.out.rp.sz
    have Ti:=HL.out.rp.setPol 2 (.slice (some ⟨wc.heap.size,0,none⟩) N N) (vr':=.slice (some ⟨wc.heap.size,0,none⟩) N N) (vh':=Bx) (vm':=Bx) (ms':=false) rfl
    have LV:=Sl.made (N:=fun b=>w.heap.size≤b) (w:=wc.setCell ⟨gp,2,none⟩ (.slice (some ⟨wc.heap.size,0,none⟩) N N)) (t:=120) (n:=N) (x:=Value.slice none 0 0) (by simpa using JS) (by unfold maxLen;have:=XL.out;omega)
    simp only[Z4]at LV
    rw[←HEE.out]
    exact⟨_,(Ti.alloc _).drewN 1,LV.of_heap rfl,((HL.out.kept.setCell (p:=⟨gp,2,none⟩) HL.out.rp.p0 _).alloc (by simpa using JS) _).drew⟩
   case rest=>
    obtain⟨vr,hP,yN,hk⟩:=hcut
    have _I:=hP.rd.cells.2.2.2.2.2.2.2.2.1
    have p0':=hP.rd.pol.cell 0
    have p3':=hP.rd.pol.cell 3
    have pf':=fun j=>hP.rd.pol.frozen j
    have pl':=hP.rd.pol.lt
    have rl':=hP.rd.row.lt
    simp at p0' p3'
    have zq:=uK N (by have:=XL.out;omega)
    have HVR:=Aa yN
    have HP:=Aa hP
    have HK:=Aa hk
    clear c8 p0 p2 pf pl rl Pg hP yN hk
    generalize _k:(List.replicate N (Value.bool false))=E2 at zq
    have Agm:=Aa _k
    clear _k
    go_upto_region 7 with fail
    go_cut [] (fun wx=>∃vh,RP w.heap.size wx g gp (.slice ta TS.length tc) TS f1 vr vh (.slice none 0 0) false r1 (.slice ad N cd)∧Sl (fun b=>w.heap.size≤b) wx 4 1 vh N (List.replicate N (Value.bool false))∧Sl (fun b=>w.heap.size≤b) wx 120 1 vr N (List.replicate N (Value.slice none 0 0))∧Af (fun b=>w.heap.size≤b) w wx)
    case first=>
     go_region
     go_wp2
     go_meet
     have JS:=HP.out.sz
     have Ti:=HP.out.setPol 3 (.slice (some ⟨wc.heap.size,0,none⟩) N N) (vr':=vr) (vh':=.slice (some ⟨wc.heap.size,0,none⟩) N N) (vm':=.slice none 0 0) (ms':=false) rfl
     have LV:=Sl.made (N:=fun b=>w.heap.size≤b) (w:=wc.setCell ⟨gp,3,none⟩ (.slice (some ⟨wc.heap.size,0,none⟩) N N)) (t:=4) (n:=N) (x:=Value.bool false) (by simpa using JS) (by unfold maxLen;have:=XL.out;omega)
     simp only[Z4]at LV
     rw[←Agm.out]
     have Acm:Af (fun b=>b=gp) wc (wc.setCell ⟨gp,3,none⟩ (.slice (some ⟨wc.heap.size,0,none⟩) N N)):=Af.one wc ⟨gp,3,none⟩ _
     have Uq:=(HVR.out.kept Acm (fun b hb e=>HVR.out.ne_row HP.out.rd.pol (by decide) (e▸hb))).alloc (.cells (List.replicate N (Value.bool false)).toArray 4)
     exact⟨_,(Ti.alloc _).drewN 1,LV.of_heap rfl,Uq.of_heap rfl,((HK.out.setCell (p:=⟨gp,3,none⟩) HP.out.p0 _).alloc (by simpa using JS) _).drew⟩
    case rest=>
     obtain⟨vh,hP,hvh,yN,hk⟩:=hcut
     have bT:WF w.heap.size w wc g gp (.slice ta TS.length tc) TS s 701 o1 o1 r1 f1 vr vh (.slice none 0 0) false (.slice ad N cd) (List.replicate N false) (List.replicate N (.slice none 0 0)):=by
      refine⟨⟨hP,⟨?_,?_,?_,?_,?_⟩,⟨_,_,_,rfl⟩⟩,hk,HL.out.says,rfl,fun st e=>?_⟩
      ·rw[dK.out,ae];exact hvh
      ·rw[dK.out];exact yN
      ·rw[dK.out,F0]
      ·rw[dK.out,F0]
      ·intro v hv
       rw[List.eq_of_mem_replicate hv]
       exact⟨_,_,_,rfl⟩
      ·obtain⟨m1,m2,m3,m4⟩:=HL.out.mid st e
       refine⟨m1,m3,by have:=m1.dl;omega,Ab _,fun _=>?_⟩
       rw[m2,dK.out]
       exact Hz.none_ _ _ _
     have _8:=Aa bT
     clear _I p0' p3' pf' pl' rl' zq hP hvh yN hk bT HVR HP HK
     go_upto_block 2 with fail
     go_cut [] (fun wx=>∃n2 o2 r2 ug xy Cp uu,WF w.heap.size w wx g gp (.slice ta TS.length tc) TS s n2 o1 o2 r2 f1 vr vh ug xy (.slice ad N cd) Cp uu∧o2.isB Mv=false)
     case first=>
      go_wp2_with fail
      go_loopg [] 702 (fun gg wr=>∃n2 o2 r2 ug xy Cp uu,WF w.heap.size w wr g gp (.slice ta TS.length tc) TS s n2 o1 o2 r2 f1 vr vh ug xy (.slice ad N cd) Cp uu∧C6 s o2≤gg)
      case atStart=>exact⟨701,_,_,_,_,_,_,_8.out,by have:=Uk (s:=s) o1;have:=H7.out;omega⟩
      case round=>
       clear _8
       obtain⟨n2,o2,r2,ug,xy,Cp,uu,oQ,hg⟩:=hrel
       have i1:=JG oQ.rq.rd oQ.says tL.out (kd:=Mv) (kr:=Mv) (by decide) (by decide)
       have I1:=Aa i1
       have Mk:=Aa oQ
       have HG:=Aa hg
       clear i1 oQ hg
       unfold vs at*
       cases b1:o2.isB Mv with
       |true=>
        obtain⟨a0,st,rfl,OE⟩:=AJ.isB_ok b1
        cases a0
        obtain⟨m1,m2,m3,m5,m4⟩:=Mk.out.mid st rfl
        rw[b1]at I1
        clear b1
        go_wp2_with fail
        refine I1.out.mono ?_
        rintro x w2 ⟨rfl,q1,rfl⟩
        have Xj:=gI (Mk.out.rq.call ((Af.refl _ wr).drewN q1) (Mk.out.rq.rd.drewN q1) rfl) Mk.out.says tL.out (by have:=H7.out;omega) OE m1.depth m1.loops (by have:=m1.dl;omega) (fun hw=>(m4 hw).kept (fun _ _ _ _=>rfl))
        have tQ:=Aa Xj
        have Ye:=Aa OE
        clear Xj m1 m2 m3 m4 m5 OE
        go_wp2_with fail
        refine tQ.out.mono ?_
        rintro x w3 ⟨rfl,BY,vm3,ms3,r3,Fo,rs3,xB,hy3,Gx,Pz⟩
        have FF:=Mk.out.next Ye.out (((Af.refl _ wr).drewN q1).trans BY) xB hy3 Gx Pz
        have oX:=Aa FF
        have Cy:C6 s (Gc s 1500 st)<C6 s (AJ.ok () st:AJ Unit):=FF.2
        have hg:C6 s (AJ.ok () st:AJ Unit)≤_:=HG.out
        clear FF BY xB hy3 Gx Pz tQ
        go_wp2
        go_roundg (C6 s (Gc s 1500 st))
        case measure=>omega
        case rel=>
         obtain⟨⟨n',hn⟩,_⟩:=oX.out
         exact⟨n',_,_,_,_,_,_,hn,Ab _⟩
       |false=>
        rw[b1]at I1
        have fp:=Aa b1
        clear b1
        go_wp2_with fail
        refine I1.out.mono ?_
        rintro x w2 ⟨rfl,q1,rfl⟩
        go_wp2
        go_meet
        obtain⟨l1,l2,l3,l4,l5⟩:=Mk.out
        exact⟨n2,o2,r2,ug,xy,Cp,uu,⟨l1.call ((Af.refl _ wr).drewN q1) (l1.rd.drewN q1) rfl,l2.drewN q1,l3,l4,fun st e=>by
         obtain⟨m1,m2,m3,m5,m4⟩:=l5 st e
         exact⟨m1,m2,m3,m5,fun hw=>(m4 hw).kept (fun _ _ _ _=>rfl)⟩⟩,fp.out⟩
     case rest=>
      obtain⟨n2,o2,r2,ug,xy,Cp,uu,oQ,sJ⟩:=hcut
      clear _8
      have ho2:o2=ML s 1500 702 o1:=by rw[←oQ.eq,ba sJ]
      have N3:EA s=BC s DJ o2:=by
       rw[bq,ho2,HO1.out]
       rfl
      have IZ:=gL oQ.rq.rd oQ.says tL.out
      have Tv:=Aa IZ
      have Mk:=Aa oQ
      have Sd:=Aa N3
      clear IZ oQ N3 ho2 sJ
      unfold vs at*
      go_wp2_with fail
      refine Tv.out.mono ?_
      rintro x w4 ⟨x4,rfl,CU,r4,h4,Fz,hm4⟩
      have c4:=h4.cells.2.2.2.2.1
      have c5:=h4.cells.2.2.2.2.2.1
      have c6:=h4.cells.2.2.2.2.2.2.1
      have c7:=h4.cells.2.2.2.2.2.2.2.1
      have _I:=h4.cells.2.2.2.2.2.2.2.2.1
      have p5:=h4.pol.cell 5
      simp at p5
      have rl4:=h4.row.lt
      have pl4:=h4.pol.lt
      have K4:=Aa (Mk.out.kept.trans (Ul CU Mk.out.rq.g0 Mk.out.rq.sz))
      have H4:=Aa h4
      have Rq:=Aa CU
      have Vi:=Aa (show r4.decls=r2.decls from Fz)
      clear CU h4 Fz Tv
      unfold DB
      cases hw:BC s DJ o2 with
      |bad e p=>
       rw[hw]at hm4 Sd
       obtain⟨e1,e2,e3⟩:=hm4
       have f1:((r4.bad:Int)==0)=false:=by rw[e1];simpa using e3
       have f2:decide ((r4.bad:Int)=0)=false:=by rw[e1];simpa using e3
       have HB:=Aa (And.intro e1 e2)
       have HR:=Aa (lj H7.out Sd.out)
       clear hw e1 e2 e3
       unfold vs at*
       go_wp2
       go_region
       go_wp2
       go_ret3
       refine⟨K4.out.drewN 1,?_⟩
       rw[HR.out,HB.out.1,HB.out.2]
       rfl
      |ok t4 Io=>
       rw[hw]at hm4 Sd
       obtain⟨e1,e2⟩:=hm4
       have f1:(r4.bad:Int)=0:=by rw[e1];rfl
       rw[f1]at c4
       have HW:=Aa hw
       clear hw e1 f1
       cases Pe:Io.wrong with
       |some y=>
        rw[Pe]at e2
        obtain⟨e3,e4,e5⟩:=e2
        have f1:((r4.wrong:Int)==0)=false:=by rw[e3];simpa using e5
        have f2:decide ((r4.wrong:Int)=0)=false:=by rw[e3];simpa using e5
        have HB:=Aa (And.intro e3 e4)
        have HR:=Aa (bo H7.out Sd.out Pe)
        clear Pe e3 e4 e5
        unfold vs at*
        go_wp2
        go_region
        go_wp2
        go_ret3
        refine⟨K4.out.drewN 1,?_⟩
        rw[HR.out,HB.out.1,HB.out.2]
        rfl
       |none=>
        rw[Pe]at e2
        have f1:(r4.wrong:Int)=0:=by rw[show r4.wrong=0 from e2];rfl
        rw[f1]at c6
        have CP:∃AP,o2= .ok () AP∧Io=next s AP:=by
         have hw:=HW.out
         cases o2 with
         |bad e p=>cases hw
         |ok a AP=>exact⟨AP,rfl,(Bw (show want s DJ AP= .ok t4 Io from hw)).2.2⟩
        obtain⟨AP,rfl,rfl⟩:=CP
        have yK:AP.wrong=none:=Pe
        obtain⟨m1,m2,m3,m5,m4⟩:=Mk.out.mid AP rfl
        have Wr:=(m4 yK).kg Rq.out Mk.out.rq.rd.row
        have hms:=Wr.ms
        have au:=Aa Wr
        have HF:=Aa m2
        have _0:=Aa Pe
        clear Pe e2 f1 m1 m2 m3 m4 m5 Wr yK
        cases xF:(Cm AP.rules).isSome with
        |false=>
         rw[xF]at hms
         have HR:=Aa (YP H7.out Sd.out _0.out xF)
         clear xF
         subst hms
         unfold vs at*
         go_wp2
         go_ret3
         refine⟨K4.out,?_⟩
         rw[HR.out]
         rfl
        |true=>
         rw[xF]at hms
         have HR:=Aa (gS H7.out Sd.out _0.out xF)
         clear xF
         subst hms
         unfold vs at*
         go_wp2
         go_ret3
         refine⟨K4.out,?_⟩
         rw[HR.out]
         have hq:=Mk.out.rq.call Rq.out H4.out Vi.out
         have RG:AP.decls=r4.decls:=by rw[Vi.out];exact(AB.decls Mk.out.says).symm
         refine⟨gp,rfl,.slice ad N cd,vr,vh,ug,Cp,uu,?_,?_,?_,?_,hq.p0,hq.vms⟩
         ·show AM w4 gp _ [_,.int .i64 AP.freq,_,_,_,.bool true]
          rw[←HF.out]
          exact H4.out.pol
         ·show Sl _ w4 _ 3 _ AP.decls.length (AP.decls.flatMap FL)
          rw[RG]
          exact hq.sl
         ·show RZ _ w4 _ _ AP.decls.length _ _
          rw[RG]
          exact hq.ru
         ·show Hz _ w4 AP.rules true _ AP.decls.length _ _
          rw[RG,Vi.out]
          exact au.out
end
def xV (w:World) (size:Nat) (u:Value) (m:Nat) (news:List Value):Prop:=
 news.length=m*size∧((u= .slice none 0 0∧m=0)∨∃ad c,u= .slice (some ad) m c∧∀j x,news[j]?=some x→w.cell? (ad.add j)=some x)
section
variable {S:Nat→Prop} {w w':World} {e:TypeId} {size n m:Nat} {u v:Value} {xs news:List Value}
theorem Sl.src (h:Sl S w e size v n xs):xV w size v n xs:=by
 refine⟨h.1.1,?_⟩
 rcases h.1.2 with⟨h1,h0⟩|⟨g,cap,cur,rfl,_⟩
 ·exact .inl ⟨h1,h0⟩
 ·refine .inr ⟨_,_,rfl,fun j x hj=>?_⟩
  exact h.1.cells (g:=g) rfl j x hj
theorem xV.kept {T:Nat→Prop} (h:xV w size u m news) (hk:Af T w w') (hT:∀ad n c,u= .slice (some ad) n c→¬T ad.block):xV w' size u m news:=by
 refine⟨h.1,?_⟩
 rcases h.2 with h2|⟨ad,c,rfl,h3⟩
 ·exact .inl h2
 ·refine .inr ⟨ad,c,rfl,fun j x hj=>?_⟩
  have hb:(ad.add j).block=ad.block:=by unfold Addr.add;split<;>rfl
  exact(hk.cell (p:=ad.add j) (by rw[hb];exact hT ad m c rfl)).trans (h3 j x hj)
theorem Sl.later {T:Nat→Prop} (h:Sl S w e size v n xs) (hk:Af T w w') (hT:∀b,T b→w.heap.size≤b):Sl S w' e size v n xs:=h.kept hk (fun g hg ht=>by have:=h.lt hg;have:=hT g ht;omega)
theorem Sl.src_lt (h:Sl S w e size v n xs):∀ad n c,v= .slice (some ad) n c→ad.block<w.heap.size:=fun ad n c e=>h.lt (by rw[e];rfl)
theorem Sl.nil_ (S:Nat→Prop) (w:World) (e:TypeId) (size:Nat):Sl S w e size (.slice none 0 0) 0 []:=⟨Cz _ _ _ _,fun g hg=>by cases hg⟩
theorem kU {P:Program} {w0:World} {N:Nat} {i:TypeInfo} {z:Value} {bytes:Nat} {t ty:TypeId} (hk:Af (fun b=>N≤b) w0 w) (hN:N≤w.heap.size) (qk:xV w0 size u m news) (hb:∀ad n c,u= .slice (some ad) n c→ad.block<N)
  (ht:P.underlying t=some (.slice e)) (hi:P.info? e=some i) (hz:i.zero=some z) (NY:i.size=size) (qI:i.bytes=bytes) (qg:z.cells.size=size) (Fw:0<size) (h1:∀u∈news,u.oneCell'=true)
  (tx:m≤maxLen) (MZ:m*bytes≤140737488355328):
  ∃v' w',(Builtin.append_ #[t,t] ty #[.slice none 0 0,u]).run P w= .ok v' w'∧Sl (fun b=>w.heap.size≤b) w' e size v' m news∧Af (fun b=>w.heap.size≤b) w w'∧Af (fun b=>N≤b) w0 w':=by
 have sB:=qk.kept hk (fun ad n c hu hn=>by have:=hb ad n c hu;omega)
 rcases sB.2 with⟨rfl,rfl⟩|⟨ad,c,rfl,hc⟩
 ·have hn:news=[]:=jZ (by simpa using qk.1)
  subst hn
  exact⟨_,_,run_append_owned_none (P:=P) (w:=w) 0 t ty e i size ht hi (.slice none 0 0) 0 [] (Cz _ _ _ _),Sl.nil_ _ _ _ _,Af.refl _ _,hk⟩
 ·obtain⟨v',w',hr,h2,h3,_,h5⟩:=run_append_own_at (P:=P) w 0 t ty e i z size bytes ht hi hz NY qI qg Fw (.slice none 0 0) 0 [] (Cz _ _ _ _) ad m c news sB.1 hc h1 (by omega) (by rw[FA];exact MZ) (Bn _)
  have A4:Af (fun b=>w.heap.size≤b) w w':=⟨h3.os,h3.tape,h3.output,h3.size,fun k hk=>h3.block k (by omega) (by simp[Value.ownBlock])⟩
  refine⟨v',w',hr,⟨by simpa using h2,fun g hg=>?_⟩,A4,hk.trans (A4.mono (fun b hb=>Ai hN hb))⟩
  rcases h5 with h5|h5
  ·rw[h5]at hg;cases hg
  ·rw[h5]at hg
   injection hg with hg
   exact hg▸Ab _
theorem Ov {P:Program} {ops:Array Oper} {o:Oper} {a:Act} {K:Act→World→Prop} {Q:Exit→Act→World→Prop} {E:Prop} {w0:World} {N:Nat} {i:TypeInfo} {z:Value} {bytes:Nat} {t:TypeId}
  (hk:Af (fun b=>N≤b) w0 w) (hN:N≤w0.heap.size) (qk:xV w0 size u m news) (hb:∀ad n c,u= .slice (some ad) n c→ad.block<N)
  (ht:P.underlying t=some (.slice e)) (hi:P.info? e=some i) (hz:i.zero=some z) (NY:i.size=size) (qI:i.bytes=bytes) (qg:z.cells.size=size) (Fw:0<size) (h1:∀u∈news,u.oneCell'=true)
  (tx:m≤maxLen) (MZ:m*bytes≤140737488355328) (Ws:o.guard=none) (s x:Operand) (ho:o.op= .call {callee:=.builtin .append,args:=#[s,x],argTypes:=#[t,t]}) (hs:a.eval s= .slice none 0 0) (hx:a.eval x=u)
  (hK:∀a' c' w',Sl (fun b=>w.heap.size≤b) w' e size (.slice a' m c') m news→Af (fun b=>w.heap.size≤b) w w'→Af (fun b=>N≤b) w0 w'→K (a.put o.dst (.slice a' m c')) w'):if Region.wanted o (yielded ops a.tmps)=true then Oper.wp P o a w K Q else E:=by
 have hw:Region.wanted o (yielded ops a.tmps)=true:=by simp[Region.wanted,Ws]
 rw[Ak hw]
 obtain⟨v',w',hr,h2,h3,h4⟩:=kU (P:=P) (ty:=o.type) hk (Ai hN hk.size) qk hb ht hi hz NY qI qg Fw h1 tx MZ
 unfold Oper.wp execOp
 simp only[ho,resolve,invoke,builtin,JE,Sem.run_pure,Ly,List.map_toArray,Cq,dE,hs,hx,hr]
 obtain⟨a',c',rfl⟩:∃a' c',v'= .slice a' m c':=by
  rcases h2.1.2 with⟨e1,e2⟩|⟨g,cap,cur,e1,_⟩
  ·exact⟨none,0,by rw[e1,e2]⟩
  ·exact⟨_,_,e1⟩
 exact hK a' c' w' h2 h3 h4
end
theorem VN.kept {N T:Nat→Prop} {w w':World} {gp:Nat} {p:AF} (h:VN N w gp p) (hk:Af T w w') (hT:∀b,N b→b<w.heap.size→¬T b):VN N w' gp p:=by
 obtain⟨vd,vr,vh,vm,hs,rs,h1,h2,h3,h4,h5,h6⟩:=h
 exact⟨vd,vr,vh,vm,hs,rs,h1.kept hk (hT _ h5 h1.lt),h2.kept hk (fun b hb=>hT b (h2.2 b hb) (h2.lt hb)),h3.kept hk (fun b cs hr hb=>hT b hb hr.lt) (fun b cs hr hb=>hT b hb hr.lt),
  h4.kept (fun k cs hN hr=>hk.block k (hT k hN hr.lt)),h5,h6⟩
theorem VN.decl {N:Nat→Prop} {w:World} {gp:Nat} {p:AF} (h:VN N w gp p) {k:Nat} (hk:k<p.decls.length):∃gd cd,w.cell? ⟨gp,0,none⟩=some (.slice (some ⟨gd,0,none⟩) p.decls.length cd)∧p.decls.length≤cd∧cd≤maxLen∧gd<w.heap.size∧gp<w.heap.size∧
  w.cell? ⟨gd,k*3,none⟩=some (vs (En (Au p.decls (k:Int)).kind))∧w.cell? ⟨gd,k*3+1,none⟩=some (vs (Au p.decls (k:Int)).name)∧w.cell? ⟨gd,k*3+2,none⟩=some (.int .i64 (Au p.decls (k:Int)).max):=by
 obtain⟨vd,vr,vh,vm,hs,rs,h1,h2,_⟩:=h
 obtain⟨gd,cd,rfl,_,q1,q2,q3⟩:=h2.form (by omega)
 have hx:p.decls[k]?=some (Au p.decls (k:Int)):=by
  unfold Au
  rw[A3,Ah hk];rfl
 exact⟨gd,cd,h1.cell 0,q1,q2,q3,h1.lt,h2.at_ (fun _=>rfl) hx (j:=0) (by omega),h2.at_ (fun _=>rfl) hx (j:=1) (by omega),h2.at_ (fun _=>rfl) hx (j:=2) (by omega)⟩
structure QB (s:St):Prop where
 n:s.q.length≤1000
 l:∀l∈s.q,l.length≤100000
end Go.Proofs.YtemppijblfflgaaGreatDoor.Ev
