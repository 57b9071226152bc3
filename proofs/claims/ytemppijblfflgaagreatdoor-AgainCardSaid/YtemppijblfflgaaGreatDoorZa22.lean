/- Parts of a proof that a law's walk returns true. Conditions: none. -/
import Derived.Test.YtemppijblfflgaaGreatDoorZa00
import Derived.Test.YtemppijblfflgaaGreatDoorZa01
import Derived.Test.YtemppijblfflgaaGreatDoorZa05
import Derived.Test.YtemppijblfflgaaGreatDoorZa06
import Derived.Test.YtemppijblfflgaaGreatDoorZa07
import Derived.Test.YtemppijblfflgaaGreatDoorZa08
import Derived.Test.YtemppijblfflgaaGreatDoorZa10
import Derived.Test.YtemppijblfflgaaGreatDoorZa14
import Derived.Test.YtemppijblfflgaaGreatDoorZa19
import Derived.Test.YtemppijblfflgaaGreatDoorZa21
set_option linter.all false
set_option maxRecDepth 100000
set_option maxHeartbeats 8000000
namespace Go.Proofs.YtemppijblfflgaaGreatDoor.Ev
open Go Go.RowKit
theorem fE {k:Nat} (h:k≤2):En k=Dz k:=by
 have h3:k=0∨k=1∨k=2:=by omega
 rcases h3 with rfl|rfl|rfl<;>rfl
theorem MT (k:Nat):(Dz k).length≤5:=by
 unfold Dz
 split
 ·simp
 ·split<;>simp
theorem Lf {p:AF} (hp:EO p) {k:Nat} (hk:k<p.decls.length):(Au p.decls (k:Int)).kind≤2∧(Au p.decls (k:Int)).name.length≤8∧1≤(Au p.decls (k:Int)).max∧(Au p.decls (k:Int)).max≤99∧p.decls[k]?=some (Au p.decls (k:Int)):=by
 have e:p.decls[k]?=some (Au p.decls (k:Int)):=by unfold Au;rw[A3,Ah hk];rfl
 have h:=hp.decls.each _ (A7 e)
 refine⟨h.kind,h.name.2.1,h.lo,?_,e⟩
 have:=h.hi
 split at this<;>omega
def Fc (p:AF) (k:Nat):Ae:=((p.decls.take k).map GT).flatten
theorem Oc {p:AF} {k:Nat} {d:Bf} (h:p.decls[k]?=some d):Fc p (k+1)=Fc p k++GT d:=by
 unfold Fc
 rw[List.take_add_one,h]
 simp
theorem PD {p:AF} (hp:EO p):∀k,k≤p.decls.length→(Fc p k).length≤40*k
 |0,_=>by simp[Fc]
 |k+1,hk=>by
  obtain⟨a,b,c,d,e⟩:=Lf hp (k:=k) (by omega)
  rw[Oc e,Ao]
  have h1:=PD hp k (by omega)
  have h2:=MT (Au p.decls (k:Int)).kind
  have h3:=(EM (n:=(Au p.decls (k:Int)).max) (by omega) (by omega)).2.1
  simp[GT,BE]
  omega
theorem IE {p:AF} (hp:EO p) {k:Int} {b:AC} (h:AE p.rules k=some b):EG p.decls b∧b.size≤700:=by
 have hm:=LG h
 have h1:=TN (x:=(k,b)) hm
 have h2:=hp.size
 exact⟨(hp.rules.each _ hm).w,by simp only at h1;omega⟩
theorem LQ {p:AF} (hp:EO p):∀k,(Bh p k).length≤70100*k
 |0=>by simp[Bh]
 |k+1=>by
  rw[Bh,Ao]
  have h1:=LQ hp k
  have h2:(C5 p k).length≤70100:=by
   unfold C5
   split
   ·rename_i b hb
    have h3:=Ef hp.decls (IE hp hb).1
    have h4:=(IE hp hb).2
    have h5:=Dt hp.decls (k:Int)
    simp[BE]
    omega
   ·simp
  omega
theorem Qc {p:AF} (hp:EO p):(Dm p.freq).length≤20:=by
 unfold Dm
 split
 ·have h3:=(EM (n:=p.freq) (by omega) (by have:=hp.freq;omega)).2.1
  simp[BE]
  omega
 ·simp
section
variable {N:Nat→Prop} {w:World} {gp:Nat} {p:AF}
theorem VN.thr (h:VN N w gp p) (hp:EO p):∃vd vr vh vm,aF w gp vd vr vh vm p.freq p.decls:=by
 obtain⟨vd,vr,vh,vm,hs,rs,h1,h2,_⟩:=h
 exact⟨vd,vr,vh,vm,h1,h2.mono (fun _ _=>trivial),hp.decls⟩
theorem dV (h:VN N w gp p) (hp:EO p) {b:AC} {v:Value} (hb:C0 N w v b) (hw:EG p.decls b) (hs:b.size≤700):∀W,Af (fun b=>w.heap.size≤b) w W→Calls Tryz.prog 57 #[.pointer (some ⟨gp,0,none⟩),v] W (Do W (BJ p.decls b)):=fun W hk=>by
 obtain⟨vd,vr,vh,vm,ht⟩:=h.thr hp
 exact(V3 b.size).2 W gp vd vr vh vm p.freq p.decls b v (ht.later hk) (Ab _) (by omega) hw (T8 hk (hb.mono (fun _ _ _=>trivial)))
theorem fM (h:VN N w gp p) (hp:EO p):Calls Tryz.prog 31 #[.pointer (some ⟨gp,0,none⟩)] w (Do w (text p)):=by
 obtain⟨vd,vr,vh,vm,hs,rs,p1,p2,p3,p4,p5,am,nm,cm,rfl⟩:=id h
 have hn:=hp.decls.len
 have c0:=p1.cell 0
 have c1:=p1.cell 1
 have c2:=p1.cell 2
 have c3:=p1.cell 3
 have c4:=p1.cell 4
 have gl:=p1.lt
 obtain⟨ad,cd,rfl⟩:=p2.any_
 obtain⟨ah,ch,rfl⟩:=p3.has.any_
 obtain⟨ar,cr,rfl⟩:=p3.rul.any_
 simp at c0 c1 c2 c3 c4
 obtain⟨bm,xQ⟩:∃b,Cm p.rules=some b:=Option.isSome_iff_exists.1 hp.miss
 have xP:=IE hp (k:= -1) xQ
 have Zt:∀W,Af (fun b=>w.heap.size≤b) w W→Calls Tryz.prog 57 #[.pointer (some ⟨gp,0,none⟩),.slice am nm cm] W (Do W (BJ p.decls bm)):=dV h hp (by have:=p4.vm;rw[xQ]at this;exact this) xP.1 xP.2
 have xE:=Ef hp.decls xP.1
 have hmt:Ig p=[111,110,32,109,105,115,115,32]++BJ p.decls bm++[10]:=by unfold Ig;rw[xQ];rfl
 have LW:=PD hp
 have Xj:=LQ hp
 have XV:=Qc hp
 have Xo:=hp.freq
 have Aaf:=Aa Zt
 have HMT:=Aa hmt
 have XL:=Aa LW
 have tQ:=Aa Xj
 have dM:=Aa XV
 have H:=Aa h
 have HP:=Aa hp
 have _9:=Aa p3
 have ye:=Aa p4
 generalize hL:p.decls.length=L at*
 have HL:=Aa hL
 clear Zt hmt LW Xj XV h hp p1 p2 p3 p4 p5 xQ hL
 go_enter Tryz.func31,Tryz.ntmps31
 go_wp2_with fail
 go_loopg [13,3] L (fun gg s13 s3 wr=>∃k:Nat,k≤L∧L-k≤gg∧s13= .int .i64 k∧s3= .string ⟨(Fc p k).toArray⟩∧Af (fun b=>w.heap.size≤b) w wr)
 case atStart=>exact⟨0,Bn _,by omega,rfl,rfl,Af.refl _ _⟩
 case round=>
  obtain⟨k,hk,hg,rfl,rfl,CV⟩:=hrel
  have hlen:=XL.out k hk
  by_cases Cy:k<L
  ·obtain⟨gd,cd',f0,f1,f2,f3,f4,f5,f6,f7⟩:=H.out.decl (k:=k) (by have:=HL.out;omega)
   obtain⟨a,b,c,d,e⟩:=Lf HP.out (k:=k) (by have:=HL.out;omega)
   rw[c0]at f0
   injection f0 with f0
   injection f0 with f0 e0 f1'
   subst f0 f1'
   clear e0
   have z0:=(CV.cell (p:=⟨gd,k*3,none⟩) (by simp only;omega)).trans f5
   have z1:=(CV.cell (p:=⟨gd,k*3+1,none⟩) (by simp only;omega)).trans f6
   have z2:=(CV.cell (p:=⟨gd,k*3+2,none⟩) (by simp only;omega)).trans f7
   have zl:=AD f3 CV.size
   rw[fE a]at z0
   have aD:=MT (Au p.decls (k:Int)).kind
   have jH:=(EM (n:=(Au p.decls (k:Int)).max) (by omega) (by omega)).2.1
   have Ur:=Oc e
   have RG:∀W,Af (fun b=>w.heap.size≤b) w W→AM W wr.heap.size 130 [vs (Dz (Au p.decls (k:Int)).kind),vs (Au p.decls (k:Int)).name,.int .i64 (Au p.decls (k:Int)).max]→Calls Tryz.prog 56 #[.int .i64 (Au p.decls (k:Int)).max] W fun y w'=>y= .returned (vs (Ca (Au p.decls (k:Int)).max))∧Af (fun b=>w.heap.size≤b) w w'∧AM w' wr.heap.size 130 [vs (Dz (Au p.decls (k:Int)).kind),vs (Au p.decls (k:Int)).name,.int .i64 (Au p.decls (k:Int)).max]:=fun W hk hr=>by
    refine(P5 (n:=(Au p.decls (k:Int)).max) (by omega) (by omega)).mono ?_
    rintro y w' ⟨h1,h2⟩
    exact⟨h1,hk.trans (h2.mono (fun b hb=>Ai hk.size hb)),hr.kept h2 (fun e=>by have:=hr.lt;omega)⟩
   have qm:GT (Au p.decls (k:Int))=Dz (Au p.decls (k:Int)).kind++BE++(Au p.decls (k:Int)).name++BE++Ca (Au p.decls (k:Int)).max++[59,10]:=rfl
   rw[qm]at Ur
   generalize Dz (Au p.decls (k:Int)).kind=kw at*
   generalize (Au p.decls (k:Int)).name=Ku at*
   generalize hmx:(Au p.decls (k:Int)).max=mx at*
   generalize Ca mx=dg at*
   generalize ZA:Fc p k=SS at*
   have s1:=B6 (P:=Tryz.prog) (a:=⟨kw.toArray⟩) (b:=⟨#[32]⟩) (by simp only[Ag,At,Ac,Aj];omega)
   have s2:=B6 (P:=Tryz.prog) (a:=⟨kw.toArray⟩++⟨#[32]⟩) (b:=⟨Ku.toArray⟩) (by simp only[Ag,At,Ac,Aj];omega)
   have s3:=B6 (P:=Tryz.prog) (a:=⟨kw.toArray⟩++⟨#[32]⟩++⟨Ku.toArray⟩) (b:=⟨#[32]⟩) (by simp only[Ag,At,Ac,Aj];omega)
   have s4:=B6 (P:=Tryz.prog) (a:=⟨kw.toArray⟩++⟨#[32]⟩++⟨Ku.toArray⟩++⟨#[32]⟩) (b:=⟨dg.toArray⟩) (by simp only[Ag,At,Ac,Aj];omega)
   have s5:=B6 (P:=Tryz.prog) (a:=⟨kw.toArray⟩++⟨#[32]⟩++⟨Ku.toArray⟩++⟨#[32]⟩++⟨dg.toArray⟩) (b:=⟨#[59,10]⟩) (by simp only[Ag,At,Ac,Aj];omega)
   have s6:=B6 (P:=Tryz.prog) (a:=⟨SS.toArray⟩) (b:=⟨kw.toArray⟩++⟨#[32]⟩++⟨Ku.toArray⟩++⟨#[32]⟩++⟨dg.toArray⟩++⟨#[59,10]⟩) (by simp only[Ag,At,Ac,Aj];omega)
   have A6:(⟨SS.toArray⟩:ByteArray)++(⟨kw.toArray⟩++⟨#[32]⟩++⟨Ku.toArray⟩++⟨#[32]⟩++⟨dg.toArray⟩++⟨#[59,10]⟩)=⟨(Fc p (k+1)).toArray⟩:=by rw[Ur,BI,BI,BI,BI,BI,BI];rfl
   have Jo:=Aa A6
   have xc:=Aa RG
   have rq:AM (wr.alloc (.cells #[vs kw,vs Ku,.int .i64 mx] 130)).drew wr.heap.size 130 [vs kw,vs Ku,.int .i64 mx]:=(AM.new wr 130 _).drew
   have kq:Af (fun b=>w.heap.size≤b) w (wr.alloc (.cells #[vs kw,vs Ku,.int .i64 mx] 130)).drew:=(CV.alloc CV.size _).drew
   clear A6 RG Ur qm ZA e f5 f6 f7 CV hmx
   unfold vs at*
   go_wp2_with fail
   go_region_law (go_simp;go_at_call 56;refine(xc.out _ ?_ ?_).mono ?_;assumption;assumption;rintro y wq ⟨rfl,kq,rq⟩;have yq:=rq.cell 0;have Tx:=rq.cell 1;have fB:=rq.cell 2;have zl:=rq.lt;simp at yq Tx fB)
   all_goals
    have oY:=Aa kq
    clear kq rq
    go_wp2
    go_roundg (L-(k+1))
    case measure=>omega
    case rel=>exact⟨k+1,by omega,by omega,by go_num,AL Value.string Jo.out,oY.out⟩
  ·have vO:k=L:=by omega
   subst vO
   have PU:=Aa CV
   have kl:=CV.size
   have c0:=(CV.cell (p:=⟨gp,0,none⟩) (by simp only;omega)).trans c0
   have c1:=(CV.cell (p:=⟨gp,1,none⟩) (by simp only;omega)).trans c1
   clear CV
   go_upto_if 36 with fail
   go_cut [3] (fun s3 wx=>s3= .string ⟨(Fc p k++Dm p.freq).toArray⟩∧Af (fun b=>w.heap.size≤b) w wx)
   case first=>
    generalize ZA:Fc p k=SS at*
    by_cases jL:0<p.freq
    ·have RG:=fun W=>P5 (w:=W) (n:=p.freq) (by omega) (by omega)
     have LW:=(EM (n:=p.freq) (by omega) (by omega)).2.1
     have jG:Dm p.freq=[102,114,101,113,32]++Ca p.freq++[59,10]:=by unfold Dm;rw[Ak jL];simp[BE]
     have e1:decide (p.freq>0)=true:=OT jL
     generalize p.freq=fq at*
     generalize Ca fq=dg at*
     have s1:=B6 (P:=Tryz.prog) (a:=⟨#[102,114,101,113,32]⟩) (b:=⟨dg.toArray⟩) (by simp only[Ag,At,Ac,Aj];omega)
     have s2:=B6 (P:=Tryz.prog) (a:=⟨#[102,114,101,113,32]⟩++⟨dg.toArray⟩) (b:=⟨#[59,10]⟩) (by simp only[Ag,At,Ac,Aj];omega)
     have s3:=B6 (P:=Tryz.prog) (a:=⟨SS.toArray⟩) (b:=⟨#[102,114,101,113,32]⟩++⟨dg.toArray⟩++⟨#[59,10]⟩) (by simp only[Ag,At,Ac,Aj];omega)
     have A6:(⟨SS.toArray⟩:ByteArray)++(⟨#[102,114,101,113,32]⟩++⟨dg.toArray⟩++⟨#[59,10]⟩)=⟨(SS++Dm fq).toArray⟩:=by rw[jG,BI,BI,BI]
     have Jo:=Aa A6
     have xc:=Aa RG
     clear A6 RG jG ZA
     go_wp2_with fail
     refine(xc.out _).mono ?_
     rintro y w2 ⟨rfl,A4⟩
     have Ll:=Aa A4
     clear A4
     unfold vs
     go_wp2
     go_meet
     exact⟨AL Value.string Jo.out,PU.out.trans (Ll.out.mono (fun b hb=>Ai kl hb))⟩
    ·have e1:decide (p.freq>0)=false:=IA jL
     have jG:Dm p.freq=[]:=by unfold Dm;rw[Ad jL]
     have HSF:=Aa jG
     clear jG ZA
     generalize p.freq=fq at*
     go_wp2
     go_meet
     exact⟨by rw[HSF.out,Bk],PU.out⟩
   obtain⟨rfl,k2⟩:=hcut
   have Ll:=Aa k2
   have c0:=(k2.cell (p:=⟨gp,0,none⟩) (by simp only;omega)).trans (by assumption:w.cell? ⟨gp,0,none⟩=_)
   have kl2:=k2.size
   have GG:(Fc p k++Dm p.freq).length≤1000:=by rw[Ao];have:=dM.out;have:=XL.out k (Ab _);omega
   generalize _e:Fc p k++Dm p.freq=TT at*
   have oU:=Aa _e
   clear k2 _e
   go_wp2_with fail
   go_loopg [51,3] k (fun gg s51 s3 wr=>∃j:Nat,j≤k∧k-j≤gg∧s51= .int .i64 j∧s3= .string ⟨(TT++Bh p j).toArray⟩∧Af (fun b=>w.heap.size≤b) w wr)
   case atStart=>exact⟨0,Bn _,by omega,rfl,by rw[show Bh p 0=[]from rfl,Bk],Ll.out⟩
   case round=>
    obtain⟨j,hj,hgj,rfl,rfl,CV⟩:=hrel
    have Xj:=tQ.out j
    have wl:=CV.size
    by_cases OQ:j<k
    ·obtain⟨gd,cd',f0,f1,f2,f3,f4,f5,f6,f7⟩:=H.out.decl (k:=j) (by have:=HL.out;omega)
     obtain⟨a,b,c,d,e⟩:=Lf HP.out (k:=j) (by have:=HL.out;omega)
     have cw0:w.cell? ⟨gp,0,none⟩=some (.slice ad k cd):=by assumption
     have cw2:w.cell? ⟨gp,2,none⟩=some (.slice ar k cr):=by assumption
     have cw3:w.cell? ⟨gp,3,none⟩=some (.slice ah k ch):=by assumption
     rw[cw0]at f0
     injection f0 with f0
     injection f0 with f0 e0 f1'
     subst f0 f1'
     clear e0
     obtain⟨gh,ch',eh,_,h1,h2,h3⟩:=_9.out.has.form (by omega)
     injection eh with eh _ eh'
     subst eh eh'
     have hc:=_9.out.has.1.cellAt j (by omega)
     rw[Az,ye.out.hs j OQ]at hc
     obtain⟨gr,cr',er,_,r1,r2,r3⟩:=_9.out.rul.form (by omega)
     injection er with er _ er'
     subst er er'
     obtain⟨v,hv,Pi⟩:=ye.out.rs j OQ
     obtain⟨av,nv,cv,rfl⟩:=_9.out.shape v (A7 hv)
     have rc:=_9.out.rul.1.cellAt j (by omega)
     rw[hv]at rc
     have z0:=(CV.cell (p:=⟨gd,j*3,none⟩) (by simp only;omega)).trans f5
     have z1:=(CV.cell (p:=⟨gd,j*3+1,none⟩) (by simp only;omega)).trans f6
     have z2:=(CV.cell (p:=⟨gd,j*3+2,none⟩) (by simp only;omega)).trans f7
     have zh:=(CV.cell (p:=⟨gh,j,none⟩) (by simp only;omega)).trans hc
     have zr:=(CV.cell (p:=⟨gr,j,none⟩) (by simp only;omega)).trans rc
     have y2:=(CV.cell (p:=⟨gp,2,none⟩) (by simp only;omega)).trans cw2
     have y3:=(CV.cell (p:=⟨gp,3,none⟩) (by simp only;omega)).trans cw3
     have zl:=AD f3 CV.size
     have Ik:=AD h3 CV.size
     have rl2:=AD r3 CV.size
     have n1:¬gp=wr.heap.size:=by omega
     have n2:¬gh=wr.heap.size:=by omega
     have n3:¬gr=wr.heap.size:=by omega
     have n4:gp<wr.heap.size:=by omega
     have Xi:Bh p (j+1)=Bh p j++C5 p j:=rfl
     unfold maxLen at h2 r2
     simp only[CZ]at zh
     have wb:AI p.decls (j:Int)=(Au p.decls (j:Int)).name:=rfl
     cases IJ:AE p.rules (j:Int)with
     |none=>
      have SB:C5 p j=[]:=by unfold C5;rw[IJ]
      rw[IJ]at zh
      have wO:=Aa (show Bh p (j+1)=Bh p j by rw[Xi,SB,Bk])
      have PU:=Aa CV
      generalize En (Au p.decls (j:Int)).kind=kw at*
      generalize (Au p.decls (j:Int)).name=Ku at*
      generalize (Au p.decls (j:Int)).max=mx at*
      clear Xi SB CV hc hv Pi rc f5 f6 f7 cw0 cw2 cw3 IJ e wb
      simp only[Z8]at zh
      unfold vs at*
      go_wp2
      go_roundg (k-(j+1))
      case measure=>omega
      case rel=>exact⟨j+1,by omega,by omega,by go_num,by rw[wO.out],PU.out.alloc wl _⟩
     |some bl=>
      have SB:C5 p j=Mv++BE++AI p.decls (j:Int)++BE++BJ p.decls bl++[10]:=by unfold C5;rw[IJ]
      rw[IJ]at zh Pi
      rw[Hs]at Pi
      obtain⟨Zz,mL⟩:=IE HP.out IJ
      have OH:=Ef HP.out.decls Zz
      have LX:=dV H.out HP.out Pi Zz mL
      rw[wb]at SB
      generalize En (Au p.decls (j:Int)).kind=kw at*
      generalize (Au p.decls (j:Int)).name=Ku at*
      generalize (Au p.decls (j:Int)).max=mx at*
      generalize Zn:BJ p.decls bl=sb at*
      have K9:∀W,Af (fun b=>w.heap.size≤b) w W→AM W wr.heap.size 130 [vs kw,vs Ku,.int .i64 mx]→Calls Tryz.prog 57 #[.pointer (some ⟨gp,0,none⟩),.slice av nv cv] W fun y w'=>y= .returned (vs sb)∧Af (fun b=>w.heap.size≤b) w w'∧AM w' wr.heap.size 130 [vs kw,vs Ku,.int .i64 mx]:=fun W hk hr=>by
       refine(LX W hk).mono ?_
       rintro y w' ⟨q1,q2⟩
       exact⟨q1,hk.trans (q2.mono (fun b hb=>Ai hk.size hb)),hr.kept q2 (fun e=>by have:=hr.lt;omega)⟩
      have hTL:(TT++Bh p j).length≤600000:=by rw[Ao];omega
      have Vz:TT++Bh p (j+1)=(TT++Bh p j)++([111,110,32]++Ku++[32]++sb++[10]):=by rw[Xi,SB];simp[BE]
      generalize ZA:TT++Bh p j=SS at*
      have s1:=B6 (P:=Tryz.prog) (a:=⟨#[111,110,32]⟩) (b:=⟨Ku.toArray⟩) (by simp only[Ag,At,Ac,Aj];omega)
      have s2:=B6 (P:=Tryz.prog) (a:=⟨#[111,110,32]⟩++⟨Ku.toArray⟩) (b:=⟨#[32]⟩) (by simp only[Ag,At,Ac,Aj];omega)
      have s3:=B6 (P:=Tryz.prog) (a:=⟨#[111,110,32]⟩++⟨Ku.toArray⟩++⟨#[32]⟩) (b:=⟨sb.toArray⟩) (by simp only[Ag,At,Ac,Aj];omega)
      have s4:=B6 (P:=Tryz.prog) (a:=⟨#[111,110,32]⟩++⟨Ku.toArray⟩++⟨#[32]⟩++⟨sb.toArray⟩) (b:=⟨#[10]⟩) (by simp only[Ag,At,Ac,Aj];omega)
      have s5:=B6 (P:=Tryz.prog) (a:=⟨SS.toArray⟩) (b:=⟨#[111,110,32]⟩++⟨Ku.toArray⟩++⟨#[32]⟩++⟨sb.toArray⟩++⟨#[10]⟩) (by simp only[Ag,At,Ac,Aj];omega)
      have A6:(⟨SS.toArray⟩:ByteArray)++(⟨#[111,110,32]⟩++⟨Ku.toArray⟩++⟨#[32]⟩++⟨sb.toArray⟩++⟨#[10]⟩)=⟨(TT++Bh p (j+1)).toArray⟩:=by rw[Vz,BI,BI,BI,BI,BI]
      have Jo:=Aa A6
      have xg:=Aa K9
      have rq:AM (wr.alloc (.cells #[vs kw,vs Ku,.int .i64 mx] 130)).drew wr.heap.size 130 [vs kw,vs Ku,.int .i64 mx]:=(AM.new wr 130 _).drew
      have kq:Af (fun b=>w.heap.size≤b) w (wr.alloc (.cells #[vs kw,vs Ku,.int .i64 mx] 130)).drew:=(CV.alloc CV.size _).drew
      clear Xi SB CV hc hv Pi rc f5 f6 f7 cw0 cw2 cw3 IJ e wb LX K9 A6 Vz ZA Zn
      simp only[Option.isSome_some]at zh
      unfold vs at*
      go_wp2_with fail
      go_region_law (go_simp;go_at_call 57;refine(xg.out _ ?_ ?_).mono ?_;assumption;assumption;rintro y wq ⟨rfl,kq,rq⟩;have yq:=rq.cell 0;have Tx:=rq.cell 1;have fB:=rq.cell 2;have zl:=rq.lt;simp at yq Tx fB)
      all_goals
       have oY:=Aa kq
       clear kq rq
       go_wp2
       go_roundg (k-(j+1))
       case measure=>omega
       case rel=>exact⟨j+1,by omega,by omega,by go_num,AL Value.string Jo.out,oY.out⟩
    ·have zJ:j=k:=by omega
     subst zJ
     have cw4:w.cell? ⟨gp,4,none⟩=some (.slice am nm cm):=by assumption
     have y4:=(CV.cell (p:=⟨gp,4,none⟩) (by simp only;omega)).trans cw4
     have PU:=Aa CV
     have hTL:(TT++Bh p j).length≤600000:=by rw[Ao];omega
     have Vz:text p=(TT++Bh p j)++[111,110,32,109,105,115,115,32]++BJ p.decls bm++[10]:=by
      have e1:Fc p j=(p.decls.map GT).flatten:=by unfold Fc;rw[←HL.out,Sa]
      unfold text
      rw[HMT.out,HL.out,←e1,←oU.out]
      simp only[Al]
     have yj:=Aa Vz
     generalize ZA:TT++Bh p j=SS at*
     generalize Zn:BJ p.decls bm=sb at*
     have s1:=B6 (P:=Tryz.prog) (a:=⟨SS.toArray⟩) (b:=⟨#[111,110,32,109,105,115,115,32]⟩) (by simp only[Ag,At,Ac,Aj];omega)
     have s2:=B6 (P:=Tryz.prog) (a:=⟨SS.toArray⟩++⟨#[111,110,32,109,105,115,115,32]⟩) (b:=⟨sb.toArray⟩) (by simp only[Ag,At,Ac,Aj];omega)
     have s3:=B6 (P:=Tryz.prog) (a:=⟨SS.toArray⟩++⟨#[111,110,32,109,105,115,115,32]⟩++⟨sb.toArray⟩) (b:=⟨#[10]⟩) (by simp only[Ag,At,Ac,Aj];omega)
     clear CV Vz ZA Zn
     go_wp2_with fail
     refine(Aaf.out _ PU.out).mono ?_
     rintro y w5 ⟨rfl,He⟩
     have HK5:=Aa He
     clear He
     unfold vs
     go_wp2
     go_ret
     refine⟨?_,PU.out.trans (HK5.out.mono (fun b hb=>Ai wl hb))⟩
     rw[yj.out]
     refine AL (fun x=>Ending.returned (.string x)) ?_
     rw[BI,BI,BI]
end
theorem QV {T e:TypeId} {B b:Nat} {bs:List Value} {w w':World} (h:Lib.IsBuilder T e B b bs w) (hk:Af (fun k=>w.heap.size≤k) w w'):Lib.IsBuilder T e B b bs w':=by
 have main:∀p,Lib.BuilderAt T e B b p bs w→Lib.BuilderAt T e B b p bs w':=by
  rintro p ⟨h1,v,h2,h3,h4⟩
  have lt:∀(g:Nat) o,w.heap[g]?=some o→g<w.heap.size:=fun g o ho=>by
   rcases BP g w.heap.size with h|h
   ·exact h
   ·rw[Ce h]at ho
    cases ho
  refine⟨h1,v,(hk.block b (fun h=>by have:=lt b _ h2;omega)).trans h2,⟨h3.1,?_⟩,h4⟩
  rcases h3.2 with h|⟨g,cap,cur,q1,q2,q3,q4⟩
  ·exact .inl h
  ·exact .inr ⟨g,cap,cur,q1,q2,(hk.block g (fun h=>by have:=lt g _ q3;omega)).trans q3,q4⟩
 exact h.elim (fun x=>.inl (main _ x)) (fun x=>.inr (main _ x))
theorem qZ (w:World):Lib.IsBuilder 201 5 w.heap.size w.heap.size (Lib.byteCells []) (w.alloc (.cells #[.pointer none,.slice none 0 0] 201)):=
 .inl ⟨Ab _,.slice none 0 0,OR w _,⟨rfl,.inl ⟨rfl,rfl⟩⟩,fun h=>by cases h⟩
theorem FP.lookK {N:Nat→Prop} {w:World} {bm:Nat} {rules:List (Int×AC)} (h:FP N w bm rules) (k:Int):∃v,(∀W,Af (fun b=>w.heap.size≤b) w W→∀c,(Instr.lookup 88 (.map (some bm)) (.int .i64 k) c).run Tryz.prog W=
  .ok (if c then .tuple #[v,.bool (AE rules k).isSome]else v) W)∧(match AE rules k with|some b=>Dv N w v b|none=>v= .slice none 0 0):=by
 obtain⟨M,h1,h2,h3⟩:=h
 have hp:=RB M rules h2 h3 k
 have La:∀W,Af (fun b=>w.heap.size≤b) w W→BV W bm .i64 M:=fun W hk=>h1.kept hk (fun hb=>by have:=h1.lt;omega)
 cases hr:AE rules k with
 |none=>
  rw[hr]at hp
  refine⟨.slice none 0 0,fun W hk c=>?_,rfl⟩
  rw[(La W hk).lookup (P:=Tryz.prog) Fe D8 Oq k c,show FT M k=none from hp]
  rfl
 |some b=>
  rw[hr]at hp
  obtain⟨v,hv,hb⟩:=hp
  refine⟨v,fun W hk c=>?_,hb⟩
  rw[(La W hk).lookup (P:=Tryz.prog) Fe D8 Oq k c,hv]
  rfl
theorem RT {B b:Nat} {l s:Ae} {w0 W:World} {x:ByteArray} (h:Lib.IsBuilder 201 5 B b (Lib.byteCells l) W) (hB:B≤w0.heap.size) (hk:Af (fun k=>B≤k) w0 W) (hx:x=⟨s.toArray⟩) (hl:l.length+s.length≤1000000000):
  Calls Tryz.prog 93 #[.pointer (some ⟨b,0,none⟩),.string x] W fun e w'=>(∃n,e= .returned (.tuple #[.int .i64 n,.nilIface]))∧Lib.IsBuilder 201 5 B b (Lib.byteCells (l++s)) w'∧Af (fun k=>B≤k) w0 w':=by
 subst hx
 refine(cO h (by omega) (Ai hB hk.size)).mono ?_
 rintro e w' ⟨h1,h2,h3⟩
 exact⟨h1,h2,hk.trans h3⟩
theorem lT (W:World):(Instr.index 204 (.agg #[.string ⟨#[113,117,101,117,101]⟩,.string ⟨#[103,104,111,115,116]⟩,.string ⟨#[118,97,114]⟩]) (.int .i64 0)).run Tryz.prog W= .ok (.string ⟨G1.toArray⟩) W:=by kernel_rfl
theorem lS (W:World):(Instr.index 204 (.agg #[.string ⟨#[113,117,101,117,101]⟩,.string ⟨#[103,104,111,115,116]⟩,.string ⟨#[118,97,114]⟩]) (.int .i64 1)).run Tryz.prog W= .ok (.string ⟨G4.toArray⟩) W:=by kernel_rfl
theorem lR (W:World):(Instr.index 204 (.agg #[.string ⟨#[113,117,101,117,101]⟩,.string ⟨#[103,104,111,115,116]⟩,.string ⟨#[118,97,114]⟩]) (.int .i64 2)).run Tryz.prog W= .ok (.string ⟨IY.toArray⟩) W:=by kernel_rfl
section
variable {S:Nat→Prop} {w:World} {gp bm:Nat} {p:AF} {vd:Value}
theorem dX (h:Yb w gp vd (.map (some bm)) p.freq p.decls) {N:Nat→Prop} {b:AC} {v:Value} (hb:Dv N w v b) (hw:EG p.decls b) (hs:b.size≤700):∀W,Af (fun b=>w.heap.size≤b) w W→Calls Tryz.prog 95 #[.pointer (some ⟨gp,0,none⟩),v] W (Do W (BJ p.decls b)):=fun W hk=>by
 obtain⟨cs,h1,h2⟩:=hb
 exact(YD b.size).2 W gp vd (.map (some bm)) p.freq p.decls b v (h.later hk) (Ab _) (by omega) hw (WB hk ⟨cs,h1.mono (fun _ _ _=>trivial),A5.mono (fun _ _ _=>trivial) b cs h2⟩)
theorem kR (h:Yb w gp vd (.map (some bm)) p.freq p.decls) (hr:FP S w bm p.rules) (hp:EO p):Calls Tryz.prog 55 #[.pointer (some ⟨gp,0,none⟩)] w (Do w (text p)):=by
 have hn:=hp.decls.len
 have c0:=h.pol.cell 0
 have c1:=h.pol.cell 1
 have c2:=h.pol.cell 2
 have gl:=h.pol.lt
 obtain⟨ad,cd,rfl⟩:=h.decls.any_
 simp at c0 c1 c2
 have qD:∀k,k<p.decls.length→∃gd,ad=some ⟨gd,0,none⟩∧p.decls.length≤cd∧cd≤9223372036854775807∧gd<w.heap.size∧w.cell? ⟨gd,k*3,none⟩=some (.int .i64 (Au p.decls (k:Int)).kind)∧w.cell? ⟨gd,k*3+1,none⟩=some (vs (Au p.decls (k:Int)).name)∧w.cell? ⟨gd,k*3+2,none⟩=some (.int .i64 (Au p.decls (k:Int)).max):=by
  intro k hk
  obtain⟨gd,cd',ed,_,q1,q2,q3⟩:=h.decls.form (by omega)
  injection ed with ed _ ed'
  subst ed ed'
  have e:p.decls[k]?=some (Au p.decls (k:Int)):=by unfold Au;rw[A3,Ah hk];rfl
  unfold maxLen at q2
  exact⟨gd,rfl,q1,q2,q3,h.decls.at_ (fun _=>rfl) e (j:=0) (by omega),h.decls.at_ (fun _=>rfl) e (j:=1) (by omega),h.decls.at_ (fun _=>rfl) e (j:=2) (by omega)⟩
 have HDC:=Aa qD
 have LW:=PD hp
 have Xj:=LQ hp
 have XV:=Qc hp
 have Xo:=hp.freq
 have XL:=Aa LW
 have tQ:=Aa Xj
 have dM:=Aa XV
 have H:=Aa h
 have HR:=Aa hr
 have HP:=Aa hp
 have tj:=qZ w
 have k0:Af (fun b=>w.heap.size≤b) w (w.alloc (.cells #[.pointer none,.slice none 0 0] 201)):=(Af.refl _ w).alloc (Ab _) _
 have HB0:=Aa tj
 have K0:=Aa k0
 generalize hL:p.decls.length=L at*
 have HL:=Aa hL
 have e0:¬gp=w.heap.size:=by omega
 clear LW Xj XV h hr hp hL tj k0 qD
 go_enter Tryz.func55,Tryz.ntmps55
 go_wp2_with fail
 go_loopg [15] L (fun gg s15 wr=>∃k:Nat,k≤L∧L-k≤gg∧s15= .int .i64 k∧Af (fun b=>w.heap.size≤b) w wr∧Lib.IsBuilder 201 5 w.heap.size w.heap.size (Lib.byteCells (Fc p k)) wr)
 case atStart=>exact⟨0,Bn _,by omega,rfl,K0.out,HB0.out⟩
 case round=>
  obtain⟨k,hk,hg,rfl,CV,_b⟩:=hrel
  have hlen:=XL.out k hk
  have PU:=Aa CV
  have tY:=Aa _b
  clear _b
  by_cases Cy:k<L
  ·obtain⟨gd,rfl,q1,q2,q3,x0,x1,x2⟩:=HDC.out k Cy
   obtain⟨a,b,c,d,e⟩:=Lf HP.out (k:=k) (by have:=HL.out;omega)
   have z0:=(CV.cell (p:=⟨gd,k*3,none⟩) (by simp only;omega)).trans x0
   have z1:=(CV.cell (p:=⟨gd,k*3+1,none⟩) (by simp only;omega)).trans x1
   have z2:=(CV.cell (p:=⟨gd,k*3+2,none⟩) (by simp only;omega)).trans x2
   have zl:=AD q3 CV.size
   have jH:=(EM (n:=(Au p.decls (k:Int)).max) (by omega) (by omega)).2.1
   have aD:=MT (Au p.decls (k:Int)).kind
   have Ur:=Oc e
   have qm:GT (Au p.decls (k:Int))=Dz (Au p.decls (k:Int)).kind++BE++(Au p.decls (k:Int)).name++BE++Ca (Au p.decls (k:Int)).max++[59,10]:=rfl
   rw[qm]at Ur
   have hit:∀W,Calls Tryz.prog 94 #[.int .i64 (Au p.decls (k:Int)).max] W fun e w'=>e= .returned (vs (Ca (Au p.decls (k:Int)).max))∧w'=W:=fun W=>by
    have:=RY (Au p.decls (k:Int)).max.toNat (by omega) W
    rw[Ko (by omega)]at this
    have e:(((Au p.decls (k:Int)).max.toNat:Nat):Int)=(Au p.decls (k:Int)).max:=by omega
    rw[e]at this
    exact this
   generalize OE:(Au p.decls (k:Int)).kind=kd at*
   generalize zC:Dz kd=kw at*
   generalize (Au p.decls (k:Int)).name=Ku at*
   generalize (Au p.decls (k:Int)).max=mx at*
   generalize Ca mx=dg at*
   generalize ZA:Fc p k=SS at*
   have s1:=B6 (P:=Tryz.prog) (a:=⟨kw.toArray⟩) (b:=⟨#[32]⟩) (by simp only[Ag,At,Ac,Aj];omega)
   have s2:=B6 (P:=Tryz.prog) (a:=⟨kw.toArray⟩++⟨#[32]⟩) (b:=⟨Ku.toArray⟩) (by simp only[Ag,At,Ac,Aj];omega)
   have s3:=B6 (P:=Tryz.prog) (a:=⟨kw.toArray⟩++⟨#[32]⟩++⟨Ku.toArray⟩) (b:=⟨#[32]⟩) (by simp only[Ag,At,Ac,Aj];omega)
   have s4:=B6 (P:=Tryz.prog) (a:=⟨kw.toArray⟩++⟨#[32]⟩++⟨Ku.toArray⟩++⟨#[32]⟩) (b:=⟨dg.toArray⟩) (by simp only[Ag,At,Ac,Aj];omega)
   have s5:=B6 (P:=Tryz.prog) (a:=⟨kw.toArray⟩++⟨#[32]⟩++⟨Ku.toArray⟩++⟨#[32]⟩++⟨dg.toArray⟩) (b:=⟨#[59,10]⟩) (by simp only[Ag,At,Ac,Aj];omega)
   have hx:(⟨kw.toArray⟩:ByteArray)++⟨#[32]⟩++⟨Ku.toArray⟩++⟨#[32]⟩++⟨dg.toArray⟩++⟨#[59,10]⟩=⟨(kw++BE++Ku++BE++dg++[59,10]).toArray⟩:=by rw[BI,BI,BI,BI,BI];rfl
   have ka:Af (fun b=>wr.heap.size≤b) wr (wr.alloc (.cells #[.int .i64 (kd:Int),vs Ku,.int .i64 mx] 86)).drew:=((Af.refl _ wr).alloc (Ab _) _).drew
   have hw:=RT (w0:=w) (QV tY.out ka) (Ab _) (CV.trans (ka.mono (fun b hb=>Ai CV.size hb))) hx (by simp only[Ao,Ac,Aj,BE];omega)
   rw[←Ur]at hw
   have HW:=Aa hw
   have wX:=Aa hit
   clear hw hit hx ka Ur qm ZA e CV tY OE x0 x1 x2
   unfold vs at*
   have Zw:∀W,(Instr.index 204 (.agg #[.string ⟨#[113,117,101,117,101]⟩,.string ⟨#[103,104,111,115,116]⟩,.string ⟨#[118,97,114]⟩]) (.int .i64 (kd:Int))).run Tryz.prog W= .ok (.string ⟨kw.toArray⟩) W:=by
    intro W
    have BY:kd=0∨kd=1∨kd=2:=by omega
    rw[←zC]
    rcases BY with rfl|rfl|rfl
    ·exact lT W
    ·exact lS W
    ·exact lR W
   clear a zC
   go_wp2_with fail
   go_region_law (first
    |(go_simp;go_at_call 94;refine(wX.out _).mono ?_;rintro y w5 ⟨rfl,rfl⟩)
    |(go_simp;go_at_call 93;refine HW.out.mono ?_;rintro y w5 ⟨⟨n5,rfl⟩,iN,He⟩;have F5:=Aa (And.intro iN He);clear iN He))
   all_goals
    go_wp2
    go_roundg (L-(k+1))
    case measure=>omega
    case rel=>exact⟨k+1,by omega,by omega,by go_num,F5.out.2,F5.out.1⟩
  ·have vO:k=L:=by omega
   subst vO
   have kl:=CV.size
   have c0':=(CV.cell (p:=⟨gp,0,none⟩) (by simp only;omega)).trans c0
   have c1':=(CV.cell (p:=⟨gp,1,none⟩) (by simp only;omega)).trans c1
   clear CV
   go_upto_if 39 with fail
   go_cut [] (fun wx=>Af (fun b=>w.heap.size≤b) w wx∧Lib.IsBuilder 201 5 w.heap.size w.heap.size (Lib.byteCells (Fc p k++Dm p.freq)) wx)
   case first=>
    generalize ZA:Fc p k=SS at*
    by_cases jL:0<p.freq
    ·have hit:∀W,Calls Tryz.prog 94 #[.int .i64 p.freq] W fun e w'=>e= .returned (vs (Ca p.freq))∧w'=W:=fun W=>by
      have:=RY p.freq.toNat (by omega) W
      rw[Ko (by omega)]at this
      have e:((p.freq.toNat:Nat):Int)=p.freq:=by omega
      rw[e]at this
      exact this
     have LW:=(EM (n:=p.freq) (by omega) (by omega)).2.1
     have jG:Dm p.freq=[102,114,101,113,32]++Ca p.freq++[59,10]:=by unfold Dm;rw[Ak jL];simp[BE]
     have e1:decide (p.freq>0)=true:=OT jL
     generalize p.freq=fq at*
     generalize Ca fq=dg at*
     have s1:=B6 (P:=Tryz.prog) (a:=⟨#[102,114,101,113,32]⟩) (b:=⟨dg.toArray⟩) (by simp only[Ag,At,Ac,Aj];omega)
     have s2:=B6 (P:=Tryz.prog) (a:=⟨#[102,114,101,113,32]⟩++⟨dg.toArray⟩) (b:=⟨#[59,10]⟩) (by simp only[Ag,At,Ac,Aj];omega)
     have hx:(⟨#[102,114,101,113,32]⟩:ByteArray)++⟨dg.toArray⟩++⟨#[59,10]⟩=⟨(Dm fq).toArray⟩:=by rw[jG,BI,BI]
     have hw:=RT (w0:=w) tY.out (Ab _) PU.out hx (by rw[jG];simp only[Ao,Ac,Aj];omega)
     have HW:=Aa hw
     have wX:=Aa hit
     clear hw hit hx jG ZA
     unfold vs at*
     go_wp2_with fail
     refine(wX.out _).mono ?_
     rintro y w2 ⟨rfl,rfl⟩
     go_wp2_with fail
     refine HW.out.mono ?_
     rintro y w5 ⟨⟨n5,rfl⟩,iN,He⟩
     have F5:=Aa (And.intro iN He)
     clear iN He
     go_wp2
     go_meet
     exact⟨F5.out.2,F5.out.1⟩
    ·have e1:decide (p.freq>0)=false:=IA jL
     have jG:Dm p.freq=[]:=by unfold Dm;rw[Ad jL]
     have HSF:=Aa jG
     clear jG ZA
     generalize p.freq=fq at*
     go_wp2
     go_meet
     exact⟨PU.out,by rw[HSF.out,Bk];exact tY.out⟩
   obtain⟨k2,Hy⟩:=hcut
   have Ll:=Aa k2
   have VV:=Aa Hy
   have kl2:=k2.size
   have c0:=(k2.cell (p:=⟨gp,0,none⟩) (by simp only;omega)).trans c0
   have c2':=(k2.cell (p:=⟨gp,2,none⟩) (by simp only;omega)).trans c2
   have GG:(Fc p k++Dm p.freq).length≤1000:=by rw[Ao];have:=dM.out;have:=XL.out k (Ab _);omega
   generalize _e:Fc p k++Dm p.freq=TT at*
   have oU:=Aa _e
   clear k2 _e Hy
   go_wp2_with fail
   go_loopg [53] k (fun gg s53 wr=>∃j:Nat,j≤k∧k-j≤gg∧s53= .int .i64 j∧Af (fun b=>w.heap.size≤b) w wr∧Lib.IsBuilder 201 5 w.heap.size w.heap.size (Lib.byteCells (TT++Bh p j)) wr)
   case atStart=>exact⟨0,Bn _,by omega,rfl,Ll.out,by rw[show Bh p 0=[]from rfl,Bk];exact VV.out⟩
   case round=>
    obtain⟨j,hj,hgj,rfl,CV,_b⟩:=hrel
    have Xj:=tQ.out j
    have wl:=CV.size
    have PU:=Aa CV
    have tY:=Aa _b
    clear _b
    have y2:=(CV.cell (p:=⟨gp,2,none⟩) (by simp only;omega)).trans c2
    have n1:¬gp=wr.heap.size:=by omega
    have n4:gp<wr.heap.size:=by omega
    by_cases OQ:j<k
    ·obtain⟨gd,rfl,q1,q2,q3,x0,x1,x2⟩:=HDC.out j OQ
     have z0:=(CV.cell (p:=⟨gd,j*3,none⟩) (by simp only;omega)).trans x0
     have z1:=(CV.cell (p:=⟨gd,j*3+1,none⟩) (by simp only;omega)).trans x1
     have z2:=(CV.cell (p:=⟨gd,j*3+2,none⟩) (by simp only;omega)).trans x2
     have zl:=AD q3 CV.size
     obtain⟨a,b,c,d,e⟩:=Lf HP.out (k:=j) (by have:=HL.out;omega)
     obtain⟨v,Xl,Pi⟩:=HR.out.lookK (j:Int)
     have Xi:Bh p (j+1)=Bh p j++C5 p j:=rfl
     have wb:AI p.decls (j:Int)=(Au p.decls (j:Int)).name:=rfl
     have oM:∀cs,Af (fun b=>w.heap.size≤b) w (wr.alloc (.cells cs 86)):=fun cs=>CV.alloc CV.size _
     cases IJ:AE p.rules (j:Int)with
     |none=>
      have SB:C5 p j=[]:=by unfold C5;rw[IJ]
      rw[IJ]at Xl Pi
      simp only at Pi
      subst Pi
      have wO:=Aa (show Bh p (j+1)=Bh p j by rw[Xi,SB,Bk])
      generalize (Au p.decls (j:Int)).kind=kw at*
      generalize (Au p.decls (j:Int)).name=Ku at*
      generalize (Au p.decls (j:Int)).max=mx at*
      have lk:=Xl _ (oM #[.int .i64 (kw:Int),vs Ku,.int .i64 mx]) true
      have ka:Af (fun b=>wr.heap.size≤b) wr (wr.alloc (.cells #[.int .i64 (kw:Int),vs Ku,.int .i64 mx] 86)):=(Af.refl _ wr).alloc (Ab _) _
      have KA:=Aa ka
      clear Xi SB CV x0 x1 x2 IJ e wb Xl oM ka
      simp only[Z8,A0]at lk
      unfold vs at*
      go_wp2
      go_roundg (k-(j+1))
      case measure=>omega
      case rel=>exact⟨j+1,by omega,by omega,by go_num,PU.out.trans (KA.out.mono (fun b hb=>Ai wl hb)),by rw[wO.out];exact QV tY.out KA.out⟩
     |some bl=>
      have SB:C5 p j=Mv++BE++AI p.decls (j:Int)++BE++BJ p.decls bl++[10]:=by unfold C5;rw[IJ]
      rw[IJ]at Xl Pi
      simp only at Pi
      obtain⟨gv,cv,rfl⟩:∃g c,v= .slice (some ⟨g,0,none⟩) bl.length c:=by obtain⟨_,h1,_⟩:=Pi;exact h1.2
      obtain⟨Zz,mL⟩:=IE HP.out IJ
      have OH:=Ef HP.out.decls Zz
      have LX:=dX H.out Pi Zz mL
      rw[wb]at SB
      generalize (Au p.decls (j:Int)).kind=kw at*
      generalize (Au p.decls (j:Int)).name=Ku at*
      generalize (Au p.decls (j:Int)).max=mx at*
      generalize Zn:BJ p.decls bl=sb at*
      have K9:∀W,Af (fun b=>wr.heap.size≤b) wr W→AM W wr.heap.size 86 [.int .i64 (kw:Int),vs Ku,.int .i64 mx]→Calls Tryz.prog 95 #[.pointer (some ⟨gp,0,none⟩),.slice (some ⟨gv,0,none⟩) bl.length cv] W fun y w'=>y= .returned (vs sb)∧Af (fun b=>wr.heap.size≤b) wr w'∧AM w' wr.heap.size 86 [.int .i64 (kw:Int),vs Ku,.int .i64 mx]:=fun W hk hr=>by
       refine(LX W (CV.trans (hk.mono (fun b hb=>Ai wl hb)))).mono ?_
       rintro y w' ⟨q1,q2⟩
       exact⟨q1,hk.trans (q2.mono (fun b hb=>Ai hk.size hb)),hr.kept q2 (fun e=>by have:=hr.lt;omega)⟩
      have hTL:(TT++Bh p j).length≤600000:=by rw[Ao];omega
      have Vz:TT++Bh p (j+1)=(TT++Bh p j)++([111,110,32]++Ku++[32]++sb++[10]):=by rw[Xi,SB];simp[BE]
      generalize ZA:TT++Bh p j=SS at*
      have s1:=B6 (P:=Tryz.prog) (a:=⟨#[111,110,32]⟩) (b:=⟨Ku.toArray⟩) (by simp only[Ag,At,Ac,Aj];omega)
      have s2:=B6 (P:=Tryz.prog) (a:=⟨#[111,110,32]⟩++⟨Ku.toArray⟩) (b:=⟨#[32]⟩) (by simp only[Ag,At,Ac,Aj];omega)
      have s3:=B6 (P:=Tryz.prog) (a:=⟨#[111,110,32]⟩++⟨Ku.toArray⟩++⟨#[32]⟩) (b:=⟨sb.toArray⟩) (by simp only[Ag,At,Ac,Aj];omega)
      have s4:=B6 (P:=Tryz.prog) (a:=⟨#[111,110,32]⟩++⟨Ku.toArray⟩++⟨#[32]⟩++⟨sb.toArray⟩) (b:=⟨#[10]⟩) (by simp only[Ag,At,Ac,Aj];omega)
      have hx:(⟨#[111,110,32]⟩:ByteArray)++⟨Ku.toArray⟩++⟨#[32]⟩++⟨sb.toArray⟩++⟨#[10]⟩=⟨([111,110,32]++Ku++[32]++sb++[10]).toArray⟩:=by rw[BI,BI,BI,BI]
      have hw:=fun W (hk:Af (fun b=>wr.heap.size≤b) wr W)=>RT (w0:=w) (QV tY.out hk) (Ab _) (CV.trans (hk.mono (fun b hb=>Ai wl hb))) hx (by simp only[Ao,Ac,Aj];omega)
      rw[←Vz]at hw
      have HW:=Aa hw
      have xg:=Aa K9
      have rq:AM (wr.alloc (.cells #[.int .i64 (kw:Int),vs Ku,.int .i64 mx] 86)).drew wr.heap.size 86 [.int .i64 (kw:Int),vs Ku,.int .i64 mx]:=(AM.new wr 86 _).drew
      have kq:Af (fun b=>wr.heap.size≤b) wr (wr.alloc (.cells #[.int .i64 (kw:Int),vs Ku,.int .i64 mx] 86)).drew:=((Af.refl _ wr).alloc (Ab _) _).drew
      have lk:=Xl _ (oM #[.int .i64 (kw:Int),vs Ku,.int .i64 mx]) true
      clear Xi SB CV Pi x0 x1 x2 IJ e wb LX K9 Vz ZA Zn Xl oM hx hw
      simp only[Option.isSome_some,A0]at lk
      unfold vs at*
      go_wp2_with fail
      go_region_law (first
       |(go_simp;go_at_call 95;refine(xg.out _ ?_ ?_).mono ?_;assumption;assumption;rintro y wq ⟨rfl,kq,rq⟩;have yq:=rq.cell 0;have Tx:=rq.cell 1;have fB:=rq.cell 2;have zl:=rq.lt;simp at yq Tx fB)
       |(go_simp;go_at_call 93;refine(HW.out _ ?_).mono ?_;assumption;rintro y w5 ⟨⟨n5,rfl⟩,iN,He⟩;have F5:=Aa (And.intro iN He);clear iN He))
      all_goals
       go_wp2
       go_roundg (k-(j+1))
       case measure=>omega
       case rel=>exact⟨j+1,by omega,by omega,by go_num,F5.out.2,F5.out.1⟩
    ·have zJ:j=k:=by omega
     subst zJ
     obtain⟨bl,IJ⟩:∃b,Cm p.rules=some b:=Option.isSome_iff_exists.1 HP.out.miss
     have vC:AE p.rules (-1)=some bl:=IJ
     obtain⟨v,Xl,Pi⟩:=HR.out.lookK (-1)
     rw[vC]at Xl Pi
     simp only at Pi
     obtain⟨gv,cv,rfl⟩:∃g c,v= .slice (some ⟨g,0,none⟩) bl.length c:=by obtain⟨_,h1,_⟩:=Pi;exact h1.2
     obtain⟨Zz,mL⟩:=IE HP.out vC
     have OH:=Ef HP.out.decls Zz
     have LX:=dX H.out Pi Zz mL
     have hTL:(TT++Bh p j).length≤600000:=by rw[Ao];omega
     have Vz:text p=(TT++Bh p j)++[111,110,32,109,105,115,115,32]++BJ p.decls bl++[10]:=by
      have e1:Fc p j=(p.decls.map GT).flatten:=by unfold Fc;rw[←HL.out,Sa]
      unfold text Ig
      rw[IJ,HL.out,←e1,←oU.out]
      simp[BE]
     have yj:=Aa Vz
     generalize ZA:TT++Bh p j=SS at*
     generalize Zn:BJ p.decls bl=sb at*
     have s1:=B6 (P:=Tryz.prog) (a:=⟨SS.toArray⟩) (b:=⟨#[111,110,32,109,105,115,115,32]⟩) (by simp only[Ag,At,Ac,Aj];omega)
     have s2:=B6 (P:=Tryz.prog) (a:=⟨SS.toArray⟩++⟨#[111,110,32,109,105,115,115,32]⟩) (b:=⟨sb.toArray⟩) (by simp only[Ag,At,Ac,Aj];omega)
     have s3:=B6 (P:=Tryz.prog) (a:=⟨SS.toArray⟩++⟨#[111,110,32,109,105,115,115,32]⟩++⟨sb.toArray⟩) (b:=⟨#[10]⟩) (by simp only[Ag,At,Ac,Aj];omega)
     have tf:∀W,Af (fun b=>wr.heap.size≤b) wr W→Calls Tryz.prog 95 #[.pointer (some ⟨gp,0,none⟩),.slice (some ⟨gv,0,none⟩) bl.length cv] W fun y w'=>y= .returned (vs sb)∧Af (fun b=>wr.heap.size≤b) wr w':=fun W hk=>by
      refine(LX W (CV.trans (hk.mono (fun b hb=>Ai wl hb)))).mono ?_
      rintro y w' ⟨q1,q2⟩
      exact⟨q1,hk.trans (q2.mono (fun b hb=>Ai hk.size hb))⟩
     have td:∀W,Af (fun b=>w.heap.size≤b) w W→Calls Tryz.prog 95 #[.pointer (some ⟨gp,0,none⟩),.slice (some ⟨gv,0,none⟩) bl.length cv] W fun y w'=>y= .returned (vs sb)∧Af (fun b=>w.heap.size≤b) w w':=fun W hk=>by
      refine(LX W hk).mono ?_
      rintro y w' ⟨q1,q2⟩
      exact⟨q1,hk.trans (q2.mono (fun b hb=>Ai hk.size hb))⟩
     have CP:∀W,Af (fun b=>wr.heap.size≤b) wr W→Calls Tryz.prog 96 #[.pointer (some ⟨w.heap.size,0,none⟩)] W fun y w'=>y= .returned (vs SS)∧Af (fun b=>w.heap.size≤b) w w':=fun W hk=>by
      refine(Tryz.Builder_String_any w.heap.size w.heap.size SS W (QV tY.out hk) (Ai wl hk.size)).mono ?_
      rintro y w' ⟨q1,q2⟩
      exact⟨q1,(CV.trans (hk.mono (fun b hb=>Ai wl hb))).trans (Af.of_below q2 (fun k hk=>hk))⟩
     have zA:∀W,Af (fun b=>wr.heap.size≤b) wr W→(Instr.lookup 88 (.map (some bm)) (.int .i64 (-1)) false).run Tryz.prog W= .ok (.slice (some ⟨gv,0,none⟩) bl.length cv) W:=fun W hk=>Xl W (CV.trans (hk.mono (fun b hb=>Ai wl hb))) false
     have zz:∀W,Af (fun b=>w.heap.size≤b) w W→(Instr.lookup 88 (.map (some bm)) (.int .i64 (-1)) false).run Tryz.prog W= .ok (.slice (some ⟨gv,0,none⟩) bl.length cv) W:=fun W hk=>Xl W hk false
     have kq:Af (fun b=>wr.heap.size≤b) wr wr.drew:=(Af.refl _ wr).drew
     have lq:=zA _ kq
     have fp:=Aa tf
     have HB3:=Aa td
     have Vh:=Aa CP
     have Agd:=Aa zz
     have Vj:=Aa c2
     clear CV Vz ZA Zn tf td CP Xl zA zz LX Pi IJ vC
     unfold vs at*
     go_wp2_with fail
     go_region_law (first
      |(go_simp;go_at_call 95;refine(fp.out _ ?_).mono ?_;assumption;rintro y wq ⟨rfl,kq⟩;have FB:=Aa kq)
      |(go_simp;go_at_call 95;refine(HB3.out _ ?_).mono ?_;assumption;rintro y wq ⟨rfl,kz⟩)
      |(go_simp;go_at_call 96;refine(Vh.out _ ?_).mono ?_;assumption;rintro y wq ⟨rfl,kz⟩;have lz:=Agd.out _ kz;have zc:=(kz.cell (p:=⟨gp,2,none⟩) (by simp only;omega)).trans Vj.out;have zs:=kz.size))
     all_goals
      have KZ:=Aa kz
      clear kz kq
      go_wp2
      go_ret
      refine⟨?_,KZ.out⟩
      rw[yj.out]
      refine AL (fun x=>Ending.returned (.string x)) ?_
      rw[BI,BI,BI]
end
section
variable {S:Nat→Prop} {w:World} {ge:Nat} {e:LN}
theorem Wz (h0:Hv S w ge e) (ht:S8 w):Calls Tryz.prog 30 #[.pointer (some ⟨ge,0,none⟩)] w (Do w (text e.p)):=by
 obtain⟨gg,gs,ga,gp,bm,bc,loops,vd,vva,SA,A,ns,h⟩:=h0
 have c0:=h.row.cell 0
 have rl:=h.row.lt
 have g0:=h.prog.code.row.cell 0
 have gl:=h.prog.code.row.lt
 simp at c0 g0
 have ml:Yb w gp vd (.map (some bm)) e.p.freq e.p.decls:=⟨h.prog.pol,h.prog.decls.mono (fun _ _=>trivial),h.pw.decls,ht⟩
 have HC:=Aa (kR ml h.prog.rules h.pw)
 clear h ml ht
 go_enter Tryz.func30,Tryz.ntmps30
 go_wp2_with fail
 refine HC.out.mono ?_
 rintro y w1 ⟨rfl,Bi⟩
 have Lv:=Aa Bi
 clear Bi
 go_wp2
 go_ret
 exact⟨rfl,Lv.out⟩
end
section
variable {S:Nat→Prop} {w:World} {ge:Nat} {e:LN}
theorem ji (w:World):(isAgg 52).run Tryz.prog w= .ok true w:=by kernel_rfl
theorem aX (w:World):(Go.sizeOf 52).run Tryz.prog w= .ok 3 w:=by kernel_rfl
def m8 (c:jy):Value:=.agg #[.int .i64 c.hits,.int .i64 c.misses,.int .i64 c.evicted]
def nT (w:World) (c:jy) (e:Ending) (w':World):Prop:=e= .returned (m8 c)∧Af (fun b=>w.heap.size≤b) w w'
theorem SG (h0:Hv S w ge e):Calls Tryz.prog 27 #[.pointer (some ⟨ge,0,none⟩)] w (nT w e.n):=by
 obtain⟨gg,gs,ga,gp,bm,bc,loops,vd,vva,SA,A,ns,h⟩:=h0
 have c2:=h.row.cell 2
 have c3:=h.row.cell 3
 have c4:=h.row.cell 4
 have r1:=h.row.lt
 have q1:¬ge=w.heap.size:=by omega
 clear h
 simp at c2 c3 c4
 go_enter Tryz.func27,Tryz.ntmps27
 go_wp2
 refine Av (AG (cs:=[.int .i64 e.n.hits,.int .i64 e.n.misses,.int .i64 e.n.evicted]) Tryz.results27 ji aX rfl (AM.new w _ _)) rfl ?_
 exact⟨rfl,(Af.refl _ w).alloc (Ab _) _⟩
end
end Go.Proofs.YtemppijblfflgaaGreatDoor.Ev
