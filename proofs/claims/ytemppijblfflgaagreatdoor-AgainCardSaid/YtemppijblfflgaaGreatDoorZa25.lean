/- Parts of a proof that a law's walk returns true. Conditions: none. -/
import Derived.Test.YtemppijblfflgaaGreatDoorZa00
import Derived.Test.YtemppijblfflgaaGreatDoorZa01
import Derived.Test.YtemppijblfflgaaGreatDoorZa10
import Derived.Test.YtemppijblfflgaaGreatDoorZa19
import Derived.Test.YtemppijblfflgaaGreatDoorZa20
import Derived.Test.YtemppijblfflgaaGreatDoorZa21
import Derived.Test.YtemppijblfflgaaGreatDoorZa22
import Derived.Test.YtemppijblfflgaaGreatDoorZa24
set_option linter.all false
set_option maxRecDepth 100000
set_option maxHeartbeats 8000000
namespace Go.Proofs.YtemppijblfflgaaGreatDoor.Ev
open Go Go.RowKit
def LS (w:World) (v:Value) (l:List Int):Prop:=
 (v= .slice none 0 0∧l=[])∨∃g off c,v= .slice (some ⟨g,off,none⟩) l.length c∧l.length≤c∧c≤maxLen∧g<w.heap.size∧∀(i:Nat) x,l[i]?=some x→w.cell? ⟨g,off+i,none⟩=some (UJ x)
section
variable {w w':World} {v:Value} {l:List Int}
theorem Sl.ls {S:Nat→Prop} (h:Sl S w 27 1 v l.length (l.map UJ)):LS w v l:=by
 rcases h.1.2 with⟨h1,h0⟩|⟨g,cap,cur,rfl,_,hh,hc,RI,_⟩
 ·exact .inl ⟨by rw[h1],KC.1 h0⟩
 ·refine .inr ⟨g,0,cap,rfl,hc,RI,h.lt rfl,fun i x hx=>?_⟩
  have hi:i<l.length:=(Ap.1 hx).1
  have:=h.1.cellAt i (by simpa using hi)
  rw[FA]
  refine this.trans ?_
  rw[Az,hx];rfl
theorem LS.shape (h:LS w v l):∃a c,v= .slice a l.length c:=by
 rcases h with⟨rfl,rfl⟩|⟨g,off,c,rfl,_⟩
 ·exact⟨none,0,rfl⟩
 ·exact⟨_,_,rfl⟩
theorem LS.at_ {a:Option Addr} {c:Nat} (h:LS w (.slice a l.length c) l) {k:Nat} {x:Int} (hx:l[k]?=some x):∃g off,a=some ⟨g,off,none⟩∧w.cell? ⟨g,off+k,none⟩=some (.int .u64 x)∧l.length≤c∧c≤maxLen:=by
 rcases h with⟨_,rfl⟩|⟨g,off,c',e,h1,h2,h3,h4⟩
 ·simp at hx
 ·injection e with e1 e2 e3
  subst e1 e3
  exact⟨g,off,rfl,h4 k x hx,h1,h2⟩
end
section
variable {w:World}
theorem eF (w:World) (a b:Nat):(w.drewN a).drewN b=w.drewN (a+b):=by simp[World.drewN,E3]
def Aas (w:World) (b:Bool) (e:Ending) (w':World):Prop:=e= .returned (.bool b)∧∃n,w'=w.drewN n
theorem Wm {u v:Value} {a b:List Int} (ha:LS w u a) (hb:LS w v b) (hl:a.length≤1000000000) (Ik:b.length≤1000000000):Calls Tryz.prog 32 #[u,v] w (Aas w (a==b)):=by
 obtain⟨xa,ca,rfl⟩:=ha.shape
 obtain⟨xb,cb,rfl⟩:=hb.shape
 have HA:=Aa ha
 have HB:=Aa hb
 clear ha hb
 by_cases hlen:a.length=b.length
 ·have HL:=Aa hlen
  rw[←hlen]
  clear hlen
  go_enter Tryz.func32,Tryz.ntmps32
  go_wp2
  go_loopg [13,5] a.length (fun gg s13 _ wr=>∃k:Nat,k≤a.length∧a.length-k≤gg∧s13= .int .i64 k∧(∃n,wr=w.drewN n)∧∀(j:Nat) x y,j<k→a[j]?=some x→b[j]?=some y→x=y)
  case atStart=>exact⟨0,Bn _,by omega,rfl,⟨0,rfl⟩,fun j x y hj=>absurd hj (nY _)⟩
  case round=>
   obtain⟨k,hk,hg,rfl,⟨n,rfl⟩,N3⟩:=hrel
   have Sd:=Aa N3
   clear N3
   by_cases Cy:k<a.length
   ·obtain⟨x,hx⟩:∃x,a[k]?=some x:=⟨_,Ah Cy⟩
    obtain⟨y,hy⟩:∃y,b[k]?=some y:=⟨_,Ah (by have:=HL.out;omega)⟩
    obtain⟨ga,oa,rfl,hca,h1,h2⟩:=HA.out.at_ hx
    obtain⟨gb,ob,rfl,hcb,h3,h4⟩:=HB.out.at_ hy
    unfold maxLen at h2 h4
    rw[←HL.out]at h3
    have HX:=Aa hx
    have HY:=Aa hy
    clear hx hy
    by_cases e:x=y
    ·have e1:(x==y)=true:=by simpa using e
     have e2:decide (x=y)=true:=by simpa using e
     have E:=Aa e
     clear e
     go_wp2
     go_quiet (fail)
     go_wp2
     go_roundg (a.length-(k+1))
     case measure=>omega
     case rel=>
      refine⟨k+1,by omega,by omega,by go_num,⟨n+nq,by first|rfl|exact eF w n nq⟩,fun j x' y' hj h5 h6=>?_⟩
      by_cases ej:j=k
      ·subst ej
       rw[HX.out]at h5
       rw[HY.out]at h6
       injection h5 with h5
       injection h6 with h6
       rw[←h5,←h6];exact E.out
      ·exact Sd.out j x' y' (by omega) h5 h6
    ·have e1:(x==y)=false:=by simpa using e
     have e2:decide (x=y)=false:=by simpa using e
     have Cu:(a==b)=false:=by
      rw[Bv]
      intro jN
      rw[jN]at HX
      have:=HX.out.symm.trans HY.out
      injection this with this
      exact e this
     have E:=Aa e
     have HNE:=Aa Cu
     clear e Cu
     go_wp2
     go_quiet (fail)
     go_wp2
     go_ret
     exact⟨by first|rfl|(rw[HNE.out];rfl),n+nq,by first|rfl|exact eF w n nq⟩
   ·have vO:k=a.length:=by omega
    have jN:(a==b)=true:=by
     rw[OY]
     refine Fg fun i=>?_
     rcases BP i a.length with hi|hi
     ·have qx:i<b.length:=by have:=HL.out;omega
      rw[Ah hi,Ah qx]
      exact AL some (Sd.out i _ _ (by omega) (Ah hi) (Ah qx))
     ·rw[Bq hi,Bq (by have:=HL.out;omega)]
    have HAB:=Aa jN
    clear jN
    subst vO
    go_wp2
    go_ret
    exact⟨by rw[HAB.out];rfl,_,rfl⟩
 ·have jN:(a==b)=false:=by
   rw[Bv]
   intro e
   exact hlen (by rw[e])
  have e1:((a.length:Int)==(b.length:Int))=false:=by simp;omega
  have e2:decide ((a.length:Int)=(b.length:Int))=false:=by simp;omega
  rw[jN]
  clear jN
  go_enter Tryz.func32,Tryz.ntmps32
  go_wp2
  go_ret
  exact⟨rfl,0,rfl⟩
end
section
variable {B:Nat} {ea:Nat→Addr} {S:Nat→Prop} {w:World} {ge:Nat} {e:LN}
theorem ZE {gg gs ga gp bm bc loops QI XZ:Nat} {vd vva MJ:Value} {SA PJ:Nat→Prop} {A A':Am} {ns:List (List Nat)} {w1:World} (he:VW B ea w) (h:xi S w ge e gg gs ga gp bm bc loops vd vva SA A ns)
  (hk:Af (fun b=>w.heap.size≤b) w w1) (CP:tE w.heap.size w1 QI XZ MJ PJ A' e.s.vars) (hA:CM A' ns e.s.q) (ev key:Int):
  Calls Tryz.prog 37 #[.pointer (some ⟨gg,0,none⟩),.pointer (some ⟨QI,0,none⟩),.int .i64 ev,.int .u64 key] w1 (dA w.heap.size ea w1 QI e.p (exec e.p key (DX e.p ev) ⟨e.s,[]⟩)):=by
 have _l:=he.kept hk (fun b hb=>Ai he.size hb)
 have hc:=(h.prog.code.mono_ (S':=fun b=>b<w.heap.size) (fun b hb _=>hb)).kept_ hk (fun b hb _=>by omega)
 obtain⟨M,m1,m2⟩:=hc.map
 exact pC h.pw (_l.errC he.size) (h.prog.ro.kept hk (fun b hb=>hb)) CP hA h.si hk.size hc.lo m1 (m2 ev)
theorem nc (he:VW B ea w) (ho:Ln B ea w) (h0:Hv S w ge e) (hS:∀b,S b→b<w.heap.size) (key:Int) {k:Nat} (hx:exec e.p key (DX e.p (FG e.s key)) ⟨e.s,[]⟩= .error k):
  Calls Tryz.prog 20 #[.pointer (some ⟨ge,0,none⟩),.int .u64 key] w (dB S w ge (.err k) e.p e):=by
 obtain⟨k1,k2⟩:=mY hx
 have h0':=h0
 obtain⟨gg,gs,ga,gp,bm,bc,loops,vd,vva,SA,A,ns,h⟩:=h0'
 obtain⟨vl,vf,vq,bm2,JK⟩:=h.ar
 have u9:=Ot JK h.inv.ok key
 have _z:(⟨e.s.q,e.s.vars⟩:St)=e.s:=rfl
 have uZ:=h.inv.where_ key e.s.vars
 rw[_z]at uZ
 rw[uZ]at u9
 have Nw:=TQ h.ar h.srow h.vars h.inv (by have:=h.si.v;have:=h.pw.decls.len;omega)
 have hq:=PW h.si key
 have Cd:=fun QI XZ MJ PJ A' w1=>@ZE B ea S w ge e gg gs ga gp bm bc loops QI XZ vd vva MJ SA PJ A A' ns w1 he h
 have c0:=h.row.cell 0
 have c1:=h.row.cell 1
 have s0:=h.srow.cell 0
 have r1:=h.row.lt
 have r2:=h.srow.lt
 generalize FG e.s key=Q at*
 have HW:=Aa u9
 have HC:=Aa Nw
 have HR:=Aa Cd
 have H0:=Aa h0
 have HE:=Aa he
 have HO:=Aa ho
 have HX:=Aa hx
 have HS:=Aa hS
 clear u9 Nw Cd h0 he ho hx JK h _z uZ hS
 simp at c0 c1 s0
 rcases hq with rfl|Zw
 all_goals
  first
   |have Amj:¬Q<0:=by have:=Zw.1;omega
   |skip
  go_enter jU,dj
  go_wp2_with fail
  refine HW.out.mono ?_
  rintro e1 w1 ⟨rfl,rfl⟩
  go_wp2_with fail
  refine HC.out.mono ?_
  rintro e1 kh ⟨QI,XZ,MJ,PJ,A',rfl,Bi,G6,LK⟩
  have d0:kh.cell? ⟨ge,0,none⟩=some (.pointer (some ⟨gg,0,none⟩)):=(Bi.cell (p:=⟨ge,0,none⟩) (by simp only;omega)).trans c0
  have hr:=fun ev=>HR.out QI XZ MJ PJ A' kh Bi G6 LK ev key
  have dI:=Aa hr
  have K1:=Aa Bi
  clear hr Bi G6 LK
  go_wp2_with fail
  refine(dI.out _).mono ?_
  rintro e1 w2 ⟨A4,hm⟩
  rw[HX.out]at hm
  simp only at hm
  subst hm
  have kk:Af (fun b=>w.heap.size≤b) w w2:=K1.out.trans A4
  have hn:=Uc (HE.out.kept kk (fun b hb=>Ai HE.out.size hb)) k1 k2 (ir (HO.out.kept kk (fun b hb=>Ai HE.out.size hb)) (Ai HE.out.size kk.size) k1 k2)
  have HN:=Aa hn
  have KK:=Aa kk
  clear hn kk A4
  unfold Dn at HN ⊢
  go_wp2_with fail
  refine HN.out.mono ?_
  rintro e1 w3 ⟨rfl,BY⟩
  have Yf:=Aa BY
  clear BY
  go_wp2
  refine Av (v:=.tuple #[.bool false,.slice none 0 0,.int .i64 k]) (by simp[results,VM,go_sem]) rfl ?_
  have k3:Af (fun b=>w.heap.size≤b) w w3:=KK.out.trans (Yf.out.mono (fun b hb=>Ai KK.out.size hb))
  exact⟨k3.mono (fun b hb=>.inr hb),rfl,H0.out.kept k3 (fun b hb Cy=>by omega)⟩
theorem qQ (he:VW B ea w) (h0:Hv S w ge e) (hS:∀b,S b→b<w.heap.size) {m:Nat} (hm:m≤4000000) (hc:Sf e.n m) (key:Int) {r:GK} (hx:exec e.p key (DX e.p (FG e.s key)) ⟨e.s,[]⟩= .ok r):
  Calls Tryz.prog 20 #[.pointer (some ⟨ge,0,none⟩),.int .u64 key] w (dB S w ge (e.access key) e.p e):=by
 have v9:=jk e key r hx
 rw[v9]
 have sY:=Z3 (c:=e.n) h0.inv.1 h0.inv.2 v9
 have qu:=sY.2.1.nov
 have Aiq:=Wy h0.inv.1 hx
 clear sY v9
 obtain⟨gg,gs,ga,gp,bm,bc,loops,vd,vva,SA,A,ns,h⟩:=h0
 obtain⟨vl,vf,vq,bm2,JK⟩:=h.ar
 have u9:=Ot JK h.inv.ok key
 have _z:(⟨e.s.q,e.s.vars⟩:St)=e.s:=rfl
 have uZ:=h.inv.where_ key e.s.vars
 rw[_z]at uZ
 rw[uZ]at u9
 have Nw:=TQ h.ar h.srow h.vars h.inv (by have:=h.si.v;have:=h.pw.decls.len;omega)
 have hq:=PW h.si key
 have Cd:=fun QI XZ MJ PJ A' w1=>@ZE B ea S w ge e gg gs ga gp bm bc loops QI XZ vd vva MJ SA PJ A A' ns w1 he h
 have c0:=h.row.cell 0
 have c1:=h.row.cell 1
 have c2:=h.row.cell 2
 have c3:=h.row.cell 3
 have c4:=h.row.cell 4
 have s0:=h.srow.cell 0
 have g0:=h.prog.code.row.cell 0
 have p0:=h.prog.pol.cell 0
 have r1:=h.row.lt
 have r2:=h.srow.lt
 have r3:=h.prog.code.row.lt
 have r4:=h.prog.pol.lt
 have n1:gg≠ge:=h.prog.code.row.ne_ h.row (by decide)
 have n2:gp≠ge:=h.prog.pol.ne_ h.row (by decide)
 have RG:=fun q hq=>h.prog.ro.decl (q:=q) hq
 have uI:∀b,vd.ownBlock=some b→b≠ge∧b<w.heap.size:=fun b hb=>⟨fun e=>h.prog.decls.ne_row h.row (by decide) (e▸hb),h.prog.decls.lt hb⟩
 have h8:=h.pw.decls.len
 generalize FG e.s key=Q at*
 obtain⟨b1,b2,b3,b4,b5,b6⟩:=hc
 have HW:=Aa u9
 have HC:=Aa Nw
 have HR:=Aa Cd
 have HP:=Aa h
 have HX:=Aa hx
 have HS:=Aa hS
 have dJ:=Aa qu
 clear u9 Nw Cd he hx JK h _z uZ hS qu
 simp at c0 c1 c2 c3 c4 s0 g0 p0
 generalize sR:e.n.hits=H at*
 generalize Zt:e.n.misses=M at*
 generalize sW:e.n.evicted=V at*
 have HH:=Aa sR
 have HM:=Aa Zt
 have HV:=Aa sW
 clear sR Zt sW
 rcases hq with rfl|Zw
 ·have MW:Bl e.p.decls (-1)=false:=rfl
  rw[MW]at dJ ⊢
  clear RG uI MW
  go_enter jU,dj
  go_wp2_with fail
  refine HW.out.mono ?_
  rintro e1 w1 ⟨rfl,rfl⟩
  go_wp2_with fail
  refine HC.out.mono ?_
  rintro e1 kh ⟨QI,XZ,MJ,PJ,A',rfl,Bi,G6,LK⟩
  have d0:kh.cell? ⟨ge,0,none⟩=some (.pointer (some ⟨gg,0,none⟩)):=(Bi.cell (p:=⟨ge,0,none⟩) (by simp only;omega)).trans c0
  have hr:=fun ev=>HR.out QI XZ MJ PJ A' kh Bi G6 LK ev key
  have dI:=Aa hr
  have K1:=Aa Bi
  clear hr Bi G6 LK
  go_wp2_with fail
  refine(dI.out _).mono ?_
  rintro e1 w2 ⟨A4,LV⟩
  rw[HX.out]at LV
  obtain⟨vou,ga2,yu,tF,A2,ns2,rfl,Py,cj,qtoq,Cp,SU⟩:=LV
  have kk:Af (fun b=>w.heap.size≤b) w w2:=K1.out.trans (A4.mono (fun b hb=>hb))
  obtain⟨ao,co,rfl⟩:∃a c,vou= .slice a r.gone.length c:=Cp.shape
  have f1:=fun i=>kk.cell (p:=⟨ge,i,none⟩) (by simp only;omega)
  have x1:=(f1 1).trans c1
  have x2:=(f1 2).trans c2
  have x3:=(f1 3).trans c3
  have x4:=(f1 4).trans c4
  have Ij:AM w2 ge 76 _:=HP.out.row.kept kk (by omega)
  have ff:=fun j=>Ij.frozen j
  have KK:=Aa kk
  have ST:=Aa Py
  have pb:=Aa cj
  have SL:=Aa qtoq
  have aG:=Aa Cp
  have _N:=Aa SU
  have Tc:=Aa Ij
  clear kk Py cj qtoq Cp SU A4 f1 Ij
  go_wp2
  refine Av (v:=.tuple #[.bool false,.slice ao r.gone.length co,.int .i64 0]) (by simp[results,VM,go_sem]) rfl ?_
  have A6:=XG (e1:=⟨e.p,r.s,Pm e.n false r.gone.length⟩) (l:=r.gone) HP.out KK.out ST.out pb.out SL.out aG.out _N.out rfl dJ.out
   (((Af.one w2 ⟨ge,1,none⟩ (.pointer (some ⟨QI,0,none⟩))).setCell (p:=⟨ge,3,none⟩) rfl (.int .i64 (M+1))).setCell (p:=⟨ge,4,none⟩) rfl (.int .i64 (V+r.gone.length)))
   (by
    have h:=((Tc.out.set_ 1 (.pointer (some ⟨QI,0,none⟩))).set_ 3 (.int .i64 (M+1))).set_ 4 (.int .i64 (V+r.gone.length))
    simpa[Pm,HH.out,HM.out,HV.out]using h)
  exact⟨A6.1,_,rfl,A6.2.1,A6.2.2⟩
 ·obtain⟨gd,cd,ed,Rn,RI,dk,_⟩:=RG Q Zw
  subst ed
  obtain⟨n3,r5⟩:=uI gd rfl
  obtain⟨m2,rfl⟩:∃m:Nat,Q=(m:Int):=⟨Q.toNat,by have:=Zw.1;omega⟩
  rw[A3]at dk
  have Pz:m2<e.p.decls.length:=by have:=Zw.2;omega
  have _y:Bl e.p.decls (m2:Int)=((Au e.p.decls (m2:Int)).kind==0):=by unfold Bl;simp
  rw[_y]at dJ ⊢
  generalize (Au e.p.decls (m2:Int)).kind=K at*
  generalize hD:e.p.decls.length=D at*
  unfold maxLen at RI
  clear hD RG uI _y Zw
  by_cases hK:K=0
  ·subst hK
   have eK:((0:Nat)==0)=true:=rfl
   rw[eK]at dJ ⊢
   clear eK
   go_enter jU,dj
   go_wp2_with fail
   refine HW.out.mono ?_
   rintro e1 w1 ⟨rfl,rfl⟩
   go_wp2_with fail
   refine HC.out.mono ?_
   rintro e1 kh ⟨QI,XZ,MJ,PJ,A',rfl,Bi,G6,LK⟩
   have d0:kh.cell? ⟨ge,0,none⟩=some (.pointer (some ⟨gg,0,none⟩)):=(Bi.cell (p:=⟨ge,0,none⟩) (by simp only;omega)).trans c0
   have hr:=fun ev=>HR.out QI XZ MJ PJ A' kh Bi G6 LK ev key
   have dI:=Aa hr
   have K1:=Aa Bi
   clear hr Bi G6 LK
   go_wp2_with fail
   refine(dI.out _).mono ?_
   rintro e1 w2 ⟨A4,LV⟩
   rw[HX.out]at LV
   obtain⟨vou,ga2,yu,tF,A2,ns2,rfl,Py,cj,qtoq,Cp,SU⟩:=LV
   have kk:Af (fun b=>w.heap.size≤b) w w2:=K1.out.trans (A4.mono (fun b hb=>hb))
   obtain⟨ao,co,rfl⟩:∃a c,vou= .slice a r.gone.length c:=Cp.shape
   have f1:=fun i=>kk.cell (p:=⟨ge,i,none⟩) (by simp only;omega)
   have x1:=(f1 1).trans c1
   have x2:=(f1 2).trans c2
   have x3:=(f1 3).trans c3
   have x4:=(f1 4).trans c4
   have Ij:AM w2 ge 76 _:=HP.out.row.kept kk (by omega)
   have ff:=fun j=>Ij.frozen j
   have y0:=(f1 0).trans c0
   have yg:=(kk.cell (p:=⟨gg,0,none⟩) (by simp only;omega)).trans g0
   have yp:=(kk.cell (p:=⟨gp,0,none⟩) (by simp only;omega)).trans p0
   have yd:=(kk.cell (p:=⟨gd,m2*3,none⟩) (by simp only;omega)).trans dk
   have KK:=Aa kk
   have ST:=Aa Py
   have pb:=Aa cj
   have SL:=Aa qtoq
   have aG:=Aa Cp
   have _N:=Aa SU
   have Tc:=Aa Ij
   clear kk Py cj qtoq Cp SU A4 f1 Ij
   go_wp2
   refine Av (v:=.tuple #[.bool true,.slice ao r.gone.length co,.int .i64 0]) (by simp[results,VM,go_sem]) rfl ?_
   have A6:=XG (e1:=⟨e.p,r.s,Pm e.n true r.gone.length⟩) (l:=r.gone) HP.out KK.out ST.out pb.out SL.out aG.out _N.out rfl dJ.out
    (((Af.one w2 ⟨ge,1,none⟩ (.pointer (some ⟨QI,0,none⟩))).setCell (p:=⟨ge,2,none⟩) rfl (.int .i64 (H+1))).setCell (p:=⟨ge,4,none⟩) rfl (.int .i64 (V+r.gone.length)))
    (by
     have h:=((Tc.out.set_ 1 (.pointer (some ⟨QI,0,none⟩))).set_ 2 (.int .i64 (H+1))).set_ 4 (.int .i64 (V+r.gone.length))
     simpa[Pm,HH.out,HM.out,HV.out]using h)
   exact⟨A6.1,_,rfl,A6.2.1,A6.2.2⟩
  ·have eK:(K==0)=false:=by simpa using hK
   rw[eK]at dJ ⊢
   have eK2:((K:Int)==0)=false:=by simpa using hK
   have eK3:decide ((K:Int)=0)=false:=by simpa using hK
   clear eK
   go_enter jU,dj
   go_wp2_with fail
   refine HW.out.mono ?_
   rintro e1 w1 ⟨rfl,rfl⟩
   go_wp2_with fail
   refine HC.out.mono ?_
   rintro e1 kh ⟨QI,XZ,MJ,PJ,A',rfl,Bi,G6,LK⟩
   have d0:kh.cell? ⟨ge,0,none⟩=some (.pointer (some ⟨gg,0,none⟩)):=(Bi.cell (p:=⟨ge,0,none⟩) (by simp only;omega)).trans c0
   have hr:=fun ev=>HR.out QI XZ MJ PJ A' kh Bi G6 LK ev key
   have dI:=Aa hr
   have K1:=Aa Bi
   clear hr Bi G6 LK
   go_wp2_with fail
   refine(dI.out _).mono ?_
   rintro e1 w2 ⟨A4,LV⟩
   rw[HX.out]at LV
   obtain⟨vou,ga2,yu,tF,A2,ns2,rfl,Py,cj,qtoq,Cp,SU⟩:=LV
   have kk:Af (fun b=>w.heap.size≤b) w w2:=K1.out.trans (A4.mono (fun b hb=>hb))
   obtain⟨ao,co,rfl⟩:∃a c,vou= .slice a r.gone.length c:=Cp.shape
   have f1:=fun i=>kk.cell (p:=⟨ge,i,none⟩) (by simp only;omega)
   have x1:=(f1 1).trans c1
   have x2:=(f1 2).trans c2
   have x3:=(f1 3).trans c3
   have x4:=(f1 4).trans c4
   have Ij:AM w2 ge 76 _:=HP.out.row.kept kk (by omega)
   have ff:=fun j=>Ij.frozen j
   have y0:=(f1 0).trans c0
   have yg:=(kk.cell (p:=⟨gg,0,none⟩) (by simp only;omega)).trans g0
   have yp:=(kk.cell (p:=⟨gp,0,none⟩) (by simp only;omega)).trans p0
   have yd:=(kk.cell (p:=⟨gd,m2*3,none⟩) (by simp only;omega)).trans dk
   have KK:=Aa kk
   have ST:=Aa Py
   have pb:=Aa cj
   have SL:=Aa qtoq
   have aG:=Aa Cp
   have _N:=Aa SU
   have Tc:=Aa Ij
   clear kk Py cj qtoq Cp SU A4 f1 Ij
   go_wp2
   refine Av (v:=.tuple #[.bool false,.slice ao r.gone.length co,.int .i64 0]) (by simp[results,VM,go_sem]) rfl ?_
   have A6:=XG (e1:=⟨e.p,r.s,Pm e.n false r.gone.length⟩) (l:=r.gone) HP.out KK.out ST.out pb.out SL.out aG.out _N.out rfl dJ.out
    (((Af.one w2 ⟨ge,1,none⟩ (.pointer (some ⟨QI,0,none⟩))).setCell (p:=⟨ge,3,none⟩) rfl (.int .i64 (M+1))).setCell (p:=⟨ge,4,none⟩) rfl (.int .i64 (V+r.gone.length)))
    (by
     have h:=((Tc.out.set_ 1 (.pointer (some ⟨QI,0,none⟩))).set_ 3 (.int .i64 (M+1))).set_ 4 (.int .i64 (V+r.gone.length))
     simpa[Pm,HH.out,HM.out,HV.out]using h)
   exact⟨A6.1,_,rfl,A6.2.1,A6.2.2⟩
theorem SH (he:VW B ea w) (ho:Ln B ea w) (h:Hv S w ge e) (hS:∀b,S b→b<w.heap.size) {m:Nat} (hm:m≤4000000) (hc:Sf e.n m) (key:Int):
  Calls Tryz.prog 20 #[.pointer (some ⟨ge,0,none⟩),.int .u64 key] w (dB S w ge (e.access key) e.p e):=by
 cases hx:exec e.p key (DX e.p (FG e.s key)) ⟨e.s,[]⟩with
 |ok r=>exact qQ he h hS hm hc key hx
 |error k=>
  have ha:e.access key= .err k:=by
   unfold LN.access
   simp only[hx]
  rw[ha]
  exact nc he ho h hS key hx
end
section
variable {N:Nat→Prop} {w:World} {gp:Nat} {p:AF}
theorem pE (w:World) (A B:Obj) (t:TypeId) (cs:List Value):AM (((w.alloc A).alloc B).alloc (.cells cs.toArray t)) (w.heap.size+1+1) t cs:=by
 have hr:=AM.new ((w.alloc A).alloc B) t cs
 simp only[RX]at hr
 exact hr
end
section
variable {S:Nat→Prop} {w:World} {ge:Nat} {e:LN}
theorem Hv.mine (h:Hv S w ge e):S ge:=by
 obtain⟨gg,gs,ga,gp,bm,bc,loops,vd,vva,SA,A,ns,h⟩:=h
 exact h.se.1
theorem Hv.shrink (h:Hv S w ge e):Hv (fun b=>S b∧b<w.heap.size) w ge e:=by
 obtain⟨gg,gs,ga,gp,bm,bc,loops,vd,vva,SA,A,ns,h⟩:=h
 obtain⟨vl,vf,vq,nA,ha⟩:=h.ar
 exact⟨gg,gs,ga,gp,bm,bc,loops,vd,vva,(fun b=>SA b∧b<w.heap.size),A,ns,h.row,h.prog.mono (fun b hb hs=>⟨⟨hs.1,hb⟩,fun k=>hs.2 k.1⟩),h.srow,
  h.vars.shrink.mono (fun b hb=>⟨⟨hb.1.1,hb.2⟩,fun k=>hb.1.2 k.1⟩),⟨vl,vf,vq,nA,ha.shrink⟩,h.inv,h.si,h.pw,h.nov,fun b hb=>⟨h.sa b hb.1,hb.2⟩,⟨⟨h.se.1,h.row.lt⟩,fun k=>h.se.2 k.1⟩,⟨⟨h.ss.1,h.srow.lt⟩,fun k=>h.ss.2 k.1⟩⟩
end
structure tJ where
 kind:Int
 a:Int
 key:Int
 s:Ae
def zW0 (x:tJ):List Value:=[.int .i64 x.kind,.int .i64 x.a,.int .u64 x.key,vs x.s]
structure OpB (x:tJ):Prop where
 k1: -9223372036854775808≤x.kind
 k2:x.kind≤9223372036854775807
 a1: -9223372036854775808≤x.a
 a2:x.a≤9223372036854775807
 sl:x.s.length≤140737488351232
def Nb (w:World) (v:Value) (l:List tJ):Prop:=
 ∃a c,v= .slice a l.length c∧l.length≤4000000000000∧(∀x∈l,OpB x)∧∀(k:Nat) x,l[k]?=some x→∃g off,a=some ⟨g,off,none⟩∧g<w.heap.size∧∀j,j<4→w.cell? ⟨g,off+k*4+j,none⟩=(zW0 x)[j]?
theorem Nb.later {w w':World} {v:Value} {l:List tJ} (h:Nb w v l) (hk:Af (fun b=>w.heap.size≤b) w w'):Nb w' v l:=by
 obtain⟨a,c,h1,h2,h3,h4⟩:=h
 refine⟨a,c,h1,h2,h3,fun k x hx=>?_⟩
 obtain⟨g,off,q1,q2,q3⟩:=h4 k x hx
 exact⟨g,off,q1,AD q2 hk.size,fun j hj=>(hk.cell (p:=⟨g,off+k*4+j,none⟩) (by simp only;omega)).trans (q3 j hj)⟩
theorem Nb.at_ {w:World} {a:Option Addr} {c:Nat} {l:List tJ} (h:Nb w (.slice a l.length c) l) {k:Nat} {x:tJ} (hx:l[k]?=some x):∃g off,a=some ⟨g,off,none⟩∧g<w.heap.size∧w.cell? ⟨g,off+k*4,none⟩=some (.int .i64 x.kind)∧w.cell? ⟨g,off+k*4+1,none⟩=some (.int .i64 x.a)∧w.cell? ⟨g,off+k*4+2,none⟩=some (.int .u64 x.key)∧w.cell? ⟨g,off+k*4+3,none⟩=some (vs x.s)∧OpB x:=by
 obtain⟨a',c',h1,h2,h3,h4⟩:=h
 injection h1 with h1 _ _
 obtain⟨g,off,q1,q2,q3⟩:=h4 k x hx
 exact⟨g,off,h1.trans q1,q2,q3 0 (by omega),q3 1 (by omega),q3 2 (by omega),q3 3 (by omega),h3 x (A7 hx)⟩
section
variable {w:World} {v:Value} {l:List tJ}
def zW9 (w:World) (l:List tJ) (y:Ending) (w':World):Prop:=∃b,y= .returned (.bool b)∧(b=true→l.length≤1048576)∧Af (fun b=>w.heap.size≤b) w w'
theorem gu (h:Nb w v l):Calls Tryz.prog 23 #[v] w (zW9 w l):=by
 obtain⟨a,c,rfl,hl,qt,_⟩:=id h
 have H:=Aa h
 clear h qt
 go_enter Tryz.func23,Tryz.ntmps23
 go_wp2_with fail
 go_loopg [10,3] l.length (fun gg us s3 wr=>∃(k:Nat) (t:Int),k≤l.length∧l.length-k≤gg∧us= .int .i64 k∧s3= .int .i64 t∧(l.length:Int)≤t∧t≤4000000000000∧Af (fun b=>w.heap.size≤b) w wr)
 case atStart=>exact⟨0,l.length,Bn _,by omega,rfl,rfl,by omega,by omega,Af.refl _ _⟩
 case round=>
  obtain⟨k,t,hk,hg,rfl,rfl,oH,Sz,CV⟩:=hrel
  have PU:=Aa CV
  by_cases Cy:k<l.length
  ·obtain⟨x,hx⟩:∃x,l[k]?=some x:=⟨_,Ah Cy⟩
   obtain⟨g,off,rfl,q1,q2,q3,q4,q5,hb⟩:=(H.out.later CV).at_ hx
   have Mh:=hb.sl
   have Fw:=At x.s
   clear hx CV hb
   unfold vs at*
   by_cases _a:t+(x.s.length:Int)>1048576
   ·have e1:decide (t+(x.s.length:Int)>1048576)=true:=OT _a
    go_wp2
    go_ret
    exact⟨false,rfl,(fun hb=>absurd hb Bg),PU.out.trans (((Af.refl _ wr).alloc (Ab _) _).mono (fun b hb=>Ai PU.out.size hb))⟩
   ·have e1:decide (t+(x.s.length:Int)>1048576)=false:=IA _a
    go_wp2
    go_roundg (l.length-(k+1))
    case measure=>omega
    case rel=>exact⟨k+1,_,by omega,by omega,by go_num,rfl,by omega,by omega,PU.out.trans (((Af.refl _ wr).alloc (Ab _) _).mono (fun b hb=>Ai PU.out.size hb))⟩
  ·clear CV
   go_wp2
   go_ret
   refine⟨_,rfl,fun h=>?_,PU.out⟩
   have:=GA h
   omega
end
structure rE (B:Nat) (ea:Nat→Addr) (gx:Nat×Nat) (w0:World):Prop where
 env:VW B ea w0
 obj:Ln B ea w0
 words:PH w0 gx
theorem rE.later {B:Nat} {ea:Nat→Addr} {gx:Nat×Nat} {w w':World} (h:rE B ea gx w) (hk:Af (fun b=>w.heap.size≤b) w w'):rE B ea gx w':=
 ⟨h.env.kept hk (fun b hb=>Ai h.env.size hb),h.obj.kept hk (fun b hb=>Ai h.env.size hb),h.words.kept hk⟩
theorem Sf.access {e e1:LN} {m:Nat} {key:Int} {hit:Bool} {gone:List Int} (hp:EO e.p) (hc:Sf e.n m) (h:e.access key= .ok hit gone e1):Sf e1.n (m+1)∧gone.length≤1750000∧e1.p=e.p:=by
 unfold LN.access at h
 simp only at h
 cases hx:exec e.p key (DX e.p (FG e.s key)) ⟨e.s,[]⟩with
 |error k=>rw[hx]at h;cases h
 |ok r=>
  rw[hx]at h
  simp only at h
  injection h with h1 h2 h3
  have hg:=Wy hp hx
  subst h1 h2 h3
  exact⟨hc.up _ hg,hg,rfl⟩
end Go.Proofs.YtemppijblfflgaaGreatDoor.Ev
namespace Go.Proofs.YtemppijblfflgaaGreatDoor.Ev
def yo.as (p:AF):yo→yo
 | .ok hit gone e=>.ok hit gone ⟨p,e.s,e.n⟩
 | .err n=>.err n
theorem Z2 {p:AF} (hp:EO p) (s:St) (c:jy) (key:Int):(⟨GF p,s,c⟩:LN).access key=yo.as (GF p) ((⟨p,s,c⟩:LN).access key):=by
 have hr:DX (GF p) (FG s key)=EI (DX p (FG s key)):=by
  unfold DX
  rw[So hp]
  cases AE p.rules (FG s key)<;>rfl
 unfold LN.access
 simp only
 rw[hr,Jz]
 cases exec p key (DX p (FG s key)) ⟨s,[]⟩with
 |error n=>rfl
 |ok r=>rfl
end Go.Proofs.YtemppijblfflgaaGreatDoor.Ev
