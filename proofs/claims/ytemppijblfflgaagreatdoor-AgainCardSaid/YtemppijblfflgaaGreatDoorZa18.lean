/- Parts of a proof that a law's walk returns true. Conditions: none. -/
import Derived.Test.YtemppijblfflgaaGreatDoorZa00
import Derived.Test.YtemppijblfflgaaGreatDoorZa02
import Derived.Test.YtemppijblfflgaaGreatDoorZa14
import Derived.Test.YtemppijblfflgaaGreatDoorZa15
import Derived.Test.YtemppijblfflgaaGreatDoorZa16
set_option linter.all false
set_option maxRecDepth 100000
set_option maxHeartbeats 8000000
namespace Go.Proofs.YtemppijblfflgaaGreatDoor.Ev
open Go Go.RowKit
section
variable {w:World} {g gp:Nat} {tl:Value} {ts:List CB} {pc:List Value} {r:Ff} {s:Ae} {st:PS}
theorem C0.later_ {w w':World} {N:Nat→Prop} {v:Value} {b:AC} {t:List Value} (h:C0 N w v b) (hk:Kg g w w') (hr:AM w g 124 t):C0 N w' v b:=h.kept (fun _ _ _ Ij=>Hw hk Ij.lt (Ij.ne_ hr (by decide)))
theorem C0.far_ {w:World} {N:Nat→Prop} {v:Value} {b:AC} (h:C0 N w v b) {D:Nat} (hD:∀k,N k→k≠D) (i:Nat) (u:Value):C0 N (w.setCell ⟨D,i,none⟩ u) v b:=
 h.kept (fun k _ hk _=>FU w ⟨D,i,none⟩ u k (hD k hk))
theorem C0.copy14 {w:World} {N:Nat→Prop} {v:Value} {b:AC} (h:C0 N w v b) {C:Nat} (hC:∀k,N k→k≠C) (d0 d1 d2 d3 d4 d5 d6 d7 d8 d9 OW OV OU nu:Value):C0 N (MB w C d0 d1 d2 d3 d4 d5 d6 d7 d8 d9 OW OV OU nu) v b:=
 (((((((((((((h.far_ hC 0 d0).far_ hC 1 d1).far_ hC 2 d2).far_ hC 3 d3).far_ hC 4 d4).far_ hC 5 d5).far_ hC 6 d6).far_ hC 7 d7).far_ hC 8 d8).far_ hC 9 d9).far_ hC 10 OW).far_ hC 11 OV).far_ hC 12 OU).far_ hC 13 nu
def qe (s:Ae) (n:Nat) (o:AJ Unit):AJ AC:=
 (Cx s (n+1) o).bind fun c st=>(block s n st).bind fun t st=>
  if st.t.kind=BH then(block s n (next s st)).bind fun e st=>.ok (.ite c t true e .nil) st else .ok (.ite c t false .nil .nil) st
theorem WQ {n:Nat} {o:AJ Unit} (h:(CO s n (BM (Cx s (n+1) o))).isB BH=true):BM (qe s n o)=BM (CO s n (DR s BH (CO s n (BM (Cx s (n+1) o))))):=by
 unfold qe
 cases h1:Cx s (n+1) o with
 |bad e p=>rw[h1]at h;cases h
 |ok c st1=>
  rw[h1]at h
  have e1:CO s n (BM (AJ.ok c st1))=block s n st1:=rfl
  rw[e1]at h ⊢
  show BM ((block s n st1).bind _)=_
  cases h2:block s n st1 with
  |bad e p=>rw[h2]at h;cases h
  |ok t AP=>
   rw[h2]at h
   have hk:AP.t.kind=BH:=by simpa[AJ.isB]using h
   show BM (if AP.t.kind=BH then _ else _)=_
   rw[Ak hk]
   have e2:DR s BH (AJ.ok t AP)= .ok () (next s AP):=by show AJ.ok () (take s BH AP).2=_;unfold take;rw[Ak hk]
   rw[e2]
   show BM ((block s n (next s AP)).bind _)=BM (block s n (next s AP))
   cases block s n (next s AP)<;>rfl
theorem aO {n:Nat} {o:AJ Unit} (h:(CO s n (BM (Cx s (n+1) o))).isB BH=false):BM (qe s n o)=BM (DR s BH (CO s n (BM (Cx s (n+1) o)))):=by
 rw[Gp h]
 unfold qe
 cases h1:Cx s (n+1) o with
 |bad e p=>rfl
 |ok c st1=>
  rw[h1]at h
  have e1:CO s n (BM (AJ.ok c st1))=block s n st1:=rfl
  rw[e1]at h ⊢
  show BM ((block s n st1).bind _)=_
  cases h2:block s n st1 with
  |bad e p=>rfl
  |ok t AP=>
   rw[h2]at h
   have hk:¬AP.t.kind=BH:=by simpa[AJ.isB]using h
   show BM (if AP.t.kind=BH then _ else _)=_
   rw[Ad hk]
   rfl
theorem bM {n:Nat} {o:AJ Unit} {x:AC} {Fm:PS} (h:(CO s n (BM (Cx s (n+1) o))).isB BH=true) (e:qe s n o= .ok x Fm):
  ∃c st1 t AP b,Cx s (n+1) o= .ok c st1∧CO s n (BM (Cx s (n+1) o))= .ok t AP∧CO s n (DR s BH (CO s n (BM (Cx s (n+1) o))))= .ok b Fm∧x= .ite c t true b .nil:=by
 unfold qe at e
 obtain⟨c,st1,h1,e⟩:=AA e
 obtain⟨t,AP,h2,e⟩:=AA e
 have e1:CO s n (BM (Cx s (n+1) o))= .ok t AP:=by rw[h1];exact h2
 rw[e1]at h
 have hk:AP.t.kind=BH:=by simpa[AJ.isB]using h
 rw[Ak hk]at e
 obtain⟨b,Cb,h3,e⟩:=AA e
 injection e with e2 e3
 subst e2 e3
 refine⟨c,st1,t,AP,b,h1,e1,?_,rfl⟩
 rw[e1]
 have e2:DR s BH (AJ.ok t AP)= .ok () (next s AP):=by show AJ.ok () (take s BH AP).2=_;unfold take;rw[Ak hk]
 rw[e2]
 exact h3
theorem l8 {n:Nat} {o:AJ Unit} {x:AC} {Fm:PS} (h:(CO s n (BM (Cx s (n+1) o))).isB BH=false) (e:qe s n o= .ok x Fm):
  ∃c st1 t,Cx s (n+1) o= .ok c st1∧CO s n (BM (Cx s (n+1) o))= .ok t Fm∧x= .ite c t false .nil .nil:=by
 unfold qe at e
 obtain⟨c,st1,h1,e⟩:=AA e
 obtain⟨t,AP,h2,e⟩:=AA e
 have e1:CO s n (BM (Cx s (n+1) o))= .ok t AP:=by rw[h1];exact h2
 rw[e1]at h
 have hk:¬AP.t.kind=BH:=by simpa[AJ.isB]using h
 rw[Ad hk]at e
 injection e with e2 e3
 subst e2 e3
 exact⟨c,st1,t,h1,e1,rfl⟩
theorem Ol {N:Nat→Prop} {w:World} {c:Da} {t e:AC} {o:Bool} {vt ve:Value} {cs:List Value} (aE:cs=Lc c vt o ve) (ht:C0 N w vt t) (he:if o then C0 N w ve e else ve=Bx∧e= .nil):AW N w (.ite c t o e .nil) cs:=by
 refine⟨vt,ve,[],by rw[aE,Bk],ht,?_,rfl⟩
 cases o with
 |true=>exact he
 |false=>exact he
theorem S9 {N:Nat→Prop} {w:World} {c:Da} {t:AC} {n:Int} {vt:Value} {cs:List Value} (aE:cs=JM n c vt) (ht:C0 N w vt t):AW N w (.rep n c t .nil) cs:=
 ⟨vt,[],by rw[aE,Bk],ht,rfl⟩
theorem kY (n:Nat) (OH:Rj g gp tl ts pc s n) (h:FQ w g gp tl ts pc r) (hs:AB s r st) (ht:DD ts (toks s)) (hl:s.length≤1000) (hd:st.depth≤8) (Ux:st.loops≤2) (hn:2*left s st≤n) (hk:st.t.kind=Iw):
  Calls Tryz.prog 128 #[.pointer (some ⟨g,0,none⟩)] w (MC w g gp tl ts pc s r.decls (qe s n (.ok () (next s st)))):=by
 obtain⟨x,hx,IM⟩:=AB.tok hs ht
 obtain⟨gt,ct,rfl,h1,h2,h3,h4,h5,t0,t1,t2⟩:=h.at_ hx
 have Nf:x.is=Iw:=by rw[IM.1,hk];decide
 rw[Nf]at t0
 obtain⟨c0,c1,_⟩:=h.cells
 have Cy:=h.row.lt
 have ff:=fun j=>h.row.frozen j
 have h8:=h.tl
 have Jj:r.k<ts.length:=h3
 unfold maxLen at h2
 have Nh:Kg g w (w.setCell ⟨g,1,none⟩ (.int .i64 ((r.k:Int)+1))):=(Af.refl _ w).setCell (p:=⟨g,1,none⟩) (.inl rfl) _
 have q1:=(Lu.start_ (D:=w.heap.size+1) (RH.start_ (C:=w.heap.size) (ty:=212) Nh (h.put 1 (.int .i64 ((r.k:Int)+1)) (r':=r.nx) rfl rfl) (by decide) F8 (by simp)) [vs Iw,.int .i64 0,.int .i64 0,.bool false,vs [],.int .i64 0,vs [],.int .i64 0,vs [],.int .i64 0,.int .i64 0,.slice none 0 0,.slice none 0 0,.bool false] (by simp)).drewN 1
 have FF:Bs s r.nx (AJ.ok () (next s st)):=AB.next hs (by rw[hk];decide) (by rw[hk];decide)
 have G7:(next s st).Ok s:=BF (AB.ok hs)
 have vL:=DY (AB.ok hs) hk (by decide) (by decide)
 have Rn:=Wf q1.rd FF ht hl (n:=n+1) (show left s (next s st)<n+1 by omega)
 have HT:=Aa ht
 have IL:=Aa G7
 have jw:=Aa OH
 have xd:=Aa Rn
 have Q1:=Aa q1
 have HF:=Aa (And.intro (show(next s st).depth≤8 from hd) (And.intro (show(next s st).loops≤2 from Ux) (show 2*left s (next s st)+1≤n by omega)))
 generalize Gh:r.k=kq at*
 generalize QG:ts.length=LL at*
 clear hx IM hs FF G7 Nf hk Gh QG h q1 ht t1 t2 Nh OH Rn vL hn hd Ux
 unfold vs at*
 go_enter EW,Ej
 go_wp2
 go_region
 go_wp2_with fail
 refine xd.out.mono ?_
 rintro e w1 ⟨a0,n0,a1,n1,a2,n2,j0,rfl,Bi,vX,r1,La,GG,Gi⟩
 have p1:=Q1.out.call Bi La
 have z:=fun j=>p1.row2.frozen j
 obtain⟨e0,e1,e2,e3,e4,e5,e6,e7,e8,e9,e10,e11,e12,L7⟩:=BS p1.row2
 have q2:=((((((p1.set2 4 (vs a0)).set2 5 (.int .i64 n0)).set2 6 (vs a1)).set2 7 (.int .i64 n1)).set2 8 (vs a2)).set2 9 (.int .i64 n2)).set2 10 (.int .i64 j0)
 have LX:=jw.out (BM (Cx s (n+1) (AJ.ok () (next s st)))) _ r1 q2.rd (by
   cases hc:Cx s (n+1) (AJ.ok () (next s st))with
   |bad e p=>rw[hc]at GG;exact GG
   |ok c st1=>rw[hc]at GG;exact GG) (fun Fm e=>by
   cases hc:Cx s (n+1) (AJ.ok () (next s st))with
   |bad e2 p=>rw[hc]at e;cases e
   |ok c st1=>
    rw[hc]at e
    injection e with _ e
    subst e
    obtain⟨f1,f2,f3⟩:=HF.out
    obtain⟨g1,g2,_⟩:=I8 IL.out hc
    exact⟨by rw[g1.depth];exact f1,by rw[g1.loops];exact f2,by omega⟩)
 rw[Gi]at LX
 have Yg:=Aa LX
 have Q2:=Aa q2
 have HCV:=Aa vX
 clear p1 q2 Bi vX La GG Gi LX xd Q1
 unfold vs at*
 go_wp2_with fail
 clear e0 e1 e2 e3 e4 e5 e6 e7 e8 e9 e10 e11 e12 L7 z
 refine Yg.out.mono ?_
 rintro e w2 ⟨va,vn,vc,rfl,A4,Pi,r2,LZ,Cp,Fp⟩
 have p2:=Q2.out.call A4 LZ
 have z:=fun j=>p2.row2.frozen j
 obtain⟨e0,e1,e2,e3,e4,e5,e6,e7,e8,e9,e10,e11,e12,L7⟩:=BS p2.row2
 have q3:=p2.set2 11 (.slice va vn vc)
 have JS:w.heap.size+1<w1.heap.size:=by have:=Q2.out.row2.lt;simp at this;exact this
 have v6:∀b Fm,CO s n (BM (Cx s (n+1) (AJ.ok () (next s st))))= .ok b Fm→Fm.wrong=none→C0 (fun k=>w.heap.size+1<k) (w2.setCell ⟨w.heap.size+1,11,none⟩ (.slice va vn vc)) (.slice va vn vc) b:=fun b Fm e hw=>
  ((Pi b Fm e hw).mono (fun k _ hk=>by simp at hk;omega)).far_ (fun k hk=>by omega) 11 _
 have GM:=FI q3.rd Cp HT.out (kd:=BH) (kr:=BH) (by decide) (by decide) (by decide) (by decide)
 rw[Fp]at GM
 have VV:=Aa v6
 have Q3:=Aa q3
 cases SY:(CO s n (BM (Cx s (n+1) (AJ.ok () (next s st))))).isB BH with
 |true=>
  rw[SY]at GM
  have MG:=Aa GM
  have jv:=Aa SY
  clear p2 q3 A4 Pi LZ Cp Fp v6 GM SY Yg Q2 JS
  unfold vs at*
  go_wp2_with fail
  clear e0 e1 e2 e3 e4 e5 e6 e7 e8 e9 e10 e11 e12 L7 z
  refine MG.out.mono ?_
  rintro e w3 ⟨rfl,BY,r3,Vg,Fo,Gx⟩
  have p3:=Q3.out.call BY Vg
  have z:=fun j=>p3.row2.frozen j
  obtain⟨e0,e1,e2,e3,e4,e5,e6,e7,e8,e9,e10,e11,e12,L7⟩:=BS p3.row2
  have q4:=p3.set2 13 (.bool true)
  have z8:∀b Fm,CO s n (BM (Cx s (n+1) (AJ.ok () (next s st))))= .ok b Fm→Fm.wrong=none→C0 (fun k=>w.heap.size+1<k) (w3.setCell ⟨w.heap.size+1,13,none⟩ (.bool true)) (.slice va vn vc) b:=fun b Fm e hw=>
   ((VV.out b Fm e hw).later_ BY Q3.out.rd.row).far_ (fun k hk=>by omega) 13 _
  have LX:=jw.out (DR s BH (CO s n (BM (Cx s (n+1) (AJ.ok () (next s st)))))) _ r3 q4.rd Fo (fun Fm e=>by
   obtain⟨f1,f2,f3⟩:=HF.out
   obtain⟨t1,st1,e1,k1⟩:=AJ.isB_ok jv.out
   have hc9:=e1
   rw[e1]at e
   obtain⟨c,E5,hc,hb⟩:=AA (show(Cx s (n+1) (AJ.ok () (next s st))).bind (fun _ st=>block s n st)= .ok t1 st1 from by
    rw[←hc9]
    cases Cx s (n+1) (AJ.ok () (next s st))<;>rfl)
   obtain⟨g1,g2,_⟩:=I8 IL.out hc
   obtain⟨b1,_,_,_,_,b6⟩:=DP g1.ok (by rw[g1.depth];exact f1) (by rw[g1.loops];exact f2) hb
   have e2:DR s BH (AJ.ok t1 st1)= .ok () (next s st1):=by show AJ.ok () (take s BH st1).2=_;unfold take;rw[Ak k1]
   rw[e2]at e
   injection e with _ e
   subst e
   have OQ:=DY b1.ok k1 (by decide) (by decide)
   exact⟨by show st1.depth≤8;rw[b1.depth,g1.depth];exact f1,by show st1.loops≤2;rw[b1.loops,g1.loops];exact f2,by omega⟩)
  rw[Gx]at LX
  have rV:=Aa LX
  have HB3:=Aa z8
  have Q4:=Aa q4
  have Ac5:w.heap.size+1<w3.heap.size:=by have:=Q4.out.row2.lt;simp at this;exact this
  clear p3 q4 BY Vg Fo Gx LX z8 MG Q3 VV
  go_wp2_with fail
  clear e0 e1 e2 e3 e4 e5 e6 e7 e8 e9 e10 e11 e12 L7 z
  refine rV.out.mono ?_
  rintro e w4 ⟨ua,un,uc,rfl,CU,xP,r4,QH,J5,Fz⟩
  have p4:=Q4.out.call CU QH
  have z:=fun j=>p4.row2.frozen j
  have y:=fun j=>p4.row.frozen j
  obtain⟨e0,e1,e2,e3,e4,e5,e6,e7,e8,e9,e10,e11,e12,L7⟩:=BS p4.row2
  obtain⟨f0,f1,f2,f3,f4,f5,f6,f7,f8,f9,UH,f11,UG,jP⟩:=BS p4.row
  have Cu:¬w.heap.size=w.heap.size+1:=by omega
  have q9:=(p4.set2 12 (.slice ua un uc)).copy14 (vs Iw) (.int .i64 0) (.int .i64 0) (.bool false) (vs a0) (.int .i64 n0) (vs a1) (.int .i64 n1) (vs a2) (.int .i64 n2) (.int .i64 j0) (.slice va vn vc) (.slice ua un uc) (.bool true)
  have tg:∀b Fm,CO s n (BM (Cx s (n+1) (AJ.ok () (next s st))))= .ok b Fm→Fm.wrong=none→C0 (fun k=>w.heap.size≤k) (MB (w4.setCell ⟨w.heap.size+1,12,none⟩ (.slice ua un uc)) w.heap.size (vs Iw) (.int .i64 0) (.int .i64 0) (.bool false) (vs a0) (.int .i64 n0) (vs a1) (.int .i64 n1) (vs a2) (.int .i64 n2) (.int .i64 j0) (.slice va vn vc) (.slice ua un uc) (.bool true)) (.slice va vn vc) b:=fun b Fm e hw=>
   ((((HB3.out b Fm e hw).later_ CU Q4.out.rd.row).far_ (fun k hk=>by omega) 12 _).copy14 (C:=w.heap.size) (fun k hk=>by omega) _ _ _ _ _ _ _ _ _ _ _ _ _ _).mono (fun k _ hk=>by omega)
  have oO:∀b Fm,CO s n (DR s BH (CO s n (BM (Cx s (n+1) (AJ.ok () (next s st))))))= .ok b Fm→Fm.wrong=none→C0 (fun k=>w.heap.size≤k) (MB (w4.setCell ⟨w.heap.size+1,12,none⟩ (.slice ua un uc)) w.heap.size (vs Iw) (.int .i64 0) (.int .i64 0) (.bool false) (vs a0) (.int .i64 n0) (vs a1) (.int .i64 n1) (vs a2) (.int .i64 n2) (.int .i64 j0) (.slice va vn vc) (.slice ua un uc) (.bool true)) (.slice ua un uc) b:=fun b Fm e hw=>
   (((((xP b Fm e hw).mono (N':=fun k=>w.heap.size+1<k) (fun k _ hk=>by simp at hk;omega))).far_ (D:=w.heap.size+1) (fun k hk=>by omega) 12 _).copy14 (C:=w.heap.size) (fun k hk=>by omega) _ _ _ _ _ _ _ _ _ _ _ _ _ _).mono (fun k _ hk=>by omega)
  have HBA:=Aa tg
  have ym:=Aa oO
  have Q9:=Aa q9
  have zW17:=Aa J5
  have FD:=Aa Fz
  clear p4 q9 CU QH J5 Fz xP tg oO rV Q4 HB3 Ac5
  unfold vs at*
  go_wp2
  refine Av (AG (cs:=[vs Iw,.int .i64 0,.int .i64 0,.bool false,vs a0,.int .i64 n0,vs a1,.int .i64 n1,vs a2,.int .i64 n2,.int .i64 j0,.slice va vn vc,.slice ua un uc,.bool true]) CY FO EL rfl Q9.out.row) rfl ?_
  refine⟨_,rfl,⟨_,_,_,_,_,_,_,_,_,_,_,_,_,_,_,_,_,_,rfl⟩,Q9.out.kg,fun x9 Fm e hw=>?_,r4,Q9.out.rd,zW17.out.of_unit (WQ jv.out),FD.out⟩
  obtain⟨c,st1,tb,AP,eb,u1,u2,u3,rfl⟩:=bM jv.out e
  have Xh:AP.wrong=none:=by
   obtain⟨t1,Cb,e1,k1⟩:=AJ.isB_ok jv.out
   rw[u2]at e1
   injection e1 with _ e1
   subst e1
   rw[u2]at u3
   have e2:DR s BH (AJ.ok tb AP)= .ok () (next s AP):=by show AJ.ok () (take s BH AP).2=_;unfold take;rw[Ak k1]
   rw[e2]at u3
   obtain⟨f1,f2,f3⟩:=HF.out
   obtain⟨g1,g2,_⟩:=I8 IL.out u1
   have hb:block s n st1= .ok tb AP:=by rw[u1]at u2;exact u2
   obtain⟨b1,_,_,_,_,b6⟩:=DP g1.ok (by rw[g1.depth];exact f1) (by rw[g1.loops];exact f2) hb
   obtain⟨b9,_⟩:=DP (BF b1.ok) (by show AP.depth≤8;rw[b1.depth,g1.depth];exact f1) (by show AP.loops≤2;rw[b1.loops,g1.loops];exact f2) (show block s n (next s AP)= .ok eb Fm from u3)
   exact b9.wrong hw
  have Qx:st1.wrong=none:=by
   obtain⟨f1,f2,f3⟩:=HF.out
   obtain⟨g1,g2,_⟩:=I8 IL.out u1
   have hb:block s n st1= .ok tb AP:=by rw[u1]at u2;exact u2
   exact(DP g1.ok (by rw[g1.depth];exact f1) (by rw[g1.loops];exact f2) hb).1.wrong Xh
  have zX:=HCV.out c st1 u1 Qx
  exact Ol (by unfold Lc;rw[←zX];rfl) (HBA.out tb AP u2 Xh) (ym.out eb Fm u3 hw)
 |false=>
  rw[SY]at GM
  have MG:=Aa GM
  have jv:=Aa SY
  clear p2 q3 A4 Pi LZ Cp Fp v6 GM SY Yg Q2 JS
  unfold vs at*
  go_wp2_with fail
  clear e0 e1 e2 e3 e4 e5 e6 e7 e8 e9 e10 e11 e12 L7 z
  refine MG.out.mono ?_
  rintro e w3 ⟨rfl,BY,r3,Vg,Fo,Gx⟩
  have p3:=Q3.out.call BY Vg
  have z:=fun j=>p3.row2.frozen j
  have y:=fun j=>p3.row.frozen j
  obtain⟨e0,e1,e2,e3,e4,e5,e6,e7,e8,e9,e10,e11,e12,L7⟩:=BS p3.row2
  obtain⟨f0,f1,f2,f3,f4,f5,f6,f7,f8,f9,UH,f11,UG,jP⟩:=BS p3.row
  have Cu:¬w.heap.size=w.heap.size+1:=by omega
  have q9:=(p3.set2 13 (.bool false)).copy14 (vs Iw) (.int .i64 0) (.int .i64 0) (.bool false) (vs a0) (.int .i64 n0) (vs a1) (.int .i64 n1) (vs a2) (.int .i64 n2) (.int .i64 j0) (.slice va vn vc) (.slice none 0 0) (.bool false)
  have tg:∀b Fm,CO s n (BM (Cx s (n+1) (AJ.ok () (next s st))))= .ok b Fm→Fm.wrong=none→C0 (fun k=>w.heap.size≤k) (MB (w3.setCell ⟨w.heap.size+1,13,none⟩ (.bool false)) w.heap.size (vs Iw) (.int .i64 0) (.int .i64 0) (.bool false) (vs a0) (.int .i64 n0) (vs a1) (.int .i64 n1) (vs a2) (.int .i64 n2) (.int .i64 j0) (.slice va vn vc) (.slice none 0 0) (.bool false)) (.slice va vn vc) b:=fun b Fm e hw=>
   ((((VV.out b Fm e hw).later_ BY Q3.out.rd.row).far_ (fun k hk=>by omega) 13 _).copy14 (C:=w.heap.size) (fun k hk=>by omega) _ _ _ _ _ _ _ _ _ _ _ _ _ _).mono (fun k _ hk=>by omega)
  have HBA:=Aa tg
  have Q9:=Aa q9
  have zW17:=Aa Fo
  have FD:=Aa Gx
  clear p3 q9 BY Vg Fo Gx tg MG Q3 VV
  unfold vs at*
  go_wp2
  refine Av (AG (cs:=[vs Iw,.int .i64 0,.int .i64 0,.bool false,vs a0,.int .i64 n0,vs a1,.int .i64 n1,vs a2,.int .i64 n2,.int .i64 j0,.slice va vn vc,.slice none 0 0,.bool false]) CY FO EL rfl Q9.out.row) rfl ?_
  refine⟨_,rfl,⟨_,_,_,_,_,_,_,_,_,_,_,_,_,_,_,_,_,_,rfl⟩,Q9.out.kg,fun x9 Fm e hw=>?_,r3,Q9.out.rd,zW17.out.of_unit (aO jv.out),FD.out⟩
  obtain⟨c,st1,tb,u1,u2,rfl⟩:=l8 jv.out e
  have Qx:st1.wrong=none:=by
   obtain⟨f1,f2,f3⟩:=HF.out
   obtain⟨g1,g2,_⟩:=I8 IL.out u1
   have hb:block s n st1= .ok tb Fm:=by rw[u1]at u2;exact u2
   exact(DP g1.ok (by rw[g1.depth];exact f1) (by rw[g1.loops];exact f2) hb).1.wrong hw
  have zX:=HCV.out c st1 u1 Qx
  exact Ol (by unfold Lc;rw[←zX];rfl) (HBA.out tb Fm u2 hw) ⟨rfl,rfl⟩
end
def MV (o:AJ Unit):Bool:=match o with
 | .ok _ st=>decide (st.t.kind=Bo∧st.depth=8)
 | .bad _ _=>false
def zW15 (o:AJ Unit):Bool:=match o with
 | .ok _ st=>!(st.t.kind==AU)
 | .bad _ _=>false
theorem Px {o:AJ Unit} (h:MV o=true):MA o=o.fail_ QP:=by
 cases o with
 |bad e p=>cases h
 |ok a st=>
  have h1:st.t.kind=Bo∧st.depth=8:=GA h
  show(if _ then _ else _)=_
  rw[Ak h1]
  rfl
theorem RD {o:AJ Unit} (h:MV o=false):MA o=o:=by
 cases o with
 |bad e p=>rfl
 |ok a st=>
  have h1:¬(st.t.kind=Bo∧st.depth=8):=ON h
  show(if _ then _ else _)=_
  rw[Ad h1]
theorem qK {o:AJ Unit} (h:zW15 o=true):∃st,o= .ok () st∧(AJ.ok () st:AJ Unit).isB AU=false:=by
 cases o with
 |bad e p=>cases h
 |ok a st=>
  refine⟨st,rfl,?_⟩
  have h1:(!(st.t.kind==AU))=true:=h
  simpa[AJ.isB]using h1
theorem wk {o:AJ Unit} (h:zW15 o=false):o.isB AU=true∨∃e p,o= .bad e p:=by
 cases o with
 |bad e p=>exact .inr ⟨e,p,rfl⟩
 |ok a st=>
  have h1:(!(st.t.kind==AU))=false:=h
  exact .inl (by simpa[AJ.isB]using h1)
section
variable {w:World} {g gp:Nat} {tl:Value} {ts:List CB} {pc:List Value} {r:Ff} {s:Ae} {α:Type}
abbrev Ff.dp (r:Ff) (D:Int):Ff:={r with deep:=D}
theorem Bs.deepIn {o:AJ α} (h:Bs s r o) (D:Int) (hD:∀a st,o= .ok a st→D=((st.depth+1:Nat):Int)):Bs s (r.dp D) (jE o):=by
 cases o with
 |bad e p=>
  have h':DF s r e p:=h
  exact⟨h'.lt,h'.bad,h'.badAt,h'.ne,h'.fk⟩
 |ok a st=>
  have h':AB s r st:=h
  exact⟨h'.pos.of rfl rfl,⟨h'.ok.i,h'.ok.pos,h'.ok.more,h'.ok.num,h'.ok.name⟩,hD a st rfl,h'.loops,h'.bad,h'.wrong,h'.decls,h'.freq,h'.seen,h'.f0,h'.fk⟩
theorem Bs.deepOut {o:AJ α} (h:Bs s r o) (D:Int) (hD:∀a st,o= .ok a st→D=((st.depth-1:Nat):Int)):Bs s (r.dp D) (uC o):=by
 cases o with
 |bad e p=>
  have h':DF s r e p:=h
  exact⟨h'.lt,h'.bad,h'.badAt,h'.ne,h'.fk⟩
 |ok a st=>
  have h':AB s r st:=h
  exact⟨h'.pos.of rfl rfl,⟨h'.ok.i,h'.ok.pos,h'.ok.more,h'.ok.num,h'.ok.name⟩,hD a st rfl,h'.loops,h'.bad,h'.wrong,h'.decls,h'.freq,h'.seen,h'.f0,h'.fk⟩
theorem Sq (n:Nat) (ht:DD ts (toks s)) (hl:s.length≤1000) (CP:∀m,m<n+1→dy g gp tl ts pc s m):Rj g gp tl ts pc s (n+1):=by
 intro o w r h hs G7
 rw[i8]
 have SE:=JG h hs ht (kd:=Bo) (kr:=Bo) (by decide) (by decide)
 obtain⟨_,_,c2,_⟩:=h.cells
 have HI:=Aa SE
 have HR:=Aa h
 have HS:=Aa hs
 have IL:=Aa G7
 have HT:=Aa ht
 have Vh:=Aa CP
 clear SE h hs G7 ht CP
 unfold vs at*
 go_enter Tryz.func91,Tryz.ntmps91
 go_upto_region 1 with fail
 go_cut [12] (fun s12 wx=>s12= .bool (MV o)∧∃n1,wx=w.drewN n1)
 case first=>
  cases o with
  |bad e p=>
   go_wp2_with fail
   refine HI.out.mono ?_
   rintro x w1 ⟨rfl,n1,rfl⟩
   go_wp2
   go_meet
   exact⟨rfl,n1,rfl⟩
  |ok a st=>
   have Ve:=AB.deep HS.out
   rw[Ve]at c2
   by_cases hk:st.t.kind=Bo
   ·have qx:(AJ.ok a st).isB Bo=true:=by simpa[AJ.isB]using hk
    have hi:=HI.out
    rw[qx]at hi
    have HI2:=Aa hi
    clear hi
    by_cases h8:st.depth=8
    ·have hD:=Aa (show MV (.ok a st)=true from OT ⟨hk,h8⟩)
     rw[h8]at c2
     clear hk h8 Ve qx
     go_wp2_with fail
     refine HI2.out.mono ?_
     rintro x w1 ⟨rfl,n1,rfl⟩
     go_wp2
     go_meet
     exact⟨by rw[hD.out],n1,rfl⟩
    ·have hD:=Aa (show MV (.ok a st)=false from IA (fun x=>h8 x.2))
     have e8:((st.depth:Int)==8)=false:=by simp;omega
     clear hk h8 Ve qx
     go_wp2_with fail
     refine HI2.out.mono ?_
     rintro x w1 ⟨rfl,n1,rfl⟩
     go_wp2
     go_meet
     exact⟨by rw[hD.out],n1,rfl⟩
   ·have qx:(AJ.ok a st).isB Bo=false:=by simpa[AJ.isB]using hk
    have hi:=HI.out
    rw[qx]at hi
    have HI2:=Aa hi
    have hD:=Aa (show MV (.ok a st)=false from IA (fun x=>hk x.1))
    clear hi hk Ve qx
    go_wp2_with fail
    refine HI2.out.mono ?_
    rintro x w1 ⟨rfl,n1,rfl⟩
    go_wp2
    go_meet
    exact⟨by rw[hD.out],n1,rfl⟩
 case rest=>
  obtain⟨rfl,n1,rfl⟩:=hcut
  clear c2 HI
  go_upto_if 12 with fail
  go_cut [] (fun wx=>Kg g w wx∧∃r1,FQ wx g gp tl ts pc r1∧Bs s r1 (MA o)∧r1.decls=r.decls)
  case first=>
   cases hD:MV o with
   |true=>
    have hf:=Mn (HR.out.drewN n1) HS.out HT.out (e:=3) (by decide)
    have HF:=Aa hf
    have HD:=Aa hD
    clear hf hD
    go_wp2_with fail
    refine HF.out.mono ?_
    rintro x w1 ⟨rfl,Bi,r1,h1,GG,Gi⟩
    have F:=Aa (And.intro Bi (And.intro h1 (And.intro GG Gi)))
    clear Bi h1 GG Gi
    go_wp2
    go_meet
    obtain⟨f1,f2,f3,f4⟩:=F.out
    exact⟨Kg.trans ((Af.refl _ _).drewN n1) f1,r1,f2,by rw[Px HD.out];exact f3,f4⟩
   |false=>
    have HD:=Aa hD
    clear hD
    go_wp2
    go_meet
    exact⟨(Af.refl _ _).drewN n1,r,HR.out.drewN n1,by rw[RD HD.out];exact HS.out,rfl⟩
  case rest=>
   obtain⟨Bi,r1,h1,GG,Gi⟩:=hcut
   have IZ:=Dw h1 GG HT.out (kd:=Bo) (kr:=Bo) (by decide) (by decide) (by decide) (by decide)
   have Tv:=Aa IZ
   have K1:=Aa Bi
   have aH:=Aa Gi
   clear IZ Bi h1 GG Gi
   unfold vs at*
   go_wp2_with fail
   refine Tv.out.mono ?_
   rintro x w2 ⟨x2,rfl,A4,_,r2,h2,Cp,Fp⟩
   obtain⟨_,_,c2,_⟩:=h2.cells
   have f2:=h2.row.frozen 2
   have K2:=Aa (Kg.trans K1.out A4)
   have H2:=Aa h2
   have SL:=Aa Cp
   have XN:=Aa (Fp.trans aH.out)
   clear A4 h2 Cp Fp Tv K1 aH
   unfold DB vs
   go_upto_region 4 with fail
   go_cut [] (fun wx=>Kg g w wx∧∃r3,FQ wx g gp tl ts pc r3∧Bs s r3 (jE (BC s Bo (MA o)))∧r3.decls=r.decls)
   case first=>
    cases hw:BC s Bo (MA o)with
    |bad e p=>
     have Cp:=SL.out
     rw[hw]at Cp
     have fh:=Aa Cp
     have HW:=Aa hw
     clear Cp hw
     go_wp2
     go_meet
     exact⟨K2.out.setCell (p:=⟨g,2,none⟩) (.inl rfl) _,r2.dp (wrap64 (r2.deep+1)),H2.out.put 2 _ rfl rfl,by rw[HW.out];exact fh.out.deepIn _ (fun a st e=>by cases e),XN.out⟩
    |ok t st=>
     have Cp:=SL.out
     rw[hw]at Cp
     have Ve:=AB.deep Cp
     have hd8:st.depth≤8:=by
      cases o with
      |bad e p=>cases hw
      |ok a E5=>
       have h9:=(IL.out E5 rfl).1
       cases hD:MV (.ok a E5)with
       |true=>rw[Px hD]at hw;cases hw
       |false=>
        rw[RD hD]at hw
        obtain⟨_,_,e⟩:=Bw (show want s Bo E5= .ok t st from hw)
        rw[e]
        exact h9
     rw[Ve]at c2
     have fh:=Aa Cp
     have HW:=Aa hw
     clear Cp hw Ve
     go_wp2
     go_meet
     exact⟨K2.out.setCell (p:=⟨g,2,none⟩) (.inl rfl) _,r2.dp ((st.depth:Int)+1),H2.out.put 2 _ rfl rfl,by rw[HW.out];exact fh.out.deepIn _ (fun a st' e=>by injection e with _ e;rw[←e];rfl),XN.out⟩
   case rest=>
    obtain⟨BY,r3,h3,Fo,Gx⟩:=hcut
    clear c2 f2 K2 H2 SL XN
    have NX:∃(m:Nat) (o1:AJ Unit) (r1:Ff) (done:AC) (j:Nat) (cs:List Value) (a:Option Addr) (c:Nat),(Value.slice none 0 0)= .slice a j c∧tG g gp tl ts pc s r.decls w wc n (jE (BC s Bo (MA o))) (C6 s (jE (BC s Bo (MA o)))) m o1 r1 done j cs a c:=by
     have Aid:=Uk (s:=s) (jE (BC s Bo (MA o)))
     have hf:∀st,jE (BC s Bo (MA o))= .ok () st→2*left s st+2≤n∧st.depth≤8∧st.loops≤2∧1≤st.depth:=by
      intro st e
      cases o with
      |bad e2 p=>cases e
      |ok a E5=>
       obtain⟨h9,SZ,mP⟩:=IL.out E5 rfl
       cases hD:MV (.ok a E5)with
       |true=>rw[Px hD]at e;cases e
       |false=>
        rw[RD hD]at e
        have IZ:¬(E5.t.kind=Bo∧E5.depth=8):=ON hD
        obtain⟨t,st1,e1,e2⟩:=AA (show(want s Bo E5).bind (fun _ st=>AJ.ok () {st with depth:=st.depth+1})= .ok () st from e)
        obtain⟨k1,_,e3⟩:=Bw e1
        injection e2 with _ e2
        have Gh:=DY (AB.ok HS.out) k1 (by decide) (by decide)
        subst e3
        have el:left s st=left s (next s E5):=by rw[←e2];rfl
        have ed:st.depth=E5.depth+1:=by rw[←e2];rfl
        have eo:st.loops=E5.loops:=by rw[←e2];rfl
        refine⟨by omega,?_,by omega,by omega⟩
        rw[ed]
        have:E5.depth≠8:=fun h=>IZ ⟨k1,h⟩
        omega
     refine⟨n-1,jE (BC s Bo (MA o)),r3,.nil,0,[],none,0,rfl,BY,h3,Fo,Gx,?_,fun st e=>?_,fun st e=>?_,Ab _,by omega,Sl.nil__ _ wc _ _,fun st _ _=>⟨rfl,rfl⟩⟩
     ·cases ho:jE (BC s Bo (MA o))with
      |bad e p=>rfl
      |ok a st=>
       obtain⟨f1,_⟩:=hf st ho
       have e9:n-1+1=n:=by omega
       rw[e9]
       cases JV s n (AJ.ok a st)<;>rfl
     ·obtain⟨f1,f2,f3,f4⟩:=hf st e
      exact⟨by omega,f2,f3,f4⟩
     ·obtain⟨f1,_⟩:=hf st e
      omega
    have om:=Aa NX
    clear NX BY h3 Fo Gx
    generalize ho0:jE (BC s Bo (MA o))=o0 at*
    have HO0:=Aa ho0
    clear ho0
    obtain⟨i0,Lt,KX,Ls,Lr⟩:=Cj it
    go_wp2_with fail
    go_loopg [3] (C6 s o0) (fun kk v3 wr=>∃(m:Nat) (o1:AJ Unit) (r1:Ff) (done:AC) (j:Nat) (cs:List Value) (a:Option Addr) (c:Nat),v3= .slice a j c∧tG g gp tl ts pc s r.decls w wr n o0 kk m o1 r1 done j cs a c)
    case atStart=>exact om.out
    case round=>
     clear om
     obtain⟨m,o1,r1,done,j,cs,a,c,rfl,hL⟩:=hrel
     obtain⟨_,_,_,_,c4,_⟩:=hL.rd.cells
     have SE:=JG hL.rd hL.says HT.out (kd:=AU) (kr:=AU) (by decide) (by decide)
     have HI:=Aa SE
     have HL:=Aa hL
     clear SE hL
     unfold vs at*
     go_upto_region 6 with fail
     go_cut [33] (fun s33 wx=>s33= .bool (zW15 o1)∧∃n1,wx=wr.drewN n1)
     case first=>
      cases o1 with
      |bad e p=>
       have hb:r1.bad≠0:=by rw[DF.bad HL.out.says];exact DF.ne HL.out.says
       have e1:((r1.bad:Int)==0)=false:=by simpa using hb
       have e2:decide ((r1.bad:Int)=0)=false:=by simpa using hb
       clear hb
       go_wp2
       go_meet
       exact⟨rfl,0,rfl⟩
      |ok a1 st=>
       have hb:(r1.bad:Int)=0:=by rw[AB.bad HL.out.says];rfl
       rw[hb]at c4
       have HGB:=Aa (show zW15 (.ok a1 st)=!((AJ.ok a1 st).isB AU)from rfl)
       generalize (AJ.ok a1 st).isB AU=bb at*
       clear hb
       go_wp2_with fail
       refine HI.out.mono ?_
       rintro x w1 ⟨rfl,n1,rfl⟩
       go_wp2
       go_meet
       exact⟨by rw[HGB.out],n1,rfl⟩
     case rest=>
      obtain⟨rfl,n1,rfl⟩:=hcut
      clear c4 HI
      have Ww:=HL.out.drewN n1
      have PT:=Aa Ww
      clear HL
      generalize wr.drewN n1=wq at*
      cases hgo:zW15 o1 with
      |true=>
       obtain⟨st,rfl,hc⟩:=qK hgo
       obtain⟨m,rfl⟩:∃x,m=x+1:=⟨m-1,by have:=(Ww.fuel st rfl).1;omega⟩
       obtain⟨q1,q2,q3,_⟩:=Ww.fuel st rfl
       have iy:=Vh.out (m+1) (by have:=Ww.mn st rfl;omega) st wq r1 Ww.rd Ww.says q2 q3 (by omega)
       rw[Ww.decls]at iy
       have rL:=Aa iy
       have HC:=Aa hc
       clear iy hc hgo Ww q1 q2 q3
       go_wp2_with fail
       refine rL.out.mono ?_
       rintro x w2 ⟨L,rfl,⟨k_,n_,m_,t_,uR,uJ,uQ,Rz,uP,Ry,j_,RW,uO,RS,RU,uN,RR,o_,aE⟩,A4,hx,r2,h2,Cp,Fp⟩
       subst aE
       have hd8:2≤maxLen:=by unfold maxLen;omega
       have hlen:=PT.out.len
       have Kf:0<left s st:=NU (AB.ok PT.out.says)
       have hj:j+1≤1002:=by
        have:C6 s (AJ.ok () st:AJ Unit)=left s st:=rfl
        omega
       have sh:Sl (fun b=>w.heap.size≤b) w2 212 14 (.slice a j c) j cs:=PT.out.sl.kept A4 (fun b hb=>by
        rintro(Hy|Hy)
        ·exact PT.out.sl.ne_row PT.out.rd.row (by decide) (Hy▸hb)
        ·have:=PT.out.sl.lt hb;omega)
       have JS:=A4.size
       have Zk:=PT.out.kg.size
       obtain⟨L14,_f⟩:∃L:List Value,[vs k_,.int .i64 n_,.int .i64 m_,.bool t_,vs uR,.int .i64 uJ,vs uQ,.int .i64 Rz,vs uP,.int .i64 Ry,.int .i64 j_,.slice RW uO RS,.slice RU uN RR,.bool o_]=L:=⟨_,rfl⟩
       have px:=sh.alloc (.cells #[vs k_,.int .i64 n_,.int .i64 m_,.bool t_,vs uR,.int .i64 uJ,vs uQ,.int .i64 Rz,vs uP,.int .i64 Ry,.int .i64 j_,.slice RW uO RS,.slice RU uN RR,.bool o_] 212)
       have q1:w.heap.size≤(w2.alloc (.cells #[vs k_,.int .i64 n_,.int .i64 m_,.bool t_,vs uR,.int .i64 uJ,vs uQ,.int .i64 Rz,vs uP,.int .i64 Ry,.int .i64 j_,.slice RW uO RS,.slice RU uN RR,.bool o_] 212)).heap.size:=by simp;omega
       have q2:=FN w2 [vs k_,.int .i64 n_,.int .i64 m_,.bool t_,vs uR,.int .i64 uJ,vs uQ,.int .i64 Rz,vs uP,.int .i64 Ry,.int .i64 j_,.slice RW uO RS,.slice RU uN RR,.bool o_] 212
       have q3:∀u∈ [vs k_,.int .i64 n_,.int .i64 m_,.bool t_,vs uR,.int .i64 uJ,vs uQ,.int .i64 Rz,vs uP,.int .i64 Ry,.int .i64 j_,.slice RW uO RS,.slice RU uN RR,.bool o_],u.oneCell'=true:=by
        intro u hu
        simp at hu
        rcases hu with rfl|rfl|rfl|rfl|rfl|rfl|rfl|rfl|rfl|rfl|rfl|rfl|rfl|rfl<;>rfl
       have q4:j+1≤maxLen:=by unfold maxLen;omega
       have q5:(j+1)*176≤140737488355328:=by omega
       have Zv:Af (fun b=>w2.heap.size≤b) w2 (w2.alloc (.cells #[vs k_,.int .i64 n_,.int .i64 m_,.bool t_,vs uR,.int .i64 uJ,vs uQ,.int .i64 Rz,vs uP,.int .i64 Ry,.int .i64 j_,.slice RW uO RS,.slice RU uN RR,.bool o_] 212)):=(Af.refl _ _).alloc (Ab _) _
       have Zl:=fun(w3:World) (g2 c2:Nat) Fo BY EE=>PT.out.step (w3:=w3) (g2:=g2) (c2:=c2) HC.out A4 h2 Cp Fp hx rfl Zv Zv.size Fo BY EE
       have _5:=Aa Zl
       have wD:=Aa px
       have Q1:=Aa q1
       have Q2:=Aa q2
       have Q3:=Aa q3
       have Ap6:=Aa _f
       clear Zl px q1 q2 q3 _f sh Zv hx h2 Cp Fp A4 JS Zk hlen Kf rL hd8
       unfold vs at*
       go_wp2_with (at_builtin;go_must (refine Fq Tryz.underlying120 Lt KX Ls Lr rfl (by decide) wD.out Q1.out rfl _ _ rfl rfl ⟨w2.heap.size,0,none⟩ 1 1 [.string ⟨k_.toArray⟩,.int .i64 n_,.int .i64 m_,.bool t_,.string ⟨uR.toArray⟩,.int .i64 uJ,.string ⟨uQ.toArray⟩,.int .i64 Rz,.string ⟨uP.toArray⟩,.int .i64 Ry,.int .i64 j_,.slice RW uO RS,.slice RU uN RR,.bool o_] rfl rfl Q2.out Q3.out q4 q5 (E0 _) ?_;intro g2 Er w3 Fo BY EE;have rH:=Aa Fo;have fd:=Aa BY;have js:=Aa EE;clear Fo BY EE))
       have A6:=_5.out w3 g2 Er rH.out fd.out js.out
       have vR:=PT.out.ghost
       have Cy:=A6.1
       have Jo:=Aa A6.2
       clear A6
       go_roundg (C6 s ((stmt s (m+1) st).bind fun _ st=>AJ.ok () st))
       case measure=>omega
       case rel=>
        obtain⟨ni,A6⟩:=Jo.out
        exact⟨m,_,r2,ni,j+1,_,_,_,rfl,A6⟩
      |false=>
       have mC:=wk hgo
       have IZ:=Dw Ww.rd Ww.says HT.out (kd:=AU) (kr:=AU) (by decide) (by decide) (by decide) (by decide)
       rw[Ww.decls]at IZ
       have Tv:=Aa IZ
       have HEX:=Aa mC
       clear IZ mC hgo Ww
       unfold vs at*
       go_wp2_with fail
       refine Tv.out.mono ?_
       rintro x w4 ⟨x4,rfl,CU,_,r4,h4,J5,Fz⟩
       have hv:∀st,o1= .ok () st→st.wrong=none→C0 (fun k=>w.heap.size≤k) w4 (.slice a j c) done:=by
        intro st e hw
        obtain⟨b1,b2⟩:=PT.out.stm st e hw
        have Mh:Sl (fun k=>w.heap.size≤k) w4 212 14 (.slice a j c) j cs:=PT.out.sl.kept CU (fun b hb=>by
         rintro(Hy|Hy)
         ·exact PT.out.sl.ne_row PT.out.rd.row (by decide) (Hy▸hb)
         ·have:=PT.out.sl.lt hb;omega)
        refine⟨cs,by rw[b1];exact Mh,AW.kept (w:=wq) (fun k VG hk hr=>Hw CU hr.lt (hr.ne_ PT.out.rd.row (by decide))) _ _ (AW.mono (fun k _ hN=>hN.1) _ _ b2)⟩
       obtain⟨_,_,c2,_⟩:=h4.cells
       have f2:=h4.row.frozen 2
       have K4:=Aa (Kg.trans PT.out.kg CU)
       have H4:=Aa h4
       have rN:=Aa J5
       have Vi:=Aa Fz
       have HV:=Aa hv
       clear CU h4 J5 Fz Tv hv
       unfold DB vs
       have A6:∀(D:Int),(∀t st,BC s AU o1= .ok t st→D=((st.depth-1:Nat):Int))→tH w g gp tl ts pc s r.decls ((JV s n o0).bind fun b st=>.ok b (next s {st with depth:=st.depth-1})) (.returned (.slice a j c)) (w4.setCell ⟨g,2,none⟩ (.int .i64 D)):=by
        intro D hD
        have He:Kg g w4 (w4.setCell ⟨g,2,none⟩ (.int .i64 D)):=(Af.refl _ w4).setCell (p:=⟨g,2,none⟩) (.inl rfl) _
        have Mi:=rN.out.deepOut D hD
        rw[PT.out.eq,WS m HEX.out done]
        refine⟨a,j,c,rfl,Kg.trans K4.out He,fun b st e hw=>?_,r4.dp D,H4.out.put 2 _ rfl rfl,?_,Vi.out⟩
        ·obtain⟨_,st1,e1,e2⟩:=AA e
         injection e2 with e2 e3
         obtain⟨t2,AP,e4,e5⟩:=AA e1
         injection e5 with _ e5
         have Qx:AP.wrong=none:=by rw[←hw,←e3,←e5]
         cases ho:o1 with
         |bad e p=>rw[ho]at e4;cases e4
         |ok a3 Cb=>
          have Sw:=TB (s:=s) ho e4 Qx
          subst e2
          exact(HV.out Cb ho Sw).kept (fun k VG hk hr=>Hw He hr.lt (hr.ne_ H4.out.row (by decide)))
        ·cases hq:uC (BC s AU o1)with
         |bad e p=>rw[hq]at Mi;exact Mi
         |ok a3 Cb=>rw[hq]at Mi;exact Mi
       have Jo:=Aa A6
       clear A6
       cases hq:BC s AU o1 with
       |bad e p=>
        have HQ:=Aa hq
        clear hq
        go_wp2
        go_ret
        rw[HO0.out]
        exact Jo.out _ (fun t st e=>by rw[HQ.out]at e;cases e)
       |ok t st=>
        have J5:=rN.out
        rw[hq]at J5
        have zS:1≤st.depth:=by
         cases o1 with
         |bad e p=>cases hq
         |ok a0 E5=>
          obtain⟨_,_,e⟩:=Bw (show want s AU E5= .ok t st from hq)
          rw[e]
          exact(PT.out.fuel E5 rfl).2.2.2
        have Anb:st.depth≤8:=by
         cases o1 with
         |bad e p=>cases hq
         |ok a0 E5=>
          obtain⟨_,_,e⟩:=Bw (show want s AU E5= .ok t st from hq)
          rw[e]
          exact(PT.out.fuel E5 rfl).2.1
        have HDP:=Aa zS
        have Ve:=AB.deep J5
        rw[Ve]at c2
        have HQ:=Aa hq
        clear hq J5 Ve
        go_wp2
        go_ret
        rw[HO0.out]
        exact Jo.out ((st.depth:Int)-1) (fun t' st' e=>by rw[HQ.out]at e;injection e with _ e;rw[←e];have:=HDP.out;omega)
end
def Jx {α:Type} (o:AJ α):AJ Unit:=o.bind fun _ st=>.ok () {st with loops:=st.loops+1}
def OA {α:Type} (o:AJ α):AJ Unit:=o.bind fun _ st=>.ok () {st with loops:=st.loops-1}
def li (s:Ae) (n:Nat) (o:AJ Unit):AJ AC:=
 (GY s 1 50 o).bind fun k st=>(want s B9 st).bind fun _ st=>(cond s (n+1) st).bind fun c st=>
  (block s n {st with loops:=st.loops+1}).bind fun b st=>.ok (.rep k c b .nil) {st with loops:=st.loops-1}
abbrev Ff.lp (r:Ff) (D:Int):Ff:={r with loops:=D}
section
variable {s:Ae} {n:Nat} {o:AJ Unit}
theorem kx:BM (li s n o)=BM (OA (CO s n (Jx (Cx s (n+1) (BC s B9 (GY s 1 50 o)))))):=by
 unfold li
 cases GY s 1 50 o with
 |bad e p=>rfl
 |ok k st1=>
  show BM ((want s B9 st1).bind _)=BM (OA (CO s n (Jx (Cx s (n+1) (want s B9 st1)))))
  cases want s B9 st1 with
  |bad e p=>rfl
  |ok t AP=>
   show BM ((cond s (n+1) AP).bind _)=BM (OA (CO s n (Jx (cond s (n+1) AP))))
   cases cond s (n+1) AP with
   |bad e p=>rfl
   |ok c Cb=>
    show BM ((block s n _).bind _)=BM (OA (block s n _))
    cases block s n {Cb with loops:=Cb.loops+1}<;>rfl
theorem ux {x:AC} {Fm:PS} (e:li s n o= .ok x Fm):∃k st1 t AP c Cb b Io,GY s 1 50 o= .ok k st1∧BC s B9 (GY s 1 50 o)= .ok t AP∧Cx s (n+1) (BC s B9 (GY s 1 50 o))= .ok c Cb∧
  CO s n (Jx (Cx s (n+1) (BC s B9 (GY s 1 50 o))))= .ok b Io∧x= .rep k c b .nil∧Fm={Io with loops:=Io.loops-1}:=by
 unfold li at e
 obtain⟨k,st1,h1,e⟩:=AA e
 obtain⟨t,AP,h2,e⟩:=AA e
 obtain⟨c,Cb,h3,e⟩:=AA e
 obtain⟨b,Io,h4,e⟩:=AA e
 injection e with e1 e2
 have u2:BC s B9 (GY s 1 50 o)= .ok t AP:=by rw[h1];exact h2
 have u3:Cx s (n+1) (BC s B9 (GY s 1 50 o))= .ok c Cb:=by rw[u2];exact h3
 exact⟨k,st1,t,AP,c,Cb,b,Io,h1,u2,u3,by rw[u3];exact h4,e1.symm,e2.symm⟩
theorem pG {E5 Cb:PS} {c:Da} (G7:E5.Ok s) (e:Cx s (n+1) (BC s B9 (GY s 1 50 (.ok () E5)))= .ok c Cb):Gm s E5 Cb∧left s Cb<left s E5:=by
 obtain⟨t,AP,h2,h3⟩:=AA e
 obtain⟨k,st1,h1,LZ⟩:=AA h2
 obtain⟨f1,l1,_⟩:=Gw G7 (show number s 1 50 E5= .ok k st1 from h1)
 obtain⟨_,_,e3⟩:=Bw (show want s B9 st1= .ok t AP from LZ)
 have f2:=Gm.next f1.ok
 rw[←e3]at f2
 obtain⟨f3,l3,_⟩:=I8 f2.ok (show cond s (n+1) AP= .ok c Cb from h3)
 exact⟨(f1.trans f2).trans f3,by have:=f2.left;omega⟩
theorem Bs.loopIn_ {α:Type} {o:AJ α} {r:Ff} (h:Bs s r o) (D:Int) (hD:∀a st,o= .ok a st→D=((st.loops+1:Nat):Int)):Bs s (r.lp D) (Jx o):=by
 cases o with
 |bad e p=>
  have h':DF s r e p:=h
  exact⟨h'.lt,h'.bad,h'.badAt,h'.ne,h'.fk⟩
 |ok a st=>
  have h':AB s r st:=h
  exact⟨h'.pos.of rfl rfl,⟨h'.ok.i,h'.ok.pos,h'.ok.more,h'.ok.num,h'.ok.name⟩,h'.deep,hD a st rfl,h'.bad,h'.wrong,h'.decls,h'.freq,h'.seen,h'.f0,h'.fk⟩
theorem Bs.loopOut_ {α:Type} {o:AJ α} {r:Ff} (h:Bs s r o) (D:Int) (hD:∀a st,o= .ok a st→D=((st.loops-1:Nat):Int)):Bs s (r.lp D) (OA o):=by
 cases o with
 |bad e p=>
  have h':DF s r e p:=h
  exact⟨h'.lt,h'.bad,h'.badAt,h'.ne,h'.fk⟩
 |ok a st=>
  have h':AB s r st:=h
  exact⟨h'.pos.of rfl rfl,⟨h'.ok.i,h'.ok.pos,h'.ok.more,h'.ok.num,h'.ok.name⟩,h'.deep,hD a st rfl,h'.bad,h'.wrong,h'.decls,h'.freq,h'.seen,h'.f0,h'.fk⟩
end
section
variable {w:World} {g gp:Nat} {tl:Value} {ts:List CB} {pc:List Value} {r:Ff} {s:Ae} {st:PS}
theorem T0 (h:FQ w g gp tl ts pc r) (hs:AB s r st) (ht:DD ts (toks s)) (hk:st.t.kind=Bb) (h2l:st.loops=2):
  Calls Tryz.prog 128 #[.pointer (some ⟨g,0,none⟩)] w (MC w g gp tl ts pc s r.decls (fail QP st)):=by
 obtain⟨x,hx,IM⟩:=AB.tok hs ht
 obtain⟨gt,ct,rfl,h1,h2,h3,h4,h5,t0,t1,t2⟩:=h.at_ hx
 have Nf:x.is=Bb:=by rw[IM.1,hk];decide
 rw[Nf]at t0
 obtain⟨c0,c1,_,c3,_⟩:=h.cells
 have Cy:=h.row.lt
 have ff:=fun j=>h.row.frozen j
 have h8:=h.tl
 have Jj:r.k<ts.length:=h3
 unfold maxLen at h2
 have Tj:=AB.loops hs
 rw[Tj,h2l]at c3
 have q1:=(Lu.start_ (D:=w.heap.size+1) (RH.start_ (C:=w.heap.size) (ty:=212) (Af.refl _ w) h (by decide) F8 rfl) [vs Bb,.int .i64 0,.int .i64 0,.bool false,vs [],.int .i64 0,vs [],.int .i64 0,vs [],.int .i64 0,.int .i64 0,.slice none 0 0,.slice none 0 0,.bool false] (by simp)).drewN 1
 have hf:=Mn q1.rd (show Bs s r (AJ.ok () st)from hs) ht (e:=3) (by decide)
 have HF:=Aa hf
 have Q1:=Aa q1
 generalize Gh:r.k=kq at*
 generalize QG:ts.length=LL at*
 clear hx IM hs Nf hk Gh QG h q1 ht t1 t2 hf Tj h2l
 unfold vs at*
 go_enter EW,Ej
 go_wp2
 go_region
 go_wp2_with fail
 refine HF.out.mono ?_
 rintro e w1 ⟨rfl,Bi,r1,La,GG,Gi⟩
 have p1:=Q1.out.call Bi La
 have z:=fun j=>p1.row2.frozen j
 have y:=fun j=>p1.row.frozen j
 obtain⟨e0,e1,e2,e3,e4,e5,e6,e7,e8,e9,e10,e11,e12,L7⟩:=BS p1.row2
 obtain⟨f0,f1,f2,f3,f4,f5,f6,f7,f8,f9,UH,f11,UG,jP⟩:=BS p1.row
 have Cu:¬w.heap.size=w.heap.size+1:=by omega
 have q9:=p1.copy14 (vs Bb) (.int .i64 0) (.int .i64 0) (.bool false) (vs []) (.int .i64 0) (vs []) (.int .i64 0) (vs []) (.int .i64 0) (.int .i64 0) (.slice none 0 0) (.slice none 0 0) (.bool false)
 have Q9:=Aa q9
 have zW17:=Aa GG
 have FD:=Aa Gi
 clear p1 q9 Bi La GG Gi HF Q1
 unfold vs at*
 go_wp2
 refine Av (AG (cs:=[vs Bb,.int .i64 0,.int .i64 0,.bool false,vs [],.int .i64 0,vs [],.int .i64 0,vs [],.int .i64 0,.int .i64 0,.slice none 0 0,.slice none 0 0,.bool false]) CY FO EL rfl Q9.out.row) rfl ?_
 exact⟨_,rfl,⟨_,_,_,_,_,_,_,_,_,_,_,_,_,_,_,_,_,_,rfl⟩,Q9.out.kg,fun x9 Fm e hw=>(by cases e),r1,Q9.out.rd,zW17.out,FD.out⟩
theorem bg (h:FQ w g gp tl ts pc r) (hs:AB s r st) (ht:DD ts (toks s)) (n1:st.t.kind≠Hn) (n2:st.t.kind≠Db) (n3:st.t.kind≠Ew) (n4:st.t.kind≠CN) (n5:st.t.kind≠Ia) (n6:st.t.kind≠Ib) (n7:st.t.kind≠EJ) (n8:st.t.kind≠EK) (n9:st.t.kind≠Iw) (n10:st.t.kind≠Bb):
  Calls Tryz.prog 128 #[.pointer (some ⟨g,0,none⟩)] w (MC w g gp tl ts pc s r.decls (fail D1 st)):=by
 obtain⟨x,hx,IM⟩:=AB.tok hs ht
 obtain⟨gt,ct,rfl,h1,h2,h3,h4,h5,t0,t1,t2⟩:=h.at_ hx
 have hW:∀k,k≠J1→GE k=k→st.t.kind≠k→(x.is==k)=false:=fun k hk A4 hn=>by
  have:=YU (a:=st.t.kind) (b:=k) hs.pos.noNum hk
  rw[IM.1,show(GE st.t.kind==k)=(GE st.t.kind==GE k) by rw[A4],this]
  simpa using hn
 have e1:=hW Hn (by decide) (by decide) n1
 have e2:=hW Db (by decide) (by decide) n2
 have e3:=hW Ew (by decide) (by decide) n3
 have e4:=hW CN (by decide) (by decide) n4
 have e5:=hW Ia (by decide) (by decide) n5
 have e6:=hW Ib (by decide) (by decide) n6
 have e7:=hW EJ (by decide) (by decide) n7
 have e8:=hW EK (by decide) (by decide) n8
 have e9:=hW Iw (by decide) (by decide) n9
 have e10:=hW Bb (by decide) (by decide) n10
 obtain⟨c0,c1,_⟩:=h.cells
 have Cy:=h.row.lt
 have ff:=fun j=>h.row.frozen j
 have h8:=h.tl
 have Jj:r.k<ts.length:=h3
 unfold maxLen at h2
 have q1:=(Lu.start_ (D:=w.heap.size+1) (RH.start_ (C:=w.heap.size) (ty:=212) (Af.refl _ w) h (by decide) F8 rfl) [vs x.is,.int .i64 0,.int .i64 0,.bool false,vs [],.int .i64 0,vs [],.int .i64 0,vs [],.int .i64 0,.int .i64 0,.slice none 0 0,.slice none 0 0,.bool false] (by simp)).drewN 1
 have hf:=Mn q1.rd (show Bs s r (AJ.ok () st)from hs) ht (e:=2) (by decide)
 have HF:=Aa hf
 have Q1:=Aa q1
 generalize Gh:r.k=kq at*
 generalize QG:ts.length=LL at*
 clear hx IM hs Gh QG h q1 ht t1 t2 hf hW n1 n2 n3 n4 n5 n6 n7 n8 n9 n10
 generalize x.is=W at*
 unfold vs at*
 go_enter EW,Ej
 go_wp2
 go_region
 go_wp2_with fail
 clear e1 e2 e3 e4 e5 e6 e7 e8 e9 e10
 refine HF.out.mono ?_
 rintro e w1 ⟨rfl,Bi,r1,La,GG,Gi⟩
 have p1:=Q1.out.call Bi La
 have z:=fun j=>p1.row2.frozen j
 have y:=fun j=>p1.row.frozen j
 obtain⟨e0,e1,e2,e3,e4,e5,e6,e7,e8,e9,e10,e11,e12,L7⟩:=BS p1.row2
 obtain⟨f0,f1,f2,f3,f4,f5,f6,f7,f8,f9,UH,f11,UG,jP⟩:=BS p1.row
 have Cu:¬w.heap.size=w.heap.size+1:=by omega
 have q9:=p1.copy14 (vs W) (.int .i64 0) (.int .i64 0) (.bool false) (vs []) (.int .i64 0) (vs []) (.int .i64 0) (vs []) (.int .i64 0) (.int .i64 0) (.slice none 0 0) (.slice none 0 0) (.bool false)
 have Q9:=Aa q9
 have zW17:=Aa GG
 have FD:=Aa Gi
 clear p1 q9 Bi La GG Gi HF Q1
 unfold vs at*
 go_wp2
 refine Av (AG (cs:=[vs W,.int .i64 0,.int .i64 0,.bool false,vs [],.int .i64 0,vs [],.int .i64 0,vs [],.int .i64 0,.int .i64 0,.slice none 0 0,.slice none 0 0,.bool false]) CY FO EL rfl Q9.out.row) rfl ?_
 exact⟨_,rfl,⟨_,_,_,_,_,_,_,_,_,_,_,_,_,_,_,_,_,_,rfl⟩,Q9.out.kg,fun x9 Fm e hw=>(by cases e),r1,Q9.out.rd,zW17.out,FD.out⟩
theorem gE (n:Nat) (OH:Rj g gp tl ts pc s n) (h:FQ w g gp tl ts pc r) (hs:AB s r st) (ht:DD ts (toks s)) (hl:s.length≤1000) (hd:st.depth≤8) (Ux:st.loops<2) (hn:2*left s st≤n) (hk:st.t.kind=Bb):
  Calls Tryz.prog 128 #[.pointer (some ⟨g,0,none⟩)] w (MC w g gp tl ts pc s r.decls (li s n (.ok () (next s st)))):=by
 obtain⟨x,hx,IM⟩:=AB.tok hs ht
 obtain⟨gt,ct,rfl,h1,h2,h3,h4,h5,t0,t1,t2⟩:=h.at_ hx
 have Nf:x.is=Bb:=by rw[IM.1,hk];decide
 rw[Nf]at t0
 obtain⟨c0,c1,_,c3,_⟩:=h.cells
 have Cy:=h.row.lt
 have ff:=fun j=>h.row.frozen j
 have h8:=h.tl
 have Jj:r.k<ts.length:=h3
 unfold maxLen at h2
 have Tj:=AB.loops hs
 rw[Tj]at c3
 have el1:((st.loops:Int)==2)=false:=by simp;omega
 have el2:decide ((st.loops:Int)=2)=false:=by simp;omega
 have Nh:Kg g w (w.setCell ⟨g,1,none⟩ (.int .i64 ((r.k:Int)+1))):=(Af.refl _ w).setCell (p:=⟨g,1,none⟩) (.inl rfl) _
 have q1:=(Lu.start_ (D:=w.heap.size+1) (RH.start_ (C:=w.heap.size) (ty:=212) Nh (h.put 1 (.int .i64 ((r.k:Int)+1)) (r':=r.nx) rfl rfl) (by decide) F8 (by simp)) [vs Bb,.int .i64 0,.int .i64 0,.bool false,vs [],.int .i64 0,vs [],.int .i64 0,vs [],.int .i64 0,.int .i64 0,.slice none 0 0,.slice none 0 0,.bool false] (by simp)).drewN 1
 have FF:Bs s r.nx (AJ.ok () (next s st)):=AB.next hs (by rw[hk];decide) (by rw[hk];decide)
 have G7:(next s st).Ok s:=BF (AB.ok hs)
 have vL:=DY (AB.ok hs) hk (by decide) (by decide)
 have Kh:=JR q1.rd FF ht 1 50
 have zM:∀c Cb,Cx s (n+1) (BC s B9 (GY s 1 50 (AJ.ok () (next s st))))= .ok c Cb→Gm s (next s st) Cb∧2*left s Cb+1≤n:=fun c Cb e=>by
  obtain⟨a,b⟩:=pG G7 e
  exact⟨a,by omega⟩
 have rT:=Aa zM
 clear zM
 have Wt:∀k st1,GY s 1 50 (AJ.ok () (next s st))= .ok k st1→Gm s (next s st) st1∧2*left s st1+1≤n:=fun k st1 e=>by
  obtain⟨a,b,_⟩:=Gw G7 (show number s 1 50 (next s st)= .ok k st1 from e)
  exact⟨a,by omega⟩
 have HT:=Aa ht
 have IL:=Aa G7
 have jw:=Aa OH
 have Aab:=Aa Kh
 have Q1:=Aa q1
 have o6:=Aa Wt
 have HF:=Aa (And.intro (show(next s st).depth≤8 from hd) (show(next s st).loops<2 from Ux))
 generalize Gh:r.k=kq at*
 generalize QG:ts.length=LL at*
 clear hx IM hs FF G7 Nf hk Gh QG h q1 ht t1 t2 Nh OH Kh vL hn hd Ux Tj Wt
 unfold vs at*
 go_enter EW,Ej
 go_wp2
 go_region
 go_wp2_with fail
 clear el1 el2 c3
 refine Aab.out.mono ?_
 rintro e w1 ⟨v1,rfl,Bi,Qy,r1,La,GG,Gi⟩
 have p1:=Q1.out.call Bi La
 have z:=fun j=>p1.row2.frozen j
 obtain⟨e0,e1,e2,e3,e4,e5,e6,e7,e8,e9,e10,e11,e12,L7⟩:=BS p1.row2
 have q2:=p1.set2 1 (.int .i64 v1)
 have IZ:=Dw q2.rd GG HT.out (kd:=B9) (kr:=B9) (by decide) (by decide) (by decide) (by decide)
 rw[Gi]at IZ
 have Tv:=Aa IZ
 have Q2:=Aa q2
 have dG:=Aa Qy
 clear p1 q2 Bi Qy La GG Gi IZ Aab Q1
 unfold vs at*
 go_wp2_with fail
 clear e0 e1 e2 e3 e4 e5 e6 e7 e8 e9 e10 e11 e12 L7 z
 refine Tv.out.mono ?_
 rintro e w2 ⟨x9,rfl,A4,_,r2,LZ,Cp,Fp⟩
 have q3:=Q2.out.call A4 LZ
 have Rn:=Wf q3.rd Cp HT.out hl (n:=n+1) (by
  cases hq:BC s B9 (GY s 1 50 (AJ.ok () (next s st)))with
  |bad e p=>exact E0 _
  |ok t AP=>
   cases oJ:GY s 1 50 (AJ.ok () (next s st))with
   |bad e p=>rw[oJ]at hq;cases hq
   |ok k st1=>
    rw[oJ]at hq
    obtain⟨f1,f2⟩:=o6.out k st1 oJ
    obtain⟨_,_,e3⟩:=Bw (show want s B9 st1= .ok t AP from hq)
    have:=(Gm.next f1.ok).left
    rw[←e3]at this
    show left s AP<n+1
    omega)
 rw[Fp]at Rn
 have xd:=Aa Rn
 have Q3:=Aa q3
 clear q3 A4 LZ Cp Fp Rn Tv Q2
 unfold DB vs
 go_wp2_with fail
 refine xd.out.mono ?_
 rintro e w3 ⟨a0,n0,a1,n1,a2,n2,j0,rfl,BY,vX,r3,Vg,Fo,Gx⟩
 have p3:=Q3.out.call BY Vg
 have z:=fun j=>p3.row2.frozen j
 obtain⟨e0,e1,e2,e3,e4,e5,e6,e7,e8,e9,e10,e11,e12,L7⟩:=BS p3.row2
 obtain⟨_,_,_,d3,_⟩:=Vg.cells
 have fr:=fun j=>Vg.row.frozen j
 have hDg:¬w.heap.size+1=g:=fun e=>p3.row2.ne_ p3.rd.row (by decide) e
 have q4:=((((((p3.set2 4 (vs a0)).set2 5 (.int .i64 n0)).set2 6 (vs a1)).set2 7 (.int .i64 n1)).set2 8 (vs a2)).set2 9 (.int .i64 n2)).set2 10 (.int .i64 j0)
 have Q4:=Aa q4
 have fh:=Aa Fo
 have XM:=Aa Gx
 have HCV:=Aa vX
 clear p3 q4 BY vX Vg Fo Gx xd Q3
 unfold vs at*
 go_upto_region 41 with fail
 generalize World.setCell _ ⟨w.heap.size+1,10,none⟩ _=wy at*
 have d3:=(Q4.out.rd.cells).2.2.2.1
 have fr:=fun j=>Q4.out.rd.row.frozen j
 clear e0 e1 e2 e3 e4 e5 e6 e7 e8 e9 e10 e11 e12 L7 z
 go_cut [] (fun wx=>∃r4,Lu w wx g gp (.slice (some ⟨gt,0,none⟩) LL ct) ts pc r4 212 w.heap.size F8 (w.heap.size+1) [vs Bb,.int .i64 v1,.int .i64 0,.bool false,vs a0,.int .i64 n0,vs a1,.int .i64 n1,vs a2,.int .i64 n2,.int .i64 j0,.slice none 0 0,.slice none 0 0,.bool false]∧Bs s r4 (Jx (Cx s (n+1) (BC s B9 (GY s 1 50 (AJ.ok () (next s st))))))∧r4.decls=r.decls)
 case first=>
  cases hq:(Cx s (n+1) (BC s B9 (GY s 1 50 (AJ.ok () (next s st)))))with
  |bad e p=>
   have Fo:=fh.out
   rw[hq]at Fo
   have rN:=Aa Fo
   have HQ:=Aa hq
   clear Fo hq
   go_wp2
   go_meet
   exact⟨r3.lp (wrap64 (r3.loops+1)),Q4.out.put 3 _ rfl rfl,by rw[HQ.out];exact rN.out.loopIn_ _ (fun a st e=>by cases e),XM.out⟩
  |ok c Cb=>
   have Fo:=fh.out
   rw[hq]at Fo
   have zy:=AB.loops Fo
   have Amq:Cb.loops<2:=by
    have:=(rT.out c Cb hq).1.loops
    rw[this]
    exact HF.out.2
   rw[zy]at d3
   have rN:=Aa Fo
   have HQ:=Aa hq
   clear Fo hq zy
   go_wp2
   go_meet
   exact⟨r3.lp ((Cb.loops:Int)+1),Q4.out.put 3 _ rfl rfl,by rw[HQ.out];exact rN.out.loopIn_ _ (fun a st' e=>by injection e with _ e;rw[←e];rfl),XM.out⟩
 case rest=>
  obtain⟨r4,hq4,J5,Fz⟩:=hcut
  have LX:=jw.out (Jx (Cx s (n+1) (BC s B9 (GY s 1 50 (AJ.ok () (next s st)))))) wc r4 hq4.rd J5 (fun Fm e=>by
   cases hq:(Cx s (n+1) (BC s B9 (GY s 1 50 (AJ.ok () (next s st)))))with
   |bad e2 p=>rw[hq]at e;cases e
   |ok c Cb=>
    rw[hq]at e
    injection e with _ e
    obtain⟨f1,f2⟩:=rT.out c Cb hq
    have b1:Fm.depth=Cb.depth:=by rw[←e]
    have b2:Fm.loops=Cb.loops+1:=by rw[←e]
    have b3:left s Fm=left s Cb:=by rw[←e];rfl
    obtain⟨g1,g2⟩:=HF.out
    exact⟨by rw[b1,f1.depth];exact g1,by rw[b2,f1.loops];omega,by rw[b3];exact f2⟩)
  rw[Fz]at LX
  have Yg:=Aa LX
  have Q5:=Aa hq4
  clear d3 fr Q4 fh XM LX hq4 J5 Fz
  unfold vs at*
  go_wp2_with fail
  refine Yg.out.mono ?_
  rintro e w5 ⟨va,vn,vc,rfl,He,Pi,r5,mO,Mi,Rm⟩
  have p5:=Q5.out.call He mO
  have z:=fun j=>p5.row2.frozen j
  obtain⟨e0,e1,e2,e3,e4,e5,e6,e7,e8,e9,e10,e11,e12,L7⟩:=BS p5.row2
  have q6:=p5.set2 11 (.slice va vn vc)
  have Ac3:w.heap.size+1<wc.heap.size:=Q5.out.row2.lt
  have z7:∀b Fm,CO s n (Jx (Cx s (n+1) (BC s B9 (GY s 1 50 (AJ.ok () (next s st))))))= .ok b Fm→Fm.wrong=none→C0 (fun k=>w.heap.size+1<k) (w5.setCell ⟨w.heap.size+1,11,none⟩ (.slice va vn vc)) (.slice va vn vc) b:=fun b Fm e hw=>
   ((Pi b Fm e hw).mono (fun k _ hk=>by omega)).far_ (fun k hk=>by omega) 11 _
  have Q6:=Aa q6
  have HB6:=Aa z7
  have HS5:=Aa Mi
  have fm:=Aa Rm
  clear p5 q6 He Pi mO Mi Rm z7 Yg Q5 Ac3
  unfold vs at*
  go_upto_region 43 with fail
  clear e0 e1 e2 e3 e4 e5 e6 e7 e8 e9 e10 e11 e12 L7 z
  generalize World.setCell _ ⟨w.heap.size+1,11,none⟩ _=wy2 at*
  have d3:=(Q6.out.rd.cells).2.2.2.1
  have fr:=fun j=>Q6.out.rd.row.frozen j
  go_cut [] (fun wx=>∃r6,Lu w wx g gp (.slice (some ⟨gt,0,none⟩) LL ct) ts pc r6 212 w.heap.size F8 (w.heap.size+1) [vs Bb,.int .i64 v1,.int .i64 0,.bool false,vs a0,.int .i64 n0,vs a1,.int .i64 n1,vs a2,.int .i64 n2,.int .i64 j0,.slice va vn vc,.slice none 0 0,.bool false]∧Bs s r6 (OA (CO s n (Jx (Cx s (n+1) (BC s B9 (GY s 1 50 (AJ.ok () (next s st))))))))∧r6.decls=r.decls∧
   ∀b Fm,CO s n (Jx (Cx s (n+1) (BC s B9 (GY s 1 50 (AJ.ok () (next s st))))))= .ok b Fm→Fm.wrong=none→C0 (fun k=>w.heap.size+1<k) wx (.slice va vn vc) b)
  case first=>
   have hbq:∀(u:Value) b Fm,CO s n (Jx (Cx s (n+1) (BC s B9 (GY s 1 50 (AJ.ok () (next s st))))))= .ok b Fm→Fm.wrong=none→C0 (fun k=>w.heap.size+1<k) (wy2.setCell ⟨g,3,none⟩ u) (.slice va vn vc) b:=fun u b Fm e hw=>
    (HB6.out b Fm e hw).later_ ((Af.refl _ _).setCell (p:=⟨g,3,none⟩) (.inl rfl) u) Q6.out.rd.row
   have HBQ:=Aa hbq
   clear hbq
   cases hq:CO s n (Jx (Cx s (n+1) (BC s B9 (GY s 1 50 (AJ.ok () (next s st))))))with
   |bad e p=>
    have Mi:=HS5.out
    rw[hq]at Mi
    have rM:=Aa Mi
    have HQ:=Aa hq
    clear Mi hq
    go_wp2
    go_meet
    exact⟨r5.lp (wrap64 (r5.loops-1)),Q6.out.put 3 _ rfl rfl,by rw[HQ.out];exact rM.out.loopOut_ _ (fun a st e=>by cases e),fm.out,HBQ.out _⟩
   |ok b Io=>
    have Mi:=HS5.out
    rw[hq]at Mi
    have zx:=AB.loops Mi
    have Ads:1≤Io.loops∧Io.loops≤2:=by
     cases xB:(Cx s (n+1) (BC s B9 (GY s 1 50 (AJ.ok () (next s st)))))with
     |bad e p=>rw[xB]at hq;cases hq
     |ok c Cb=>
      rw[xB]at hq
      obtain⟨f1,f2⟩:=rT.out c Cb xB
      obtain⟨g1,g2⟩:=HF.out
      have b9:=DP (n:=n) (st:={Cb with loops:=Cb.loops+1}) ⟨f1.ok.i,f1.ok.pos,f1.ok.more,f1.ok.num,f1.ok.name⟩ (by show Cb.depth≤8;rw[f1.depth];exact g1) (by show Cb.loops+1≤2;rw[f1.loops];omega) (show block s n {Cb with loops:=Cb.loops+1}= .ok b Io from hq)
      have e1:Io.loops=Cb.loops+1:=b9.1.loops
      have e2:Cb.loops=(next s st).loops:=f1.loops
      omega
    obtain⟨hl5,hl6⟩:=Ads
    rw[zx]at d3
    have rM:=Aa Mi
    have HQ:=Aa hq
    clear Mi hq zx
    go_wp2
    go_meet
    exact⟨r5.lp ((Io.loops:Int)-1),Q6.out.put 3 _ rfl rfl,by rw[HQ.out];exact rM.out.loopOut_ _ (fun a st' e=>by injection e with _ e;rw[←e];omega),fm.out,HBQ.out _⟩
  case rest=>
   obtain⟨r6,xA,bR,eS,hb6⟩:=hcut
   have z:=fun j=>xA.row2.frozen j
   have y:=fun j=>xA.row.frozen j
   obtain⟨e0,e1,e2,e3,e4,e5,e6,e7,e8,e9,e10,e11,e12,L7⟩:=BS xA.row2
   obtain⟨f0,f1,f2,f3,f4,f5,f6,f7,f8,f9,UH,f11,UG,jP⟩:=BS xA.row
   have Cu:¬w.heap.size=w.heap.size+1:=by omega
   have q9:=xA.copy14 (vs Bb) (.int .i64 v1) (.int .i64 0) (.bool false) (vs a0) (.int .i64 n0) (vs a1) (.int .i64 n1) (vs a2) (.int .i64 n2) (.int .i64 j0) (.slice va vn vc) (.slice none 0 0) (.bool false)
   have tg:∀b Fm,CO s n (Jx (Cx s (n+1) (BC s B9 (GY s 1 50 (AJ.ok () (next s st))))))= .ok b Fm→Fm.wrong=none→C0 (fun k=>w.heap.size≤k) (MB _ w.heap.size (vs Bb) (.int .i64 v1) (.int .i64 0) (.bool false) (vs a0) (.int .i64 n0) (vs a1) (.int .i64 n1) (vs a2) (.int .i64 n2) (.int .i64 j0) (.slice va vn vc) (.slice none 0 0) (.bool false)) (.slice va vn vc) b:=fun b Fm e hw=>
    ((hb6 b Fm e hw).copy14 (C:=w.heap.size) (fun k hk=>by omega) _ _ _ _ _ _ _ _ _ _ _ _ _ _).mono (fun k _ hk=>by omega)
   have HBA:=Aa tg
   have Q9:=Aa q9
   have zW17:=Aa bR
   have FD:=Aa eS
   clear xA q9 bR eS hb6 tg Q6 HB6 HS5 fm d3 fr
   unfold vs at*
   go_wp2
   refine Av (AG (cs:=[vs Bb,.int .i64 v1,.int .i64 0,.bool false,vs a0,.int .i64 n0,vs a1,.int .i64 n1,vs a2,.int .i64 n2,.int .i64 j0,.slice va vn vc,.slice none 0 0,.bool false]) CY FO EL rfl Q9.out.row) rfl ?_
   refine⟨_,rfl,⟨_,_,_,_,_,_,_,_,_,_,_,_,_,_,_,_,_,_,rfl⟩,Q9.out.kg,fun x9 Fm e hw=>?_,r6,Q9.out.rd,zW17.out.of_unit kx,FD.out⟩
   obtain⟨k,st1,t,AP,c,Cb,b,Io,u1,u2,u3,u4,rfl,rfl⟩:=ux e
   have hw4:Io.wrong=none:=hw
   have Sw:Cb.wrong=none:=by
    obtain⟨f1,f2⟩:=rT.out c Cb u3
    obtain⟨g1,g2⟩:=HF.out
    rw[u3]at u4
    have b9:=DP (n:=n) (st:={Cb with loops:=Cb.loops+1}) ⟨f1.ok.i,f1.ok.pos,f1.ok.more,f1.ok.num,f1.ok.name⟩ (by show Cb.depth≤8;rw[f1.depth];exact g1) (by show Cb.loops+1≤2;rw[f1.loops];omega) (show block s n {Cb with loops:=Cb.loops+1}= .ok b Io from u4)
    exact b9.1.wrong hw4
   have zX:=HCV.out c Cb u3 Sw
   have hv:=dG.out k st1 u1
   subst hv
   exact S9 (by unfold JM;rw[←zX];rfl) (HBA.out b Io u4 hw4)
theorem bf (n:Nat) (ht:DD ts (toks s)) (hl:s.length≤1000) (OH:Rj g gp tl ts pc s n):dy g gp tl ts pc s (n+1):=by
 intro st w r h hs hd Ux hn
 rw[stmt]
 by_cases h1:st.t.kind=Hn
 ·rw[Ak h1];exact gF h hs ht h1
 rw[Ad h1]
 by_cases h2:st.t.kind=Db
 ·rw[Ak h2];exact YK h hs ht h2
 rw[Ad h2]
 by_cases h3:st.t.kind=Ew
 ·rw[Ak h3];exact bi h hs ht h3
 rw[Ad h3]
 by_cases h4:st.t.kind=CN
 ·rw[Ak h4];exact YJ h hs ht h4
 rw[Ad h4]
 by_cases h5:st.t.kind=Ia
 ·rw[Ak h5];exact gG h hs ht h5
 rw[Ad h5]
 by_cases h6:st.t.kind=Ib
 ·rw[Ak h6];exact gH h hs ht h6
 rw[Ad h6]
 by_cases h7:st.t.kind=EJ
 ·rw[Ak h7];exact bh h hs ht h7
 rw[Ad h7]
 by_cases h8:st.t.kind=EK
 ·rw[Ak h8];exact bj h hs ht h8
 rw[Ad h8]
 by_cases h9:st.t.kind=Iw
 ·rw[Ak h9];exact kY n OH h hs ht hl hd Ux (by omega) h9
 rw[Ad h9]
 by_cases SZ:st.t.kind=Bb
 ·rw[Ak SZ]
  by_cases mP:st.loops=2
  ·rw[Ak mP];exact T0 h hs ht SZ mP
  ·rw[Ad mP];exact gE n OH h hs ht hl hd (by omega) (by omega) SZ
 rw[Ad SZ]
 exact bg h hs ht h1 h2 h3 h4 h5 h6 h7 h8 h9 SZ
theorem bt (ht:DD ts (toks s)) (hl:s.length≤1000) (n:Nat):Rj g gp tl ts pc s n∧dy g gp tl ts pc s n:=by
 induction n using Nat.strongRecOn with
 |ind n ih=>
  cases n with
  |zero=>
   refine⟨fun o w r h hs G7=>?_,fun st w r h hs hd Ux hn=>by omega⟩
   cases o with
   |ok a st=>have:=(G7 st rfl).2.2;omega
   |bad e p=>
    exact Sq 0 ht hl (fun m hm=>by
     have:m=0:=by omega
     subst this
     intro st w r h hs hd Ux hn
     omega) (.bad e p) w r h hs (fun st e=>by cases e)
  |succ n=>exact⟨Sq n ht hl (fun m hm=>(ih m hm).2),bf n ht hl (ih n (by omega)).1⟩
end
structure RZ (N:Nat→Prop) (w:World) (vr vh:Value) (n:Nat) (hs:List Bool) (rs:List Value):Prop where
 has:Sl N w 4 1 vh n (hs.map Value.bool)
 rul:Sl N w 120 1 vr n rs
 hl:hs.length=n
 rl:rs.length=n
 shape:∀v∈rs,∃a m c,v= .slice a m c
structure Hz (N:Nat→Prop) (w:World) (rules:List (Int×AC)) (ms:Bool) (vm:Value) (n:Nat) (hs:List Bool) (rs:List Value):Prop where
 ms:ms=(Cm rules).isSome
 vm:C0 N w vm ((Cm rules).getD .nil)
 hs:∀k:Nat,k<n→hs[k]?=some (AE rules (k:Int)).isSome
 rs:∀k:Nat,k<n→∃v,rs[k]?=some v∧C0 N w v ((AE rules (k:Int)).getD .nil)
theorem GW (rules:List (Int×AC)) (k j:Int) (b:AC) (h:AE rules k=none):AE (rules++[(k,b)]) j=if j=k then some b else AE rules j:=by
 unfold AE at*
 rw[Ek]
 by_cases hj:j=k
 ·subst hj
  rw[Ak rfl]
  simp only[Im]at h
  rw[h]
  simp
 ·rw[Ad hj]
  have e:(List.find? (fun x:Int×AC=>x.1==j) [(k,b)])=none:=by
   have:¬k=j:=fun e=>hj e.symm
   simp[this]
  rw[e]
  simp
section
variable {N N':Nat→Prop} {w w':World} {rules:List (Int×AC)} {ms:Bool} {vm vr vh:Value} {n:Nat} {hs:List Bool} {rs:List Value}
theorem Hz.kept (h:Hz N w rules ms vm n hs rs) (hk:∀k cs,N k→AM w k 212 cs→w'.heap[k]?=w.heap[k]?):Hz N w' rules ms vm n hs rs:=
 ⟨h.ms,h.vm.kept hk,h.hs,fun k bU=>by obtain⟨v,h1,h2⟩:=h.rs k bU;exact⟨v,h1,h2.kept hk⟩⟩
theorem Hz.setMiss (h:Hz N w rules ms vm n hs rs) {b:AC} (h0:AE rules (-1)=none) {v:Value} (hv:C0 N w v b):Hz N w (rules++[(-1,b)]) true v n hs rs:=by
 have e:Cm (rules++[(-1,b)])=some b:=by unfold Cm;rw[GW _ _ _ _ h0,Ak rfl]
 have e2:∀k:Nat,AE (rules++[(-1,b)]) (k:Int)=AE rules (k:Int):=fun k=>by rw[GW _ _ _ _ h0,Ad (by omega)]
 refine⟨by rw[e];rfl,by rw[e];exact hv,fun k hk=>by rw[e2];exact h.hs k hk,fun k hk=>by rw[e2];exact h.rs k hk⟩
theorem Hz.setRule (h:Hz N w rules ms vm n hs rs) {b:AC} {j:Nat} (h0:AE rules (j:Int)=none) {v:Value} (hv:C0 N w v b) (hn:hs.length=n) (hr:rs.length=n):Hz N w (rules++[((j:Int),b)]) ms vm n (hs.set j true) (rs.set j v):=by
 have e:Cm (rules++[((j:Int),b)])=Cm rules:=by unfold Cm;rw[GW _ _ _ _ h0,Ad (by omega)]
 refine⟨by rw[e];exact h.ms,by rw[e];exact h.vm,fun k hk=>?_,fun k hk=>?_⟩
 ·rw[GW _ _ _ _ h0]
  by_cases zF:k=j
  ·subst zF
   rw[Ak rfl,Lz (by omega)]
   rfl
  ·rw[Ad (by omega),E8 (Ne.symm zF)]
   exact h.hs k hk
 ·rw[GW _ _ _ _ h0]
  by_cases zF:k=j
  ·subst zF
   rw[Ak rfl,Lz (by omega)]
   exact⟨v,rfl,hv⟩
  ·rw[Ad (by omega),E8 (Ne.symm zF)]
   exact h.rs k hk
theorem RZ.kept (h:RZ N w vr vh n hs rs) {S1:Nat→Prop} (hk:Af S1 w w') (h1:∀g cs,AM w g 4 cs→N g→¬S1 g) (h2:∀g cs,AM w g 120 cs→N g→¬S1 g):RZ N w' vr vh n hs rs:=
 ⟨h.has.kept hk (fun b hb=>by obtain⟨cs,hr⟩:=h.has.row hb;exact h1 b cs hr (h.has.2 b hb)),h.rul.kept hk (fun b hb=>by obtain⟨cs,hr⟩:=h.rul.row hb;exact h2 b cs hr (h.rul.2 b hb)),h.hl,h.rl,h.shape⟩
end
section
variable {s:Ae} {r:Ff} {st:PS} {m:Nat}
def yz (at_:Nat) (x:AJ Int):AJ Int:=x.bind fun k st=>.ok k (if(AE st.rules k).isSome&&st.wrong.isNone then note Jp at_ st else st)
theorem Vo (h:(next s st).t.kind=Ec):Cv s st=yz st.t.pos (.ok (-1) (next s (next s st))):=by
 unfold Cv yz
 simp only
 rw[Ak h]
theorem Vn (h:¬(next s st).t.kind=Ec):Cv s st=yz st.t.pos (name s false (next s st)):=by
 unfold Cv yz
 simp only
 rw[Ad h]
theorem ei {at_:Nat} {k:Int} {st1:PS} {hit:Bool} (h:st1.wrong=none→hit=(AE st1.rules k).isSome):
  (if(AE st1.rules k).isSome&&st1.wrong.isNone then note Jp at_ st1 else st1)=if hit then note Jp at_ st1 else st1:=by
 cases hw:st1.wrong with
 |none=>
  rw[h hw]
  simp
 |some x=>
  have e:note Jp at_ st1=st1:=by unfold note;rw[hw]
  simp[e]
theorem T1:Gc s m st=(Cv s st).bind fun k st=>(block s m st).bind fun b st=>.ok () (if st.wrong.isNone then {st with rules:=st.rules++[(k,b)]}else st):=rfl
theorem gA {o:AJ Unit} (ho:o=(Cv s st).bind fun _ st=>.ok () st) (h:Bs s r (o.bind fun _ st=>block s m st)):Bs s r (Gc s m st):=by
 subst ho
 rw[T1]
 cases hh:Cv s st with
 |bad e p=>rw[hh]at h;exact h
 |ok k st1=>
  rw[hh]at h
  have h:Bs s r (block s m st1):=h
  show Bs s r ((block s m st1).bind _)
  cases hb:block s m st1 with
  |bad e p=>rw[hb]at h;exact h
  |ok b AP=>
   rw[hb]at h
   have h':AB s r AP:=h
   show AB s r (if AP.wrong.isNone then {AP with rules:=AP.rules++[(k,b)]}else AP)
   split
   ·exact⟨h'.pos.of rfl rfl,⟨h'.ok.i,h'.ok.pos,h'.ok.more,h'.ok.num,h'.ok.name⟩,h'.deep,h'.loops,h'.bad,h'.wrong,h'.decls,h'.freq,h'.seen,h'.f0,h'.fk⟩
   ·exact h'
theorem kZ {st':PS} (G7:st.Ok s) (hk:st.t.kind=Mv) (hd:st.depth≤7) (hl:st.loops≤2) (e:Gc s m st= .ok () st') (hw:st'.wrong=none):
  ∃k st1 b AP,Cv s st= .ok k st1∧block s m st1= .ok b AP∧st1.wrong=none∧AP.wrong=none∧AE st.rules k=none∧st'.rules=st.rules++[(k,b)]∧st.wrong=none:=by
 rw[T1]at e
 obtain⟨k,st1,e1,e2⟩:=AA e
 obtain⟨b,AP,e3,e4⟩:=AA e2
 injection e4 with _ e4
 obtain⟨f1,l1,w1⟩:=Gb G7 hk e1
 obtain⟨f2,_⟩:=DP f1.ok (by rw[f1.depth];omega) (by rw[f1.loops];omega) e3
 cases Xh:AP.wrong with
 |some x=>
  rw[Xh]at e4
  simp at e4
  rw[←e4,Xh]at hw
  cases hw
 |none=>
  rw[Xh]at e4
  simp at e4
  have h1:=f2.wrong Xh
  refine⟨k,st1,b,AP,e1,e3,h1,Xh,?_,?_,f1.wrong h1⟩
  ·have hn:=(w1 h1).2
   unfold AE
   rw[Im,In]
   intro x hx eI
   exact hn (AT.2 ⟨x,hx,by simpa using eI⟩)
  ·rw[←e4]
   show AP.rules++[(k,b)]=_
   rw[f2.rules,f1.rules]
end
structure RQ (B:Nat) (w:World) (g gp:Nat) (tl:Value) (ts:List CB) (f:Int) (vr vh vm:Value) (ms:Bool) (r:Ff) (vd:Value) (hs:List Bool) (rs:List Value):Prop extends RP B w g gp tl ts f vr vh vm ms r vd where
 ru:RZ (fun b=>B≤b) w vr vh r.decls.length hs rs
 vms:∃a n c,vm= .slice a n c
section
variable {B:Nat} {w w':World} {g gp:Nat} {tl:Value} {ts:List CB} {f:Int} {vr vh vm:Value} {ms:Bool} {r r':Ff} {vd:Value} {hs:List Bool} {rs:List Value} {s:Ae} {st:PS}
theorem RZ.kg {n:Nat} {cs:List Value} (h:RZ (fun b=>B≤b) w vr vh n hs rs) (hk:Kg g w w') (hr:AM w g 124 cs):RZ (fun b=>B≤b) w' vr vh n hs rs:=
 h.kept hk (fun b cs hb _ hh=>hh.elim (fun e=>hb.ne_ hr (by decide) e) (fun e=>by have:=hb.lt;omega)) (fun b cs hb _ hh=>hh.elim (fun e=>hb.ne_ hr (by decide) e) (fun e=>by have:=hb.lt;omega))
theorem RQ.call (h:RQ B w g gp tl ts f vr vh vm ms r vd hs rs) (hk:Kg g w w') (hr:FQ w' g gp tl ts [vd,.int .i64 f,vr,vh,vm,.bool ms] r') (hd:r'.decls=r.decls):RQ B w' g gp tl ts f vr vh vm ms r' vd hs rs:=
 ⟨h.toRP.call hk hr hd,by rw[hd];exact h.ru.kg hk h.rd.row,h.vms⟩
theorem Hz.kg {N:Nat→Prop} {rules:List (Int×AC)} {n:Nat} {cs:List Value} (h:Hz N w rules ms vm n hs rs) (hk:Kg g w w') (hr:AM w g 124 cs):Hz N w' rules ms vm n hs rs:=
 h.kept (fun k cs _ A4=>Hw hk A4.lt (A4.ne_ hr (by decide)))
theorem RZ.has_at {N:Nat→Prop} {n:Nat} (h:RZ N w vr vh n hs rs) {k:Nat} (hk:k<n):∃gh ch b,vh= .slice (some ⟨gh,0,none⟩) n ch∧n≤ch∧ch≤maxLen∧hs[k]?=some b∧w.cell? ⟨gh,k,none⟩=some (.bool b)∧gh<w.heap.size:=by
 obtain⟨gh,ch,e,_,h1,h2,h3⟩:=h.has.form (by omega)
 have hl:=h.hl
 have hb:hs[k]?=some hs[k]:=Ah (by omega)
 refine⟨gh,ch,hs[k],e,h1,h2,hb,?_,h3⟩
 have SV:=h.has
 rw[e]at SV
 have:=SV.1.cellAt k (by omega)
 rw[Az,hb]at this
 exact this
theorem RZ.len_form {N:Nat→Prop} {n:Nat} (h:RZ N w vr vh n hs rs):(∃a c,vh= .slice a n c)∧(∃a c,vr= .slice a n c):=⟨h.has.any_,h.rul.any_⟩
end
def aj (s:Ae) (st:PS) (b:Bool) (k:Nat):Prop:=∀k' st1,Cv s st= .ok k' st1→st1.wrong=none→k'=if b then-1 else(k:Int)
def Nj (s:Ae) (st:PS):AJ Unit:=(Cv s st).bind fun _ st=>.ok () st
section
variable {s:Ae} {st:PS} {r1 r2:Ff} {hit:Bool} {k:Nat}
theorem iM (h:(next s st).t.kind=Ec) (hm:st.wrong=none→hit=(AE st.rules (-1)).isSome) (h1:hit=true→Bs s r2 (NQ Jp st.t.pos (DR s Ec (AJ.ok () (next s st))))) (h2:hit=false→Bs s r2 (DR s Ec (AJ.ok () (next s st)))):
  Bs s r2 (Nj s st)∧aj s st true k:=by
 have e0:DR s Ec (AJ.ok () (next s st))= .ok () (next s (next s st)):=by
  show AJ.ok () (take s Ec (next s st)).2=_
  unfold take
  rw[Ak h]
 rw[e0]at h1 h2
 have e1:Cv s st= .ok (-1) (if hit then note Jp st.t.pos (next s (next s st))else next s (next s st)):=by
  have eM:(if(AE (next s (next s st)).rules (-1)).isSome&&(next s (next s st)).wrong.isNone then note Jp st.t.pos (next s (next s st))else next s (next s st))=if hit then note Jp st.t.pos (next s (next s st))else next s (next s st):=
   ei (at_:=st.t.pos) (st1:=next s (next s st)) (hit:=hit) (fun hw=>hm hw)
  rw[Vo h,←eM]
  rfl
 refine⟨?_,fun k' st1 e hw=>?_⟩
 ·unfold Nj
  rw[e1]
  cases hit with
  |true=>exact h1 rfl
  |false=>exact h2 rfl
 ·rw[e1]at e
  injection e with e
  rw[←e];rfl
theorem iL {v:Nat} (h:¬(next s st).t.kind=Ec) (hv:∀n st1,No s false (AJ.ok () (next s st))= .ok n st1→st1.wrong=none→n=(v:Int)) (G7:st.Ok s)
  (hm:st.wrong=none→(∀n st1,No s false (AJ.ok () (next s st))= .ok n st1→st1.wrong=none→hit=(AE st.rules (v:Int)).isSome)) (h1:hit=true→Bs s r2 (NQ Jp st.t.pos (No s false (AJ.ok () (next s st))))) (h2:hit=false→Bs s r2 (No s false (AJ.ok () (next s st)))):
  Bs s r2 (Nj s st)∧aj s st false v:=by
 have e0:No s false (AJ.ok () (next s st))=name s false (next s st):=rfl
 rw[e0]at hv hm h1 h2
 have e2:Cv s st=yz st.t.pos (name s false (next s st)):=Vn h
 cases hn:name s false (next s st)with
 |bad e p=>
  rw[hn]at e2 h1 h2
  refine⟨?_,fun k' st1 e hw=>by rw[e2]at e;cases e⟩
  unfold Nj
  rw[e2]
  cases hit with
  |true=>exact h1 rfl
  |false=>exact h2 rfl
 |ok n st1=>
  rw[hn]at e2 h1 h2 hv hm
  obtain⟨f1,_,_⟩:=Eo (BF G7) hn
  have e1:Cv s st= .ok n (if hit then note Jp st.t.pos st1 else st1):=by
   rw[e2]
   show AJ.ok n _=_
   rw[ei (hit:=hit) (fun hw=>?_)]
   have hx:=hm (f1.wrong hw) n st1 rfl hw
   rw[hx,hv n st1 rfl hw,f1.rules]
   rfl
  refine⟨?_,fun k' AP e hw=>?_⟩
  ·unfold Nj
   rw[e1]
   cases hit with
   |true=>exact h1 rfl
   |false=>exact h2 rfl
  ·rw[e1]at e
   injection e with e e3
   rw[←e]
   refine hv n st1 rfl ?_
   cases hit with
   |true=>
    simp only[A0]at e3
    rw[←e3]at hw
    exact absurd hw (Ft _ _ _)
   |false=>
    simp only[An,A1]at e3
    rw[e3];exact hw
end
section
variable {B:Nat} {w:World} {g gp:Nat} {tl:Value} {ts:List CB} {f:Int} {vr vh vm:Value} {ms:Bool} {r:Ff} {vd:Value} {hs:List Bool} {rs:List Value}
theorem RQ.setPol (h:RQ B w g gp tl ts f vr vh vm ms r vd hs rs) (i:Nat) (u:Value) {vm':Value} {ms':Bool} (he: [vd,.int .i64 f,vr,vh,vm,.bool ms].set i u=[vd,.int .i64 f,vr,vh,vm',.bool ms']) (hv:∃a n c,vm'= .slice a n c):
  RQ B (w.setCell ⟨gp,i,none⟩ u) g gp tl ts f vr vh vm' ms' r vd hs rs:=by
 have hk:Af (fun b=>b=gp) w (w.setCell ⟨gp,i,none⟩ u):=Af.one w ⟨gp,i,none⟩ _
 obtain⟨N,ht⟩:=h.rd.toks
 have vI:=h.rd.pol.ne_ h.rd.row (by decide)
 have Mh:=h.sl.kept hk (fun b hb e=>h.sl.ne_row h.rd.pol (by decide) (e▸hb))
 have hp:=h.rd.pol.set_ i u
 rw[he]at hp
 exact⟨⟨⟨h.rd.row.far (fun e=>vI e.symm) _,⟨N,ht.kept hk (fun b hb e=>ht.ne_row h.rd.pol (by decide) (e▸hb))⟩,h.rd.tl,hp,⟨_,vd,rfl,Mh⟩,h.rd.dl⟩,h.g0,h.p0,Mh,by simpa using h.sz⟩,
  h.ru.kept hk (fun b cs hb _ hh=>hb.ne_ h.rd.pol (by decide) hh) (fun b cs hb _ hh=>hb.ne_ h.rd.pol (by decide) hh),hv⟩
theorem RQ.setHas (h:RQ B w g gp tl ts f vr vh vm ms r vd hs rs) {gh ch k:Nat} (e:vh= .slice (some ⟨gh,0,none⟩) r.decls.length ch):RQ B (w.setCell ⟨gh,k,none⟩ (.bool true)) g gp tl ts f vr vh vm ms r vd (hs.set k true) rs∧B≤gh∧Af (fun b=>B≤b) w (w.setCell ⟨gh,k,none⟩ (.bool true)):=by
 have vR:B≤gh:=h.ru.has.2 gh (by rw[e];rfl)
 obtain⟨cs,BQ⟩:=h.ru.has.row (g:=gh) (by rw[e];rfl)
 have Bi:Af (fun b=>b=gh) w (w.setCell ⟨gh,k,none⟩ (.bool true)):=Af.one w ⟨gh,k,none⟩ _
 have bW:=h.ru.has
 subst e
 have CP:=bW.1.stored k (.bool true)
 have em:(hs.map Value.bool).set k (.bool true)=(hs.set k true).map Value.bool:=by rw[Om]
 rw[em]at CP
 have Mh:=h.sl.kept Bi (fun b hb e=>h.sl.ne_row BQ (by decide) (e▸hb))
 exact⟨⟨⟨h.rd.far_ BQ (by decide) k _,h.g0,h.p0,Mh,by simpa using h.sz⟩,⟨⟨CP.1,bW.2⟩,h.ru.rul.kept Bi (fun b hb e=>h.ru.rul.ne_row BQ (by decide) (e▸hb)),by rw[BU];exact h.ru.hl,h.ru.rl,h.ru.shape⟩,h.vms⟩,vR,Bi.mono (fun b hb=>hb▸vR)⟩
theorem RQ.setRul (h:RQ B w g gp tl ts f vr vh vm ms r vd hs rs) {gr cr k:Nat} (e:vr= .slice (some ⟨gr,0,none⟩) r.decls.length cr) {v:Value} (hv:∃a n c,v= .slice a n c):RQ B (w.setCell ⟨gr,k,none⟩ v) g gp tl ts f vr vh vm ms r vd hs (rs.set k v)∧B≤gr∧Af (fun b=>B≤b) w (w.setCell ⟨gr,k,none⟩ v):=by
 have vR:B≤gr:=h.ru.rul.2 gr (by rw[e];rfl)
 obtain⟨cs,BQ⟩:=h.ru.rul.row (g:=gr) (by rw[e];rfl)
 have Bi:Af (fun b=>b=gr) w (w.setCell ⟨gr,k,none⟩ v):=Af.one w ⟨gr,k,none⟩ _
 have bS:=h.ru.rul
 subst e
 have CP:=bS.1.stored k v
 have Mh:=h.sl.kept Bi (fun b hb e=>h.sl.ne_row BQ (by decide) (e▸hb))
 exact⟨⟨⟨h.rd.far_ BQ (by decide) k _,h.g0,h.p0,Mh,by simpa using h.sz⟩,⟨h.ru.has.kept Bi (fun b hb e=>h.ru.has.ne_row BQ (by decide) (e▸hb)),⟨CP.1,bS.2⟩,h.ru.hl,by rw[BU];exact h.ru.rl,fun u hu=>by
  rcases JO hu with h1|h1
  ·exact h.ru.shape u h1
  ·exact h1▸hv⟩,h.vms⟩,vR,Bi.mono (fun b hb=>hb▸vR)⟩
end
def zW10 (B:Nat) (w:World) (g gp:Nat) (tl:Value) (ts:List CB) (s:Ae) (ds:List Bf) (f:Int) (vr vh vd:Value) (o:AJ Unit) (e:Ending) (w':World):Prop:=
 e= .returned (.tuple #[])∧Af (fun b=>B≤b) w w'∧∃vm' ms' r' SV xv,RQ B w' g gp tl ts f vr vh vm' ms' r' vd SV xv∧Bs s r' o∧r'.decls=ds∧
  (∀st',o= .ok () st'→st'.wrong=none→Hz (fun b=>B≤b) w' st'.rules ms' vm' ds.length SV xv)
section
variable {B:Nat} {w:World} {g gp:Nat} {tl:Value} {ts:List CB} {f:Int} {vr vh vm:Value} {ms:Bool} {r:Ff} {vd:Value} {hs:List Bool} {rs:List Value} {s:Ae} {st:PS}
theorem gI (h:RQ B w g gp tl ts f vr vh vm ms r vd hs rs) (vo:AB s r st) (ht:DD ts (toks s)) (hl:s.length≤1000) (hk:st.t.kind=Mv) (zW:st.depth=0) (Vd:st.loops=0) (jJ:left s st≤701)
  (hm:st.wrong=none→Hz (fun b=>B≤b) w st.rules ms vm r.decls.length hs rs):
  Calls Tryz.prog 53 #[.pointer (some ⟨g,0,none⟩)] w (zW10 B w g gp tl ts s r.decls f vr vh vd (Gc s 1500 st)):=by
 obtain⟨x,hx,IM⟩:=AB.tok vo ht
 obtain⟨gt,ct,rfl,h1,h2,h3,h4,h5,t0,t1,t2⟩:=h.rd.at_ hx
 obtain⟨c0,c1,_⟩:=h.rd.cells
 have Cy:=h.rd.row.lt
 have ff:=fun j=>h.rd.row.frozen j
 have h8:=h.rd.tl
 have Jj:r.k<ts.length:=h3
 unfold maxLen at h2
 have FF:Bs s r.nx (AJ.ok () (next s st)):=vo.next (by rw[hk];decide) (by rw[hk];decide)
 have Bi:Kg g w ((w.setCell ⟨g,1,none⟩ (.int .i64 ((r.k:Int)+1))).drewN 1):=((Af.refl _ w).setCell (p:=⟨g,1,none⟩) (.inl rfl) _).drewN 1
 have q1:=h.call (r':=r.nx) Bi ((h.rd.put 1 (.int .i64 ((r.k:Int)+1)) (r':=r.nx) rfl rfl).drewN 1) rfl
 have GM:=FI q1.rd FF ht (kd:=Ec) (kr:=Ec) (by decide) (by decide) (by decide) (by decide)
 have hpx:x.pos=st.t.pos:=IM.2.1
 rw[hpx]at t2
 have HT:=Aa ht
 have Q1:=Aa q1
 have Lv:=Aa Bi
 have MG:=Aa GM
 have HP:=Aa h
 have HM:=Aa hm
 have Vh:=Aa (And.intro hk (And.intro zW (And.intro Vd (And.intro jJ (And.intro vo.ok vo.decls)))))
 have rQ:=Aa hl
 generalize Gh:r.k=kq at*
 generalize Aei:ts.length=LL at*
 clear hx IM vo FF hk Gh Aei h q1 Bi ht GM hm zW Vd jJ hl hpx
 unfold vs at*
 go_enter Tryz.func53,Tryz.ntmps53
 go_wp2
 go_region
 go_wp2_with fail
 refine MG.out.mono ?_
 rintro e w1 ⟨rfl,Bi,r1,La,GG,Gi⟩
 have q2:=Q1.out.call Bi La Gi
 have OP:=D5 La GG HT.out false
 have A4:=Kg.trans Lv.out Bi
 have NC:=Aa OP
 have Q2:=Aa q2
 have Ll:=Aa A4
 have oV:=Aa GG
 have aH:=Aa (show r1.decls=r.decls from Gi)
 clear Bi La GG Gi OP q2 A4 MG Q1 Lv t0 t1 t2 c0 c1 ff
 generalize tj:(AJ.ok () (next s st)).isB Ec=b at*
 have HB0:=Aa tj
 clear tj
 go_upto_if 27 with fail
 go_cut [4] (fun s4 wx=>∃(k:Nat) (r2:Ff),s4= .int .i64 k∧Kg g w wx∧RQ B wx g gp (.slice (some ⟨gt,0,none⟩) LL ct) ts f vr vh vm ms r2 vd hs rs∧r2.decls=r.decls∧(b=true→Bs s r2 (DR s Ec (AJ.ok () (next s st))))∧
  (b=false→Bs s r2 (No s false (DR s Ec (AJ.ok () (next s st))))∧∀n st1,No s false (DR s Ec (AJ.ok () (next s st)))= .ok n st1→st1.wrong=none→n=(k:Int)))
 case first=>
  cases b with
  |true=>
   go_wp2
   go_meet
   exact⟨0,r1,rfl,Ll.out,Q2.out,aH.out,fun _=>oV.out,fun e=>absurd e (by decide)⟩
  |false=>
   go_wp2_with fail
   refine NC.out.mono ?_
   rintro e w2 ⟨v,rfl,BY,hv,r2,LZ,Cp,Fp⟩
   have F:=Aa (And.intro BY (And.intro hv (And.intro LZ (And.intro Cp Fp))))
   clear BY hv LZ Cp Fp
   go_wp2
   go_meet
   obtain⟨f1,f2,f3,f4,f5⟩:=F.out
   exact⟨v,r2,rfl,Kg.trans Ll.out f1,Q2.out.call f1 f3 f5,f5.trans aH.out,fun e=>absurd e (by decide),fun _=>⟨f4,f2⟩⟩
 case rest=>
  obtain⟨k,r2,rfl,BY,q3,Gx,hy,hn⟩:=hcut
  clear NC Q2 Ll oV aH
  obtain⟨av,nv,cv,rfl⟩:=q3.vms
  have H3:=Aa (And.intro BY (And.intro Gx (And.intro hy hn)))
  have Q3:=Aa q3
  have c8:=q3.rd.cells.2.2.2.2.2.2.2.2.1
  have p3:=q3.rd.pol.cell 3
  have p5:=q3.rd.pol.cell 5
  simp at p3 p5
  have hhl:=q3.ru.hl
  have IJ:=q3.ru
  obtain⟨⟨ah,ch,rfl⟩,_⟩:=IJ.len_form
  have h64:r2.decls.length≤1000:=q3.rd.dl
  go_upto_region 6 with fail
  go_cut [67] (fun s67 wx=>s67= .bool (if b then ms else hs.getD k false)∧∃q,wx=wc.drewN q)
  case first=>
   cases b with
   |true=>
    clear IJ hhl hy hn BY q3 Gx
    cases ms
    all_goals
     go_wp2
     go_meet
     exact⟨rfl,0,rfl⟩
   |false=>
    by_cases bU:k<r2.decls.length
    ·obtain⟨gh,ch',bv,e,h9,SZ,hb,GH,Adr⟩:=IJ.has_at bU
     injection e with e1 e2 e3
     subst e1 e3
     have HG:=Aa (show hs.getD k false=bv by rw[List.getD,hb];rfl)
     have e9:decide ((k:Int)<(r2.decls.length:Int))=true:=by simp;omega
     clear IJ hhl hy hn BY q3 Gx hb
     unfold maxLen at SZ
     generalize r2.decls.length=nn at*
     cases bv
     all_goals
      go_wp2
      go_meet
      rw[HG.out]
      exact⟨rfl,0,rfl⟩
    ·have HG:=Aa (show hs.getD k false=false by rw[List.getD,Bq (by omega)];rfl)
     have e9:decide ((k:Int)<(r2.decls.length:Int))=false:=by simp;omega
     clear IJ hhl hy hn BY q3 Gx
     generalize r2.decls.length=nn at*
     go_wp2
     go_meet
     rw[HG.out]
     exact⟨rfl,0,rfl⟩
  case rest=>
   obtain⟨rfl,q,rfl⟩:=hcut
   clear IJ hhl BY q3 c8 p3 p5
   have zj:=fun(hb:b=true)=>Hk (e:=Jp) (Q3.out.rd.drewN q) (hy hb) (by decide) st.t.pos
   have zi:=fun(hb:b=false)=>Hk (e:=Jp) (Q3.out.rd.drewN q) (hn hb).1 (by decide) st.t.pos
   have xD:∀hit:Bool,b=true→hit=ms→st.wrong=none→hit=(AE st.rules (-1)).isSome:=fun hit _ e hw=>by rw[e];exact(HM.out hw).ms
   have rP:=Aa zj
   have XM:=Aa Gx
   have rO:=Aa zi
   have HMM:=Aa xD
   clear zj zi xD hy hn Gx
   go_upto_if 67 with fail
   go_cut [] (fun wx=>Kg g w wx∧∃r4,RQ B wx g gp (.slice (some ⟨gt,0,none⟩) LL ct) ts f vr (.slice ah r2.decls.length ch) (.slice av nv cv) ms r4 vd hs rs∧r4.decls=r.decls∧Bs s r4 (Nj s st)∧aj s st b k)
   case first=>
    have A6:∀(hit:Bool),hit=(if b then ms else hs.getD k false)→∀r4,(hit=true→b=true→Bs s r4 (NQ Jp st.t.pos (DR s Ec (AJ.ok () (next s st)))))→(hit=true→b=false→Bs s r4 (NQ Jp st.t.pos (No s false (DR s Ec (AJ.ok () (next s st))))))
      →(hit=false→b=true→Bs s r4 (DR s Ec (AJ.ok () (next s st))))→(hit=false→b=false→Bs s r4 (No s false (DR s Ec (AJ.ok () (next s st)))))→Bs s r4 (Nj s st)∧aj s st b k:=by
     intro hit iJ r4 g1 g2 g3 g4
     obtain⟨-,-,-,-,G7,qD⟩:=Vh.out
     cases b with
     |true=>
      have hkm:(next s st).t.kind=Ec:=by simpa[AJ.isB]using HB0.out
      exact iM hkm (fun hw=>HMM.out hit rfl iJ hw) (fun e=>g1 e rfl) (fun e=>g3 e rfl)
     |false=>
      have hkm:¬(next s st).t.kind=Ec:=by simpa[AJ.isB]using HB0.out
      have e0:No s false (DR s Ec (AJ.ok () (next s st)))=No s false (AJ.ok () (next s st)):=by rw[Gp HB0.out,Y1]
      obtain⟨-,-,-,hn⟩:=H3.out
      obtain⟨-,PR⟩:=hn rfl
      rw[e0]at PR g2 g4
      refine iL hkm PR G7 (fun hw n st1 e1 Qx=>?_) (fun e=>g2 e rfl) (fun e=>g4 e rfl)
      have Zw:=((Eo (BF G7) (show name s false (next s st)= .ok n st1 from e1)).2.2 Qx).1
      have hv:=PR n st1 e1 Qx
      have bU:k<r.decls.length:=by
       rw[qD]
       have:=Zw.2
       have:(next s st).decls=st.decls:=rfl
       rw[this]at Zw
       have:=Zw.2
       omega
      have hx:=(HM.out hw).hs k bU
      rw[iJ]
      simp only[An,A1]
      rw[List.getD,hx]
      rfl
    have Jo:=Aa A6
    clear A6
    obtain⟨hit,iJ⟩:∃hit,hit=(if b then ms else hs.getD k false):=⟨_,rfl⟩
    have HH:=Aa iJ
    rw[←iJ]
    clear iJ
    cases hit with
    |true=>
     have Ex:Calls Tryz.prog 86 #[.pointer (some ⟨g,0,none⟩),.int .i64 8,.int .i64 st.t.pos] (wc.drewN q) (fun e w'=>e= .returned (.tuple #[])∧Kg g (wc.drewN q) w'∧∃r',FQ w' g gp (.slice (some ⟨gt,0,none⟩) LL ct) ts [vd,.int .i64 f,vr,.slice ah r2.decls.length ch,.slice av nv cv,.bool ms] r'∧(Bs s r' (Nj s st)∧aj s st b k)∧r'.decls=r2.decls):=by
      cases hb:b with
      |true=>
       refine(rP.out hb).mono ?_
       rintro e w' ⟨h1,h2,r',h3,h4,h5⟩
       refine⟨h1,h2,r',h3,?_,h5⟩
       rw[←hb]
       exact Jo.out true HH.out r' (fun _ _=>h4) (fun _ e=>by rw[hb]at e;cases e) (fun e=>by cases e) (fun e=>by cases e)
      |false=>
       refine(rO.out hb).mono ?_
       rintro e w' ⟨h1,h2,r',h3,h4,h5⟩
       refine⟨h1,h2,r',h3,?_,h5⟩
       rw[←hb]
       exact Jo.out true HH.out r' (fun _ e=>by rw[hb]at e;cases e) (fun _ _=>h4) (fun e=>by cases e) (fun e=>by cases e)
     have HC:=Aa Ex
     clear Ex rP rO
     go_wp2_with fail
     refine HC.out.mono ?_
     rintro e w4 ⟨rfl,CU,r4,h4,J5,Fz⟩
     have F:=Aa (And.intro CU (And.intro h4 (And.intro J5 Fz)))
     clear CU h4 J5 Fz
     go_wp2
     go_meet
     obtain⟨f1,f2,f3,f4⟩:=F.out
     obtain⟨g1,g2,_⟩:=H3.out
     exact⟨Kg.trans (g1.drewN q) f1,r4,Q3.out.call (Kg.trans ((Af.refl _ wc).drewN q) f1) f2 f4,f4.trans g2,f3.1,f3.2⟩
    |false=>
     clear rP rO
     go_wp2
     go_meet
     obtain⟨g1,g2,g3,g4⟩:=H3.out
     have jF:=Jo.out false HH.out r2 (fun e=>by cases e) (fun e=>by cases e) (fun _ e=>g3 e) (fun _ e=>(g4 e).1)
     exact⟨g1.drewN q,r2,Q3.out.call ((Af.refl _ wc).drewN q) (Q3.out.rd.drewN q) rfl,g2,jF.1,jF.2⟩
   case rest=>
    obtain⟨CU,r4,q4,Fz,J5,hhk⟩:=hcut
    clear rP rO HMM H3 Q3
    have LX:=(bt (g:=g) (gp:=gp) (tl:=.slice (some ⟨gt,0,none⟩) LL ct) (ts:=ts) (pc:=[vd,.int .i64 f,vr,.slice ah r2.decls.length ch,.slice av nv cv,.bool ms]) HT.out rQ.out 1500).1 (Nj s st) wc r4 q4.rd J5 (fun st' e=>by
     obtain⟨hk,hd,hl,jJ,G7,qD⟩:=Vh.out
     obtain⟨k',st1,e1,e2⟩:=AA (show(Cv s st).bind _=AJ.ok () st' from e)
     injection e2 with _ e2
     obtain⟨f1,l1,_⟩:=Gb G7 hk e1
     subst e2
     have:=f1.depth
     have:=f1.loops
     omega)
    rw[Fz]at LX
    have Yg:=Aa LX
    have Q4:=Aa q4
    have H4:=Aa (And.intro CU (And.intro Fz (And.intro J5 hhk)))
    clear LX CU q4 Fz J5 hhk
    go_wp2_with fail
    refine Yg.out.mono ?_
    rintro e w5 ⟨a5,n5,c5,rfl,He,iN,r5,mO,Mi,Rm⟩
    have q5:=Q4.out.call He mO (Rm.trans H4.out.2.1.symm)
    have Fw:=Q4.out.sz
    have zH:=Ul (Kg.trans H4.out.1 He) HP.out.g0 HP.out.sz
    have Xi:Bs s r5 (Gc s 1500 st):=gA (o:=Nj s st) rfl Mi
    have Wr:∀st',Gc s 1500 st= .ok () st'→st'.wrong=none→∃bk,C0 (fun x=>B≤x) w5 (.slice a5 n5 c5) bk∧st'.rules=st.rules++[(if b then-1 else(k:Int),bk)]∧AE st.rules (if b then-1 else(k:Int))=none∧Hz (fun x=>B≤x) w5 st.rules ms (.slice av nv cv) r.decls.length hs rs:=by
     intro st' e hw
     obtain⟨hk,hd,hl,jJ,G7,qD⟩:=Vh.out
     obtain⟨k',st1,bk,AP,e1,e2,w1,w2,e3,e4,e5⟩:=kZ G7 hk (by omega) (by omega) e hw
     have Jj:=H4.out.2.2.2 k' st1 e1 w1
     subst Jj
     have hho:CO s 1500 (Nj s st)= .ok bk AP:=by
      unfold Nj CO
      rw[e1]
      exact e2
     exact⟨bk,(iN bk AP hho w2).mono (fun x _ hx=>Ai Fw hx),e4,e3,((HM.out e5).kg H4.out.1 HP.out.rd.row).kg He Q4.out.rd.row⟩
    have Q5:=Aa q5
    have wV:=Aa zH
    have wO:=Aa Xi
    have au:=Aa Wr
    have fm:=Aa (show r5.decls=r.decls from Rm)
    have c8:=q5.rd.cells.2.2.2.2.2.2.2.2.1
    have pf:=fun j=>q5.rd.pol.frozen j
    have pl:=q5.rd.pol.lt
    have p2:=q5.rd.pol.cell 2
    have p3:=q5.rd.pol.cell 3
    have p4:=q5.rd.pol.cell 4
    have p5:=q5.rd.pol.cell 5
    have hgg:¬g=gp:=fun e=>q5.rd.pol.ne_ q5.rd.row (by decide) e.symm
    have Am0:¬gp=g:=fun e=>hgg e.symm
    simp at p2 p3 p4 p5
    clear Yg He iN mO Mi Rm q5 Fw zH Xi Wr
    cases b with
    |true=>
     go_wp2
     go_end0
     have hq:=(Q5.out.setPol 5 (.bool true) (vm':=.slice av nv cv) (ms':=true) rfl ⟨_,_,_,rfl⟩).setPol 4 (.slice a5 n5 c5) (vm':=.slice a5 n5 c5) (ms':=true) rfl ⟨_,_,_,rfl⟩
     have Nh:Af (fun x=>B≤x) w5 ((w5.setCell ⟨gp,5,none⟩ (.bool true)).setCell ⟨gp,4,none⟩ (.slice a5 n5 c5)):=((Af.refl _ w5).setCell (p:=⟨gp,5,none⟩) Q5.out.p0 _).setCell (p:=⟨gp,4,none⟩) Q5.out.p0 _
     refine⟨rfl,wV.out.trans Nh,.slice a5 n5 c5,true,r5,hs,rs,hq,wO.out,fm.out,fun st' e hw=>?_⟩
     obtain⟨bk,m1,m2,m3,m4⟩:=au.out st' e hw
     rw[m2]
     have Jj:∀x cs,B≤x→AM w5 x 212 cs→((w5.setCell ⟨gp,5,none⟩ (.bool true)).setCell ⟨gp,4,none⟩ (.slice a5 n5 c5)).heap[x]?=w5.heap[x]?:=fun x cs _ hr=>by
      have Cu:x≠gp:=hr.ne_ Q5.out.rd.pol (by decide)
      rw[FU _ _ _ _ Cu,FU _ _ _ _ Cu]
     exact(m4.setMiss m3 m1).kept Jj
    |false=>
     have hlen:r2.decls.length=r5.decls.length:=by rw[XM.out,fm.out]
     by_cases bU:k<r5.decls.length
     ·have e9:decide ((k:Int)<(r2.decls.length:Int))=true:=by simp;omega
      obtain⟨gh,ch',eh,_,h9,SZ,Adr⟩:=Q5.out.ru.has.form (by omega)
      obtain⟨gr,cr,er,_,mP,tz,Amp⟩:=Q5.out.ru.rul.form (by omega)
      have bW:=Q5.out.ru.has
      have bS:=Q5.out.ru.rul
      obtain⟨csh,gK⟩:=bW.row (g:=gh) (by rw[eh];rfl)
      obtain⟨Nz,pD⟩:=bS.row (g:=gr) (by rw[er];rfl)
      have n1:¬g=gh:=fun e=>gK.ne_ Q5.out.rd.row (by decide) e.symm
      have n2:¬gp=gh:=fun e=>gK.ne_ Q5.out.rd.pol (by decide) e.symm
      have n3:¬gr=gh:=fun e=>gK.ne_ pD (by decide) e.symm
      have n4:¬gh=gr:=fun e=>n3 e.symm
      have J6:=Q5.out.ru.hl
      have Ik:=Q5.out.ru.rl
      have f1:=fun j=>gK.frozen j
      have f2:=fun j=>pD.frozen j
      have d1:w5.cell? ⟨gh,k,none⟩=some (.bool (hs.getD k false)):=by
       rw[eh]at bW
       have:=bW.1.cellAt k (by omega)
       rw[Az]at this
       rw[this,List.getD,Ah (by omega)]
       rfl
      have d2:∃v,w5.cell? ⟨gr,k,none⟩=some v:=by
       rw[er]at bS
       have:=bS.1.cellAt k (by omega)
       rw[Ah (by omega)]at this
       exact⟨_,this⟩
      obtain⟨v0,d2⟩:=d2
      have eh2:Value.slice ah r2.decls.length ch= .slice (some ⟨gh,0,none⟩) r5.decls.length ch':=eh
      injection eh2 with y1 y2 y3
      subst y1 y3
      subst er
      have oJ:=Q5.out.setHas (k:=k) (gh:=gh) (ch:=ch) (by rw[hlen])
      have Zp:=oJ.1.setRul (k:=k) (gr:=gr) (cr:=cr) rfl (v:=.slice a5 n5 c5) ⟨_,_,_,rfl⟩
      have HQ1:=Aa oJ
      have HQ2:=Aa Zp
      have O5:=Aa (And.intro gK pD)
      have Aah:=Aa (And.intro J6 Ik)
      unfold maxLen at SZ tz
      clear oJ Zp bW bS gK pD J6 Ik eh
      rw[←hlen]at p2 mP h9 bU
      generalize oK:r2.decls.length=nn at*
      have dK:=Aa oK
      clear oK
      have Ap4:=Aa hlen
      clear hlen
      go_wp2
      go_end0
      refine⟨rfl,wV.out.trans (HQ1.out.2.2.trans HQ2.out.2.2),.slice av nv cv,ms,r5,_,_,HQ2.out.1,wO.out,fm.out,fun st' e hw=>?_⟩
      obtain⟨bk,m1,m2,m3,m4⟩:=au.out st' e hw
      rw[m2]
      have Jj:∀x cs,B≤x→AM w5 x 212 cs→((w5.setCell ⟨gh,k,none⟩ (.bool true)).setCell ⟨gr,k,none⟩ (.slice a5 n5 c5)).heap[x]?=w5.heap[x]?:=fun x cs _ hr=>by
       have Cu:x≠gh:=hr.ne_ O5.out.1 (by decide)
       have iD:x≠gr:=hr.ne_ O5.out.2 (by decide)
       rw[FU _ _ _ _ iD,FU _ _ _ _ Cu]
      have hx:=Aah.out.1
      have hy:=Aah.out.2
      rw[fm.out]at hx hy
      exact(m4.setRule m3 m1 hx hy).kept Jj
     ·have e9:decide ((k:Int)<(r2.decls.length:Int))=false:=by simp;omega
      have HKN:=Aa (show¬k<r.decls.length by rw[←fm.out];exact bU)
      have hle:r2.decls.length≤k:=by omega
      clear bU hlen
      generalize oK:r2.decls.length=nn at*
      go_wp2
      go_end0
      refine⟨rfl,wV.out,.slice av nv cv,ms,r5,hs,rs,Q5.out,wO.out,fm.out,fun st' e hw=>?_⟩
      obtain⟨bk,m1,m2,m3,m4⟩:=au.out st' e hw
      simp only[An,A1]at m2 m3
      rw[m2]
      have e2:∀j:Nat,j<r.decls.length→AE (st.rules++[((k:Int),bk)]) (j:Int)=AE st.rules (j:Int):=fun j hj=>by
       rw[GW _ _ _ _ m3,Ad (by have:=HKN.out;omega)]
      have e1:Cm (st.rules++[((k:Int),bk)])=Cm st.rules:=by unfold Cm;rw[GW _ _ _ _ m3,Ad (by omega)]
      exact⟨by rw[e1];exact m4.ms,by rw[e1];exact m4.vm,fun j hj=>by rw[e2 j hj];exact m4.hs j hj,fun j hj=>by rw[e2 j hj];exact m4.rs j hj⟩
end
end Go.Proofs.YtemppijblfflgaaGreatDoor.Ev
namespace Go.Proofs.YtemppijblfflgaaGreatDoor.Ev
def JX (x:CB):Bool:=x.is==Bu||x.is==DJ
def Jt (s:Ae):Nat→Nat→List CB
 |0,_=>[]
 |n+1,i=>if JX (Qe s i).1 then [(Qe s i).1]else(Qe s i).1::Jt s n (Qe s i).2
theorem gV {k:Ae}:(GE k==DJ)=(k==DJ):=by
 unfold GE
 split
 ·rename_i h;subst h;decide
 ·rfl
theorem bu {k:Ae}:(GE k==Bu)=(k==Bu):=by
 unfold GE
 split
 ·rename_i h;subst h;decide
 ·rfl
theorem We {x:CB} {t:Mc} (h:x.Of t):JX x=final t:=by
 unfold JX final
 rw[h.1,gV,bu,Bool.or_comm]
theorem TZ (s:Ae):∀(n i:Nat),DD (Jt s n i) (If s n i)
 |0,_=>trivial
 |n+1,i=>by
  obtain⟨h1,h2⟩:=YL s i
  unfold Jt If
  rw[We h1]
  cases hf:final (D6 s i).1 with
  |true=>exact⟨h1,trivial⟩
  |false=>
   simp only[An,A1]
   rw[h2 hf]
   exact⟨h1,TZ s n _⟩
def Pb (s:Ae):List CB:=Jt s (s.length+1) 0
theorem YI (s:Ae):DD (Pb s) (toks s):=TZ s _ _
theorem gC (s:Ae):(Pb s).length≤s.length+1:=by rw[(YI s).len];exact kC s
theorem eg (s:Ae) (i:Nat) (h:i≤s.length) (hf:JX (Qe s i).1=false):i<(Qe s i).2∧(Qe s i).2≤s.length:=by
 obtain⟨h1,h2⟩:=YL s i
 rw[We h1]at hf
 rw[h2 hf]
 obtain⟨a,b,c,d⟩:=Jy s i h
 obtain⟨e1,e2⟩:=mW hf
 have:=d e1 e2
 omega
def Fr (s:Ae) (p:Nat):Nat:=
 match s[p]? with
 |none=>p
 |some c=>if low c then skip low s p else if E6 c then skip E6 s p else if FJ c then p+1 else p
def LC (s:Ae) (p:Nat):Ae:=
 match s[p]? with
 |none=>DJ
 |some c=>
  if low c then(if 8<skip low s p-p then Bu else if AQ.contains (CT s p (skip low s p))then CT s p (skip low s p)else BG)
  else if E6 c then(if 3<skip E6 s p-p then Bu else J1)
  else if FJ c then [c]else Bu
theorem Ua (s:Ae) (p:Nat):CT s p p=[]:=by
 unfold CT
 exact List.drop_eq_nil_of_le (by simp;omega)
theorem Wh {s:Ae} {p:Nat} {c:UInt8} (h:s[p]?=some c):CT s p (p+1)=[c]:=by
 obtain⟨hp,hc⟩:=Ap.1 h
 unfold CT
 rw[VQ,Dj,Gt hp,hc]
 rfl
theorem pF (s:Ae) (i:Nat):Qe s i=(⟨LC s (skip blank s i),CT s (skip blank s i) (Fr s (skip blank s i)),skip blank s i⟩,Fr s (skip blank s i)):=by
 unfold Qe LC Fr
 simp only
 generalize skip blank s i=p
 cases hc:s[p]? with
 |none=>simp only[Ua]
 |some c=>
  simp only
  cases hl:low c with
  |true=>
   simp only[A0]
   split<;>rfl
  |false=>
   simp only[An,A1]
   cases hf:E6 c with
   |true=>
    simp only[A0]
    split<;>rfl
   |false=>
    simp only[An,A1]
    cases hp:FJ c with
    |true=>simp only[A0,Wh hc]
    |false=>simp only[An,A1,Ua]
theorem aR {s:Ae} {p:Nat} (h:s[p]?=none):LC s p=DJ∧Fr s p=p:=by
 unfold LC Fr;rw[h];exact⟨rfl,rfl⟩
theorem fS {s:Ae} {p:Nat} {c:UInt8} (h:s[p]?=some c) (hl:low c=true):LC s p=(if 8<skip low s p-p then Bu else if AQ.contains (CT s p (skip low s p))then CT s p (skip low s p)else BG)∧Fr s p=skip low s p:=by
 unfold LC Fr;rw[h];simp only[hl,A0];exact⟨trivial,trivial⟩
theorem fT {s:Ae} {p:Nat} {c:UInt8} (h:s[p]?=some c) (hl:low c=false) (hf:E6 c=true):LC s p=(if 3<skip E6 s p-p then Bu else J1)∧Fr s p=skip E6 s p:=by
 unfold LC Fr;rw[h];simp only[hl,hf,A0,An,A1];exact⟨trivial,trivial⟩
theorem Ys {s:Ae} {p:Nat} {c:UInt8} (h:s[p]?=some c) (hl:low c=false) (hf:E6 c=false) (hp:FJ c=true):LC s p=[c]∧Fr s p=p+1:=by
 unfold LC Fr;rw[h];simp only[hl,hf,hp,A0,An,A1];exact⟨trivial,trivial⟩
theorem kD {s:Ae} {p:Nat} {c:UInt8} (h:s[p]?=some c) (hl:low c=false) (hf:E6 c=false) (hp:FJ c=false):LC s p=Bu∧Fr s p=p:=by
 unfold LC Fr;rw[h];simp only[hl,hf,hp,An,A1];exact⟨trivial,trivial⟩
end Go.Proofs.YtemppijblfflgaaGreatDoor.Ev
