/- Parts of a proof that a law's walk returns true. Conditions: none. -/
import Derived.Test.YtemppijblfflgaaGreatDoorZa00
import Derived.Test.YtemppijblfflgaaGreatDoorZa15
set_option linter.all false
set_option maxRecDepth 100000
set_option maxHeartbeats 8000000
namespace Go.Proofs.YtemppijblfflgaaGreatDoor.Ev
open Go Go.RowKit
theorem EL (w:World):(Go.sizeOf 212).run Tryz.prog w= .ok 14 w:=by kernel_rfl
theorem FO (w:World):(isAgg 212).run Tryz.prog w= .ok true w:=by kernel_rfl
theorem BS {w:World} {C:Nat} {t:TypeId} {d0 d1 d2 d3 d4 d5 d6 d7 d8 d9 OW OV OU nu:Value} (h:AM w C t [d0,d1,d2,d3,d4,d5,d6,d7,d8,d9,OW,OV,OU,nu]):
  w.cell? ⟨C,0,none⟩=some d0∧w.cell? ⟨C,1,none⟩=some d1∧w.cell? ⟨C,2,none⟩=some d2∧w.cell? ⟨C,3,none⟩=some d3∧w.cell? ⟨C,4,none⟩=some d4∧w.cell? ⟨C,5,none⟩=some d5∧w.cell? ⟨C,6,none⟩=some d6∧
  w.cell? ⟨C,7,none⟩=some d7∧w.cell? ⟨C,8,none⟩=some d8∧w.cell? ⟨C,9,none⟩=some d9∧w.cell? ⟨C,10,none⟩=some OW∧w.cell? ⟨C,11,none⟩=some OV∧w.cell? ⟨C,12,none⟩=some OU∧w.cell? ⟨C,13,none⟩=some nu:=
 ⟨h.cell 0,h.cell 1,h.cell 2,h.cell 3,h.cell 4,h.cell 5,h.cell 6,h.cell 7,h.cell 8,h.cell 9,h.cell 10,h.cell 11,h.cell 12,h.cell 13⟩
abbrev F8:List Value:=[vs [],.int .i64 0,.int .i64 0,.bool false,vs [],.int .i64 0,vs [],.int .i64 0,vs [],.int .i64 0,.int .i64 0,.slice none 0 0,.slice none 0 0,.bool false]
abbrev MB (w:World) (R:Nat) (d0 d1 d2 d3 d4 d5 d6 d7 d8 d9 OW OV OU nu:Value):World:=
 (((((((((((((w.setCell ⟨R,0,none⟩ d0).setCell ⟨R,1,none⟩ d1).setCell ⟨R,2,none⟩ d2).setCell ⟨R,3,none⟩ d3).setCell ⟨R,4,none⟩ d4).setCell ⟨R,5,none⟩ d5).setCell ⟨R,6,none⟩ d6).setCell ⟨R,7,none⟩ d7).setCell ⟨R,8,none⟩ d8).setCell ⟨R,9,none⟩ d9).setCell ⟨R,10,none⟩ OW).setCell ⟨R,11,none⟩ OV).setCell ⟨R,12,none⟩ OU).setCell ⟨R,13,none⟩ nu
abbrev Ff.nx (r:Ff):Ff:={r with k:=r.k+1}
def BM {α:Type} (o:AJ α):AJ Unit:=o.bind fun _ st=>.ok () st
theorem Bs.of_unit {α β:Type} {s:Ae} {r:Ff} {o:AJ α} {o':AJ β} (h:Bs s r o) (e:BM o'=BM o):Bs s r o':=by
 cases o with
 |bad k p=>
  cases o' with
  |bad k' p'=>injection e with e1 e2;subst e1 e2;exact h
  |ok a st=>cases e
 |ok a st=>
  cases o' with
  |bad k' p'=>cases e
  |ok a' st'=>injection e with _ e2;subst e2;exact h
theorem Yu {α:Type} (s k:Ae) (a:α) (st:PS):(take s k st).1=(AJ.ok a st).isB k:=by
 unfold take AJ.isB
 by_cases h:st.t.kind=k
 ·rw[Ak h];simp[h]
 ·rw[Ad h];simp[h]
theorem TJ (s k:Ae) (st:PS):(take s k st).2.wrong=st.wrong:=by
 unfold take;split<;>rfl
section
variable {w w0:World} {g gp:Nat} {tl:Value} {ts:List CB} {pc:List Value} {r:Ff} {s:Ae} {st:PS} {C D:Nat} {ty:TypeId} {ds:List Value}
theorem RH.start_ (hk:Kg g w0 w) (h:FQ w g gp tl ts pc r) (ht:jl ty) (cs:List Value) (hC:C=w.heap.size):RH w0 (w.alloc (.cells cs.toArray ty)) g gp tl ts pc r ty C cs:=
 ⟨hk.alloc (.inr hk.size) _,h.alloc _,by rw[hC];exact AM.new w ty cs,by rw[hC];exact hk.size,ht⟩
theorem Lu.start_ {cs:List Value} (h:RH w0 w g gp tl ts pc r ty C cs) (ds:List Value) (hD:D=w.heap.size):Lu w0 (w.alloc (.cells ds.toArray ty)) g gp tl ts pc r ty C cs D ds:=
 ⟨h.alloc _,by rw[hD];exact AM.new w ty ds,by rw[hD];exact h.kg.size,by have:=h.row.lt;omega⟩
theorem Lu.copy14 (h:Lu w0 w g gp tl ts pc r ty C F8 D ds) (d0 d1 d2 d3 d4 d5 d6 d7 d8 d9 OW OV OU nu:Value):
  Lu w0 (MB w C d0 d1 d2 d3 d4 d5 d6 d7 d8 d9 OW OV OU nu) g gp tl ts pc r ty C [d0,d1,d2,d3,d4,d5,d6,d7,d8,d9,OW,OV,OU,nu] D ds:=
 (((((((((((((h.set_ 0 d0).set_ 1 d1).set_ 2 d2).set_ 3 d3).set_ 4 d4).set_ 5 d5).set_ 6 d6).set_ 7 d7).set_ 8 d8).set_ 9 d9).set_ 10 OW).set_ 11 OV).set_ 12 OU).set_ 13 nu
theorem gF (h:FQ w g gp tl ts pc r) (hs:AB s r st) (ht:DD ts (toks s)) (hk:st.t.kind=Hn):
  Calls Tryz.prog 128 #[.pointer (some ⟨g,0,none⟩)] w (MC w g gp tl ts pc s r.decls ((name s false (next s st)).bind fun q st=>(want s Ar (take s BN st).2).bind fun _ st_=>.ok (.prim (.put q (take s BN st).1) .nil) st_)):=by
 obtain⟨x,hx,IM⟩:=AB.tok hs ht
 obtain⟨gt,ct,rfl,h1,h2,h3,h4,h5,t0,t1,t2⟩:=h.at_ hx
 have Nf:x.is=Hn:=by rw[IM.1,hk];decide
 rw[Nf]at t0
 obtain⟨c0,c1,_⟩:=h.cells
 have Cy:=h.row.lt
 have ff:=fun j=>h.row.frozen j
 have h8:=h.tl
 have Jj:r.k<ts.length:=h3
 unfold maxLen at h2
 have Nh:Kg g w (w.setCell ⟨g,1,none⟩ (.int .i64 ((r.k:Int)+1))):=(Af.refl _ w).setCell (p:=⟨g,1,none⟩) (.inl rfl) _
 have q1:=(Lu.start_ (D:=w.heap.size+1) (RH.start_ (C:=w.heap.size) (ty:=212) Nh (h.put 1 (.int .i64 ((r.k:Int)+1)) (r':=r.nx) rfl rfl) (by decide) F8 (by simp)) [vs Hn,.int .i64 0,.int .i64 0,.bool false,vs [],.int .i64 0,vs [],.int .i64 0,vs [],.int .i64 0,.int .i64 0,.slice none 0 0,.slice none 0 0,.bool false] (by simp)).drewN 1
 have FF:Bs s r.nx (AJ.ok () (next s st)):=AB.next hs (by rw[hk];decide) (by rw[hk];decide)
 have G7:(next s st).Ok s:=BF (AB.ok hs)
 have HT:=Aa ht
 have IL:=Aa G7
 have Nk:=D5 q1.rd FF HT.out false
 have Td:=Aa Nk
 have Q1:=Aa q1
 generalize Gh:r.k=kq at*
 generalize QG:ts.length=LL at*
 clear hx IM hs FF G7 Nf hk Gh QG h q1 Nk ht t1 t2 Nh
 unfold vs at*
 go_enter EW,Ej
 go_wp2
 go_region
 go_wp2_with fail
 refine Td.out.mono ?_
 rintro e w1 ⟨v1,rfl,Bi,Qy,r1,La,GG,Gi⟩
 have dG:=Aa Qy
 clear Qy
 have p1:=Q1.out.call Bi La
 obtain⟨e0,e1,e2,e3,e4,e5,e6,e7,e8,e9,e10,e11,e12,L7⟩:=BS p1.row2
 have z:=fun j=>p1.row2.frozen j
 have q2:=p1.set2 1 (.int .i64 v1)
 have Nx:=FI q2.rd GG HT.out (kd:=BN) (kr:=BN) (by decide) (by decide) (by decide) (by decide)
 rw[Gi]at Nx
 have Vj:=Aa Nx
 have Q2:=Aa q2
 clear q2 Nx Bi La GG Gi p1
 unfold vs at*
 go_wp2_with fail
 clear e0 e1 e2 e3 e4 e5 e6 e7 e8 e9 e10 e11 e12 L7 z
 refine Vj.out.mono ?_
 rintro e w2 ⟨rfl,A4,r2,LZ,Cp,Fp⟩
 have p2:=Q2.out.call A4 LZ
 obtain⟨e0,e1,e2,e3,e4,e5,e6,e7,e8,e9,e10,e11,e12,L7⟩:=BS p2.row2
 have z:=fun j=>p2.row2.frozen j
 have q3:=p2.set2 3 (.bool ((No s false (AJ.ok () (next s st))).isB BN))
 have Fp:=Fp
 have XX:=Dw q3.rd Cp HT.out (kd:=Ar) (kr:=Ar) (by decide) (by decide) (by decide) (by decide)
 rw[Fp]at XX
 have pa:=Aa XX
 have Q3:=Aa q3
 clear q3 XX A4 LZ Cp Fp p2
 unfold vs at*
 go_wp2_with fail
 clear e0 e1 e2 e3 e4 e5 e6 e7 e8 e9 e10 e11 e12 L7 z
 refine pa.out.mono ?_
 rintro e w3 ⟨x9,rfl,BY,_,r3,Vg,Fo,Gx⟩
 have p3:=Q3.out.call BY Vg
 obtain⟨e0,e1,e2,e3,e4,e5,e6,e7,e8,e9,e10,e11,e12,L7⟩:=BS p3.row2
 have z:=fun j=>p3.row2.frozen j
 obtain⟨f0,f1,f2,f3,f4,f5,f6,f7,f8,f9,UH,f11,UG,jP⟩:=BS p3.row
 have y:=fun j=>p3.row.frozen j
 have Cu:¬w.heap.size=w.heap.size+1:=by omega
 have q9:=p3.copy14 (vs Hn) (.int .i64 v1) (.int .i64 0) (.bool ((No s false (AJ.ok () (next s st))).isB BN)) (vs []) (.int .i64 0) (vs []) (.int .i64 0) (vs []) (.int .i64 0) (.int .i64 0) (.slice none 0 0) (.slice none 0 0) (.bool false)
 have Q9:=Aa q9
 have zW17:=Aa Fo
 have FD:=Aa Gx
 clear p3 q9 BY Vg Fo Gx
 unfold DB vs at*
 go_wp2
 refine Av (AG (cs:=[vs Hn,.int .i64 v1,.int .i64 0,.bool ((No s false (AJ.ok () (next s st))).isB BN),vs [],.int .i64 0,vs [],.int .i64 0,vs [],.int .i64 0,.int .i64 0,.slice none 0 0,.slice none 0 0,.bool false]) CY FO EL rfl Q9.out.row) rfl ?_
 refine⟨[vs Hn,.int .i64 v1,.int .i64 0,.bool ((No s false (AJ.ok () (next s st))).isB BN),vs [],.int .i64 0,vs [],.int .i64 0,vs [],.int .i64 0,.int .i64 0,.slice none 0 0,.slice none 0 0,.bool false],rfl,⟨_,_,_,_,_,_,_,_,_,_,_,_,_,_,_,_,_,_,rfl⟩,Q9.out.kg,fun x9 Fm e hw=>?_,r3,Q9.out.rd,?_,FD.out⟩
 ·obtain⟨q,st1,u1,u2⟩:=AA e
  obtain⟨t9,AP,u3,u4⟩:=AA u2
  injection u4 with u4 u5
  subst u4 u5
  have Qx:st1.wrong=none:=by rw[(Bw u3).2.2]at hw;exact(TJ s BN st1).symm.trans hw
  rw[dG.out q st1 u1 Qx,Yu s BN q st1,show No s false (AJ.ok () (next s st))= .ok q st1 from u1]
  exact⟨[],by simp[G9,ES,Mq,Ms,FK,Ge,Bx],rfl⟩
 ·refine zW17.out.of_unit ?_
  show BM ((name s false (next s st)).bind _)=BM (BC s Ar (DR s BN (name s false (next s st))))
  cases name s false (next s st)with
  |bad e p=>rfl
  |ok q st1=>
   show BM ((want s Ar (take s BN st1).2).bind _)=BM (want s Ar (take s BN st1).2)
   cases want s Ar (take s BN st1).2<;>rfl
theorem YK (h:FQ w g gp tl ts pc r) (hs:AB s r st) (ht:DD ts (toks s)) (hk:st.t.kind=Db):
  Calls Tryz.prog 128 #[.pointer (some ⟨g,0,none⟩)] w (MC w g gp tl ts pc s r.decls ((name s false (next s st)).bind fun q st=>(want s Ar st).bind fun _ st_=>.ok (.prim (.evict q) .nil) st_)):=by
 obtain⟨x,hx,IM⟩:=AB.tok hs ht
 obtain⟨gt,ct,rfl,h1,h2,h3,h4,h5,t0,t1,t2⟩:=h.at_ hx
 have Nf:x.is=Db:=by rw[IM.1,hk];decide
 rw[Nf]at t0
 obtain⟨c0,c1,_⟩:=h.cells
 have Cy:=h.row.lt
 have ff:=fun j=>h.row.frozen j
 have h8:=h.tl
 have Jj:r.k<ts.length:=h3
 unfold maxLen at h2
 have Nh:Kg g w (w.setCell ⟨g,1,none⟩ (.int .i64 ((r.k:Int)+1))):=(Af.refl _ w).setCell (p:=⟨g,1,none⟩) (.inl rfl) _
 have q1:=(Lu.start_ (D:=w.heap.size+1) (RH.start_ (C:=w.heap.size) (ty:=212) Nh (h.put 1 (.int .i64 ((r.k:Int)+1)) (r':=r.nx) rfl rfl) (by decide) F8 (by simp)) [vs Db,.int .i64 0,.int .i64 0,.bool false,vs [],.int .i64 0,vs [],.int .i64 0,vs [],.int .i64 0,.int .i64 0,.slice none 0 0,.slice none 0 0,.bool false] (by simp)).drewN 1
 have FF:Bs s r.nx (AJ.ok () (next s st)):=AB.next hs (by rw[hk];decide) (by rw[hk];decide)
 have G7:(next s st).Ok s:=BF (AB.ok hs)
 have HT:=Aa ht
 have IL:=Aa G7
 have Nk:=D5 q1.rd FF HT.out false
 have Td:=Aa Nk
 have Q1:=Aa q1
 generalize Gh:r.k=kq at*
 generalize QG:ts.length=LL at*
 clear hx IM hs FF G7 Nf hk Gh QG h q1 Nk ht t1 t2 Nh
 unfold vs at*
 go_enter EW,Ej
 go_wp2
 go_region
 go_wp2_with fail
 refine Td.out.mono ?_
 rintro e w1 ⟨v1,rfl,Bi,Qy,r1,La,GG,Gi⟩
 have dG:=Aa Qy
 clear Qy
 have p1:=Q1.out.call Bi La
 obtain⟨e0,e1,e2,e3,e4,e5,e6,e7,e8,e9,e10,e11,e12,L7⟩:=BS p1.row2
 have z:=fun j=>p1.row2.frozen j
 have q2:=p1.set2 1 (.int .i64 v1)
 have Nx:=Dw q2.rd GG HT.out (kd:=Ar) (kr:=Ar) (by decide) (by decide) (by decide) (by decide)
 rw[Gi]at Nx
 have Vj:=Aa Nx
 have Q2:=Aa q2
 clear q2 Nx Bi La GG Gi p1
 unfold vs at*
 go_wp2_with fail
 clear e0 e1 e2 e3 e4 e5 e6 e7 e8 e9 e10 e11 e12 L7 z
 refine Vj.out.mono ?_
 rintro e w2 ⟨x9,rfl,A4,_,r2,LZ,Cp,Fp⟩
 have p2:=Q2.out.call A4 LZ
 obtain⟨e0,e1,e2,e3,e4,e5,e6,e7,e8,e9,e10,e11,e12,L7⟩:=BS p2.row2
 have z:=fun j=>p2.row2.frozen j
 obtain⟨f0,f1,f2,f3,f4,f5,f6,f7,f8,f9,UH,f11,UG,jP⟩:=BS p2.row
 have y:=fun j=>p2.row.frozen j
 have Cu:¬w.heap.size=w.heap.size+1:=by omega
 have q9:=p2.copy14 (vs Db) (.int .i64 v1) (.int .i64 0) (.bool false) (vs []) (.int .i64 0) (vs []) (.int .i64 0) (vs []) (.int .i64 0) (.int .i64 0) (.slice none 0 0) (.slice none 0 0) (.bool false)
 have Q9:=Aa q9
 have zW17:=Aa Cp
 have FD:=Aa Fp
 clear p2 q9 A4 LZ Cp Fp
 unfold DB vs at*
 go_wp2
 refine Av (AG (cs:=[vs Db,.int .i64 v1,.int .i64 0,.bool false,vs [],.int .i64 0,vs [],.int .i64 0,vs [],.int .i64 0,.int .i64 0,.slice none 0 0,.slice none 0 0,.bool false]) CY FO EL rfl Q9.out.row) rfl ?_
 refine⟨[vs Db,.int .i64 v1,.int .i64 0,.bool false,vs [],.int .i64 0,vs [],.int .i64 0,vs [],.int .i64 0,.int .i64 0,.slice none 0 0,.slice none 0 0,.bool false],rfl,⟨_,_,_,_,_,_,_,_,_,_,_,_,_,_,_,_,_,_,rfl⟩,Q9.out.kg,fun x9 Fm e hw=>?_,r2,Q9.out.rd,?_,FD.out⟩
 ·obtain⟨q,st1,u1,u2⟩:=AA e
  obtain⟨t9,AP,u3,u4⟩:=AA u2
  injection u4 with u4 u5
  subst u4 u5
  have Qx:st1.wrong=none:=by rw[(Bw u3).2.2]at hw;exact hw
  rw[dG.out q st1 u1 Qx]
  exact⟨[],by simp[G9,ES,Mq,Ms,FK,Ge,Bx],rfl⟩
 ·refine zW17.out.of_unit ?_
  show BM ((name s false (next s st)).bind _)=BM (BC s Ar (name s false (next s st)))
  cases name s false (next s st)with
  |bad e p=>rfl
  |ok q st1=>
   show BM ((want s Ar st1).bind _)=BM (want s Ar st1)
   cases want s Ar st1<;>rfl
theorem bi (h:FQ w g gp tl ts pc r) (hs:AB s r st) (ht:DD ts (toks s)) (hk:st.t.kind=Ew):
  Calls Tryz.prog 128 #[.pointer (some ⟨g,0,none⟩)] w (MC w g gp tl ts pc s r.decls ((name s false (next s st)).bind fun q st=>(want s Ar st).bind fun _ st_=>.ok (.prim (.cool q) .nil) st_)):=by
 obtain⟨x,hx,IM⟩:=AB.tok hs ht
 obtain⟨gt,ct,rfl,h1,h2,h3,h4,h5,t0,t1,t2⟩:=h.at_ hx
 have Nf:x.is=Ew:=by rw[IM.1,hk];decide
 rw[Nf]at t0
 obtain⟨c0,c1,_⟩:=h.cells
 have Cy:=h.row.lt
 have ff:=fun j=>h.row.frozen j
 have h8:=h.tl
 have Jj:r.k<ts.length:=h3
 unfold maxLen at h2
 have Nh:Kg g w (w.setCell ⟨g,1,none⟩ (.int .i64 ((r.k:Int)+1))):=(Af.refl _ w).setCell (p:=⟨g,1,none⟩) (.inl rfl) _
 have q1:=(Lu.start_ (D:=w.heap.size+1) (RH.start_ (C:=w.heap.size) (ty:=212) Nh (h.put 1 (.int .i64 ((r.k:Int)+1)) (r':=r.nx) rfl rfl) (by decide) F8 (by simp)) [vs Ew,.int .i64 0,.int .i64 0,.bool false,vs [],.int .i64 0,vs [],.int .i64 0,vs [],.int .i64 0,.int .i64 0,.slice none 0 0,.slice none 0 0,.bool false] (by simp)).drewN 1
 have FF:Bs s r.nx (AJ.ok () (next s st)):=AB.next hs (by rw[hk];decide) (by rw[hk];decide)
 have G7:(next s st).Ok s:=BF (AB.ok hs)
 have HT:=Aa ht
 have IL:=Aa G7
 have Nk:=D5 q1.rd FF HT.out false
 have Td:=Aa Nk
 have Q1:=Aa q1
 generalize Gh:r.k=kq at*
 generalize QG:ts.length=LL at*
 clear hx IM hs FF G7 Nf hk Gh QG h q1 Nk ht t1 t2 Nh
 unfold vs at*
 go_enter EW,Ej
 go_wp2
 go_region
 go_wp2_with fail
 refine Td.out.mono ?_
 rintro e w1 ⟨v1,rfl,Bi,Qy,r1,La,GG,Gi⟩
 have dG:=Aa Qy
 clear Qy
 have p1:=Q1.out.call Bi La
 obtain⟨e0,e1,e2,e3,e4,e5,e6,e7,e8,e9,e10,e11,e12,L7⟩:=BS p1.row2
 have z:=fun j=>p1.row2.frozen j
 have q2:=p1.set2 1 (.int .i64 v1)
 have Nx:=Dw q2.rd GG HT.out (kd:=Ar) (kr:=Ar) (by decide) (by decide) (by decide) (by decide)
 rw[Gi]at Nx
 have Vj:=Aa Nx
 have Q2:=Aa q2
 clear q2 Nx Bi La GG Gi p1
 unfold vs at*
 go_wp2_with fail
 clear e0 e1 e2 e3 e4 e5 e6 e7 e8 e9 e10 e11 e12 L7 z
 refine Vj.out.mono ?_
 rintro e w2 ⟨x9,rfl,A4,_,r2,LZ,Cp,Fp⟩
 have p2:=Q2.out.call A4 LZ
 obtain⟨e0,e1,e2,e3,e4,e5,e6,e7,e8,e9,e10,e11,e12,L7⟩:=BS p2.row2
 have z:=fun j=>p2.row2.frozen j
 obtain⟨f0,f1,f2,f3,f4,f5,f6,f7,f8,f9,UH,f11,UG,jP⟩:=BS p2.row
 have y:=fun j=>p2.row.frozen j
 have Cu:¬w.heap.size=w.heap.size+1:=by omega
 have q9:=p2.copy14 (vs Ew) (.int .i64 v1) (.int .i64 0) (.bool false) (vs []) (.int .i64 0) (vs []) (.int .i64 0) (vs []) (.int .i64 0) (.int .i64 0) (.slice none 0 0) (.slice none 0 0) (.bool false)
 have Q9:=Aa q9
 have zW17:=Aa Cp
 have FD:=Aa Fp
 clear p2 q9 A4 LZ Cp Fp
 unfold DB vs at*
 go_wp2
 refine Av (AG (cs:=[vs Ew,.int .i64 v1,.int .i64 0,.bool false,vs [],.int .i64 0,vs [],.int .i64 0,vs [],.int .i64 0,.int .i64 0,.slice none 0 0,.slice none 0 0,.bool false]) CY FO EL rfl Q9.out.row) rfl ?_
 refine⟨[vs Ew,.int .i64 v1,.int .i64 0,.bool false,vs [],.int .i64 0,vs [],.int .i64 0,vs [],.int .i64 0,.int .i64 0,.slice none 0 0,.slice none 0 0,.bool false],rfl,⟨_,_,_,_,_,_,_,_,_,_,_,_,_,_,_,_,_,_,rfl⟩,Q9.out.kg,fun x9 Fm e hw=>?_,r2,Q9.out.rd,?_,FD.out⟩
 ·obtain⟨q,st1,u1,u2⟩:=AA e
  obtain⟨t9,AP,u3,u4⟩:=AA u2
  injection u4 with u4 u5
  subst u4 u5
  have Qx:st1.wrong=none:=by rw[(Bw u3).2.2]at hw;exact hw
  rw[dG.out q st1 u1 Qx]
  exact⟨[],by simp[G9,ES,Mq,Ms,FK,Ge,Bx],rfl⟩
 ·refine zW17.out.of_unit ?_
  show BM ((name s false (next s st)).bind _)=BM (BC s Ar (name s false (next s st)))
  cases name s false (next s st)with
  |bad e p=>rfl
  |ok q st1=>
   show BM ((want s Ar st1).bind _)=BM (want s Ar st1)
   cases want s Ar st1<;>rfl
theorem YJ (h:FQ w g gp tl ts pc r) (hs:AB s r st) (ht:DD ts (toks s)) (hk:st.t.kind=CN):
  Calls Tryz.prog 128 #[.pointer (some ⟨g,0,none⟩)] w (MC w g gp tl ts pc s r.decls ((name s false (next s st)).bind fun q st=>(name s false st).bind fun p st=>(want s Ar (take s BN st).2).bind fun _ st_=>.ok (.prim (.shift q p (take s BN st).1) .nil) st_)):=by
 obtain⟨x,hx,IM⟩:=AB.tok hs ht
 obtain⟨gt,ct,rfl,h1,h2,h3,h4,h5,t0,t1,t2⟩:=h.at_ hx
 have Nf:x.is=CN:=by rw[IM.1,hk];decide
 rw[Nf]at t0
 obtain⟨c0,c1,_⟩:=h.cells
 have Cy:=h.row.lt
 have ff:=fun j=>h.row.frozen j
 have h8:=h.tl
 have Jj:r.k<ts.length:=h3
 unfold maxLen at h2
 have Nh:Kg g w (w.setCell ⟨g,1,none⟩ (.int .i64 ((r.k:Int)+1))):=(Af.refl _ w).setCell (p:=⟨g,1,none⟩) (.inl rfl) _
 have q1:=(Lu.start_ (D:=w.heap.size+1) (RH.start_ (C:=w.heap.size) (ty:=212) Nh (h.put 1 (.int .i64 ((r.k:Int)+1)) (r':=r.nx) rfl rfl) (by decide) F8 (by simp)) [vs CN,.int .i64 0,.int .i64 0,.bool false,vs [],.int .i64 0,vs [],.int .i64 0,vs [],.int .i64 0,.int .i64 0,.slice none 0 0,.slice none 0 0,.bool false] (by simp)).drewN 1
 have FF:Bs s r.nx (AJ.ok () (next s st)):=AB.next hs (by rw[hk];decide) (by rw[hk];decide)
 have G7:(next s st).Ok s:=BF (AB.ok hs)
 have HT:=Aa ht
 have IL:=Aa G7
 have Nk:=D5 q1.rd FF HT.out false
 have Td:=Aa Nk
 have Q1:=Aa q1
 generalize Gh:r.k=kq at*
 generalize QG:ts.length=LL at*
 clear hx IM hs FF G7 Nf hk Gh QG h q1 Nk ht t1 t2 Nh
 unfold vs at*
 go_enter EW,Ej
 go_wp2
 go_region
 go_wp2_with fail
 refine Td.out.mono ?_
 rintro e w1 ⟨v1,rfl,Bi,Qy,r1,La,GG,Gi⟩
 have dG:=Aa Qy
 clear Qy
 have p1:=Q1.out.call Bi La
 obtain⟨e0,e1,e2,e3,e4,e5,e6,e7,e8,e9,e10,e11,e12,L7⟩:=BS p1.row2
 have z:=fun j=>p1.row2.frozen j
 have q2:=p1.set2 1 (.int .i64 v1)
 have Nx:=D5 q2.rd GG HT.out false
 rw[Gi]at Nx
 have Vj:=Aa Nx
 have Q2:=Aa q2
 clear q2 Nx Bi La GG Gi p1
 unfold vs at*
 go_wp2_with fail
 clear e0 e1 e2 e3 e4 e5 e6 e7 e8 e9 e10 e11 e12 L7 z
 refine Vj.out.mono ?_
 rintro e w2 ⟨v2,rfl,A4,Uq,r2,LZ,Cp,Fp⟩
 have aG:=Aa Uq
 clear Uq
 have p2:=Q2.out.call A4 LZ
 obtain⟨e0,e1,e2,e3,e4,e5,e6,e7,e8,e9,e10,e11,e12,L7⟩:=BS p2.row2
 have z:=fun j=>p2.row2.frozen j
 have q3:=p2.set2 2 (.int .i64 v2)
 have Fp:=Fp
 have XX:=FI q3.rd Cp HT.out (kd:=BN) (kr:=BN) (by decide) (by decide) (by decide) (by decide)
 rw[Fp]at XX
 have pa:=Aa XX
 have Q3:=Aa q3
 clear q3 XX A4 LZ Cp Fp p2
 unfold vs at*
 go_wp2_with fail
 clear e0 e1 e2 e3 e4 e5 e6 e7 e8 e9 e10 e11 e12 L7 z
 refine pa.out.mono ?_
 rintro e w3 ⟨rfl,BY,r3,Vg,Fo,Gx⟩
 have p3:=Q3.out.call BY Vg
 obtain⟨e0,e1,e2,e3,e4,e5,e6,e7,e8,e9,e10,e11,e12,L7⟩:=BS p3.row2
 have z:=fun j=>p3.row2.frozen j
 have q4:=p3.set2 3 (.bool ((No s false (No s false (AJ.ok () (next s st)))).isB BN))
 have Gx:=Gx
 have VA:=Dw q4.rd Fo HT.out (kd:=Ar) (kr:=Ar) (by decide) (by decide) (by decide) (by decide)
 rw[Gx]at VA
 have xe:=Aa VA
 have Q4:=Aa q4
 clear q4 VA BY Vg Fo Gx p3
 unfold vs at*
 go_wp2_with fail
 clear e0 e1 e2 e3 e4 e5 e6 e7 e8 e9 e10 e11 e12 L7 z
 refine xe.out.mono ?_
 rintro e w4 ⟨x9,rfl,CU,_,r4,QH,J5,Fz⟩
 have p4:=Q4.out.call CU QH
 obtain⟨e0,e1,e2,e3,e4,e5,e6,e7,e8,e9,e10,e11,e12,L7⟩:=BS p4.row2
 have z:=fun j=>p4.row2.frozen j
 obtain⟨f0,f1,f2,f3,f4,f5,f6,f7,f8,f9,UH,f11,UG,jP⟩:=BS p4.row
 have y:=fun j=>p4.row.frozen j
 have Cu:¬w.heap.size=w.heap.size+1:=by omega
 have q9:=p4.copy14 (vs CN) (.int .i64 v1) (.int .i64 v2) (.bool ((No s false (No s false (AJ.ok () (next s st)))).isB BN)) (vs []) (.int .i64 0) (vs []) (.int .i64 0) (vs []) (.int .i64 0) (.int .i64 0) (.slice none 0 0) (.slice none 0 0) (.bool false)
 have Q9:=Aa q9
 have zW17:=Aa J5
 have FD:=Aa Fz
 clear p4 q9 CU QH J5 Fz
 unfold DB vs at*
 go_wp2
 refine Av (AG (cs:=[vs CN,.int .i64 v1,.int .i64 v2,.bool ((No s false (No s false (AJ.ok () (next s st)))).isB BN),vs [],.int .i64 0,vs [],.int .i64 0,vs [],.int .i64 0,.int .i64 0,.slice none 0 0,.slice none 0 0,.bool false]) CY FO EL rfl Q9.out.row) rfl ?_
 refine⟨[vs CN,.int .i64 v1,.int .i64 v2,.bool ((No s false (No s false (AJ.ok () (next s st)))).isB BN),vs [],.int .i64 0,vs [],.int .i64 0,vs [],.int .i64 0,.int .i64 0,.slice none 0 0,.slice none 0 0,.bool false],rfl,⟨_,_,_,_,_,_,_,_,_,_,_,_,_,_,_,_,_,_,rfl⟩,Q9.out.kg,fun x9 Fm e hw=>?_,r4,Q9.out.rd,?_,FD.out⟩
 ·obtain⟨q,st1,u1,u2⟩:=AA e
  obtain⟨q2,AP,u3,u4⟩:=AA u2
  obtain⟨t9,Cb,u5,u6⟩:=AA u4
  injection u6 with u6 u7
  subst u6 u7
  have Xh:AP.wrong=none:=by rw[(Bw u5).2.2]at hw;exact(TJ s BN AP).symm.trans hw
  have Adk:=(Eo IL.out u1).1.ok
  have Qx:st1.wrong=none:=(Eo Adk u3).1.wrong Xh
  have e1:No s false (AJ.ok () (next s st))= .ok q st1:=u1
  have e2:No s false (No s false (AJ.ok () (next s st)))= .ok q2 AP:=by rw[e1];exact u3
  rw[dG.out q st1 u1 Qx,aG.out q2 AP e2 Xh,Yu s BN q2 AP,e2]
  exact⟨[],by simp[G9,ES,Mq,Ms,FK,Ge,Bx],rfl⟩
 ·refine zW17.out.of_unit ?_
  show BM ((name s false (next s st)).bind _)=BM (BC s Ar (DR s BN (No s false (name s false (next s st)))))
  cases name s false (next s st)with
  |bad e p=>rfl
  |ok q st1=>
   show BM ((name s false st1).bind _)=BM (BC s Ar (DR s BN (name s false st1)))
   cases name s false st1 with
   |bad e p=>rfl
   |ok q2 AP=>
    show BM ((want s Ar (take s BN AP).2).bind _)=BM (want s Ar (take s BN AP).2)
    cases want s Ar (take s BN AP).2<;>rfl
theorem gG (h:FQ w g gp tl ts pc r) (hs:AB s r st) (ht:DD ts (toks s)) (hk:st.t.kind=Ia):
  Calls Tryz.prog 128 #[.pointer (some ⟨g,0,none⟩)] w (MC w g gp tl ts pc s r.decls ((name s true (next s st)).bind fun q st=>(want s Ar st).bind fun _ st_=>.ok (.prim (.inc q) .nil) st_)):=by
 obtain⟨x,hx,IM⟩:=AB.tok hs ht
 obtain⟨gt,ct,rfl,h1,h2,h3,h4,h5,t0,t1,t2⟩:=h.at_ hx
 have Nf:x.is=Ia:=by rw[IM.1,hk];decide
 rw[Nf]at t0
 obtain⟨c0,c1,_⟩:=h.cells
 have Cy:=h.row.lt
 have ff:=fun j=>h.row.frozen j
 have h8:=h.tl
 have Jj:r.k<ts.length:=h3
 unfold maxLen at h2
 have Nh:Kg g w (w.setCell ⟨g,1,none⟩ (.int .i64 ((r.k:Int)+1))):=(Af.refl _ w).setCell (p:=⟨g,1,none⟩) (.inl rfl) _
 have q1:=(Lu.start_ (D:=w.heap.size+1) (RH.start_ (C:=w.heap.size) (ty:=212) Nh (h.put 1 (.int .i64 ((r.k:Int)+1)) (r':=r.nx) rfl rfl) (by decide) F8 (by simp)) [vs Ia,.int .i64 0,.int .i64 0,.bool false,vs [],.int .i64 0,vs [],.int .i64 0,vs [],.int .i64 0,.int .i64 0,.slice none 0 0,.slice none 0 0,.bool false] (by simp)).drewN 1
 have FF:Bs s r.nx (AJ.ok () (next s st)):=AB.next hs (by rw[hk];decide) (by rw[hk];decide)
 have G7:(next s st).Ok s:=BF (AB.ok hs)
 have HT:=Aa ht
 have IL:=Aa G7
 have Nk:=D5 q1.rd FF HT.out true
 have Td:=Aa Nk
 have Q1:=Aa q1
 generalize Gh:r.k=kq at*
 generalize QG:ts.length=LL at*
 clear hx IM hs FF G7 Nf hk Gh QG h q1 Nk ht t1 t2 Nh
 unfold vs at*
 go_enter EW,Ej
 go_wp2
 go_region
 go_wp2_with fail
 refine Td.out.mono ?_
 rintro e w1 ⟨v1,rfl,Bi,Qy,r1,La,GG,Gi⟩
 have dG:=Aa Qy
 clear Qy
 have p1:=Q1.out.call Bi La
 obtain⟨e0,e1,e2,e3,e4,e5,e6,e7,e8,e9,e10,e11,e12,L7⟩:=BS p1.row2
 have z:=fun j=>p1.row2.frozen j
 have q2:=p1.set2 1 (.int .i64 v1)
 have Nx:=Dw q2.rd GG HT.out (kd:=Ar) (kr:=Ar) (by decide) (by decide) (by decide) (by decide)
 rw[Gi]at Nx
 have Vj:=Aa Nx
 have Q2:=Aa q2
 clear q2 Nx Bi La GG Gi p1
 unfold vs at*
 go_wp2_with fail
 clear e0 e1 e2 e3 e4 e5 e6 e7 e8 e9 e10 e11 e12 L7 z
 refine Vj.out.mono ?_
 rintro e w2 ⟨x9,rfl,A4,_,r2,LZ,Cp,Fp⟩
 have p2:=Q2.out.call A4 LZ
 obtain⟨e0,e1,e2,e3,e4,e5,e6,e7,e8,e9,e10,e11,e12,L7⟩:=BS p2.row2
 have z:=fun j=>p2.row2.frozen j
 obtain⟨f0,f1,f2,f3,f4,f5,f6,f7,f8,f9,UH,f11,UG,jP⟩:=BS p2.row
 have y:=fun j=>p2.row.frozen j
 have Cu:¬w.heap.size=w.heap.size+1:=by omega
 have q9:=p2.copy14 (vs Ia) (.int .i64 v1) (.int .i64 0) (.bool false) (vs []) (.int .i64 0) (vs []) (.int .i64 0) (vs []) (.int .i64 0) (.int .i64 0) (.slice none 0 0) (.slice none 0 0) (.bool false)
 have Q9:=Aa q9
 have zW17:=Aa Cp
 have FD:=Aa Fp
 clear p2 q9 A4 LZ Cp Fp
 unfold DB vs at*
 go_wp2
 refine Av (AG (cs:=[vs Ia,.int .i64 v1,.int .i64 0,.bool false,vs [],.int .i64 0,vs [],.int .i64 0,vs [],.int .i64 0,.int .i64 0,.slice none 0 0,.slice none 0 0,.bool false]) CY FO EL rfl Q9.out.row) rfl ?_
 refine⟨[vs Ia,.int .i64 v1,.int .i64 0,.bool false,vs [],.int .i64 0,vs [],.int .i64 0,vs [],.int .i64 0,.int .i64 0,.slice none 0 0,.slice none 0 0,.bool false],rfl,⟨_,_,_,_,_,_,_,_,_,_,_,_,_,_,_,_,_,_,rfl⟩,Q9.out.kg,fun x9 Fm e hw=>?_,r2,Q9.out.rd,?_,FD.out⟩
 ·obtain⟨q,st1,u1,u2⟩:=AA e
  obtain⟨t9,AP,u3,u4⟩:=AA u2
  injection u4 with u4 u5
  subst u4 u5
  have Qx:st1.wrong=none:=by rw[(Bw u3).2.2]at hw;exact hw
  rw[dG.out q st1 u1 Qx]
  exact⟨[],by simp[G9,ES,Mq,Ms,FK,Ge,Bx],rfl⟩
 ·refine zW17.out.of_unit ?_
  show BM ((name s true (next s st)).bind _)=BM (BC s Ar (name s true (next s st)))
  cases name s true (next s st)with
  |bad e p=>rfl
  |ok q st1=>
   show BM ((want s Ar st1).bind _)=BM (want s Ar st1)
   cases want s Ar st1<;>rfl
theorem gH (h:FQ w g gp tl ts pc r) (hs:AB s r st) (ht:DD ts (toks s)) (hk:st.t.kind=Ib):
  Calls Tryz.prog 128 #[.pointer (some ⟨g,0,none⟩)] w (MC w g gp tl ts pc s r.decls ((name s true (next s st)).bind fun q st=>(want s Ar st).bind fun _ st_=>.ok (.prim (.dec q) .nil) st_)):=by
 obtain⟨x,hx,IM⟩:=AB.tok hs ht
 obtain⟨gt,ct,rfl,h1,h2,h3,h4,h5,t0,t1,t2⟩:=h.at_ hx
 have Nf:x.is=Ib:=by rw[IM.1,hk];decide
 rw[Nf]at t0
 obtain⟨c0,c1,_⟩:=h.cells
 have Cy:=h.row.lt
 have ff:=fun j=>h.row.frozen j
 have h8:=h.tl
 have Jj:r.k<ts.length:=h3
 unfold maxLen at h2
 have Nh:Kg g w (w.setCell ⟨g,1,none⟩ (.int .i64 ((r.k:Int)+1))):=(Af.refl _ w).setCell (p:=⟨g,1,none⟩) (.inl rfl) _
 have q1:=(Lu.start_ (D:=w.heap.size+1) (RH.start_ (C:=w.heap.size) (ty:=212) Nh (h.put 1 (.int .i64 ((r.k:Int)+1)) (r':=r.nx) rfl rfl) (by decide) F8 (by simp)) [vs Ib,.int .i64 0,.int .i64 0,.bool false,vs [],.int .i64 0,vs [],.int .i64 0,vs [],.int .i64 0,.int .i64 0,.slice none 0 0,.slice none 0 0,.bool false] (by simp)).drewN 1
 have FF:Bs s r.nx (AJ.ok () (next s st)):=AB.next hs (by rw[hk];decide) (by rw[hk];decide)
 have G7:(next s st).Ok s:=BF (AB.ok hs)
 have HT:=Aa ht
 have IL:=Aa G7
 have Nk:=D5 q1.rd FF HT.out true
 have Td:=Aa Nk
 have Q1:=Aa q1
 generalize Gh:r.k=kq at*
 generalize QG:ts.length=LL at*
 clear hx IM hs FF G7 Nf hk Gh QG h q1 Nk ht t1 t2 Nh
 unfold vs at*
 go_enter EW,Ej
 go_wp2
 go_region
 go_wp2_with fail
 refine Td.out.mono ?_
 rintro e w1 ⟨v1,rfl,Bi,Qy,r1,La,GG,Gi⟩
 have dG:=Aa Qy
 clear Qy
 have p1:=Q1.out.call Bi La
 obtain⟨e0,e1,e2,e3,e4,e5,e6,e7,e8,e9,e10,e11,e12,L7⟩:=BS p1.row2
 have z:=fun j=>p1.row2.frozen j
 have q2:=p1.set2 1 (.int .i64 v1)
 have Nx:=Dw q2.rd GG HT.out (kd:=Ar) (kr:=Ar) (by decide) (by decide) (by decide) (by decide)
 rw[Gi]at Nx
 have Vj:=Aa Nx
 have Q2:=Aa q2
 clear q2 Nx Bi La GG Gi p1
 unfold vs at*
 go_wp2_with fail
 clear e0 e1 e2 e3 e4 e5 e6 e7 e8 e9 e10 e11 e12 L7 z
 refine Vj.out.mono ?_
 rintro e w2 ⟨x9,rfl,A4,_,r2,LZ,Cp,Fp⟩
 have p2:=Q2.out.call A4 LZ
 obtain⟨e0,e1,e2,e3,e4,e5,e6,e7,e8,e9,e10,e11,e12,L7⟩:=BS p2.row2
 have z:=fun j=>p2.row2.frozen j
 obtain⟨f0,f1,f2,f3,f4,f5,f6,f7,f8,f9,UH,f11,UG,jP⟩:=BS p2.row
 have y:=fun j=>p2.row.frozen j
 have Cu:¬w.heap.size=w.heap.size+1:=by omega
 have q9:=p2.copy14 (vs Ib) (.int .i64 v1) (.int .i64 0) (.bool false) (vs []) (.int .i64 0) (vs []) (.int .i64 0) (vs []) (.int .i64 0) (.int .i64 0) (.slice none 0 0) (.slice none 0 0) (.bool false)
 have Q9:=Aa q9
 have zW17:=Aa Cp
 have FD:=Aa Fp
 clear p2 q9 A4 LZ Cp Fp
 unfold DB vs at*
 go_wp2
 refine Av (AG (cs:=[vs Ib,.int .i64 v1,.int .i64 0,.bool false,vs [],.int .i64 0,vs [],.int .i64 0,vs [],.int .i64 0,.int .i64 0,.slice none 0 0,.slice none 0 0,.bool false]) CY FO EL rfl Q9.out.row) rfl ?_
 refine⟨[vs Ib,.int .i64 v1,.int .i64 0,.bool false,vs [],.int .i64 0,vs [],.int .i64 0,vs [],.int .i64 0,.int .i64 0,.slice none 0 0,.slice none 0 0,.bool false],rfl,⟨_,_,_,_,_,_,_,_,_,_,_,_,_,_,_,_,_,_,rfl⟩,Q9.out.kg,fun x9 Fm e hw=>?_,r2,Q9.out.rd,?_,FD.out⟩
 ·obtain⟨q,st1,u1,u2⟩:=AA e
  obtain⟨t9,AP,u3,u4⟩:=AA u2
  injection u4 with u4 u5
  subst u4 u5
  have Qx:st1.wrong=none:=by rw[(Bw u3).2.2]at hw;exact hw
  rw[dG.out q st1 u1 Qx]
  exact⟨[],by simp[G9,ES,Mq,Ms,FK,Ge,Bx],rfl⟩
 ·refine zW17.out.of_unit ?_
  show BM ((name s true (next s st)).bind _)=BM (BC s Ar (name s true (next s st)))
  cases name s true (next s st)with
  |bad e p=>rfl
  |ok q st1=>
   show BM ((want s Ar st1).bind _)=BM (want s Ar st1)
   cases want s Ar st1<;>rfl
theorem bh (h:FQ w g gp tl ts pc r) (hs:AB s r st) (ht:DD ts (toks s)) (hk:st.t.kind=EJ):
  Calls Tryz.prog 128 #[.pointer (some ⟨g,0,none⟩)] w (MC w g gp tl ts pc s r.decls ((want s Ar (next s st)).bind fun _ st_=>.ok (.prim .drop .nil) st_)):=by
 obtain⟨x,hx,IM⟩:=AB.tok hs ht
 obtain⟨gt,ct,rfl,h1,h2,h3,h4,h5,t0,t1,t2⟩:=h.at_ hx
 have Nf:x.is=EJ:=by rw[IM.1,hk];decide
 rw[Nf]at t0
 obtain⟨c0,c1,_⟩:=h.cells
 have Cy:=h.row.lt
 have ff:=fun j=>h.row.frozen j
 have h8:=h.tl
 have Jj:r.k<ts.length:=h3
 unfold maxLen at h2
 have Nh:Kg g w (w.setCell ⟨g,1,none⟩ (.int .i64 ((r.k:Int)+1))):=(Af.refl _ w).setCell (p:=⟨g,1,none⟩) (.inl rfl) _
 have q1:=(Lu.start_ (D:=w.heap.size+1) (RH.start_ (C:=w.heap.size) (ty:=212) Nh (h.put 1 (.int .i64 ((r.k:Int)+1)) (r':=r.nx) rfl rfl) (by decide) F8 (by simp)) [vs EJ,.int .i64 0,.int .i64 0,.bool false,vs [],.int .i64 0,vs [],.int .i64 0,vs [],.int .i64 0,.int .i64 0,.slice none 0 0,.slice none 0 0,.bool false] (by simp)).drewN 1
 have FF:Bs s r.nx (AJ.ok () (next s st)):=AB.next hs (by rw[hk];decide) (by rw[hk];decide)
 have G7:(next s st).Ok s:=BF (AB.ok hs)
 have HT:=Aa ht
 have IL:=Aa G7
 have Nk:=Dw q1.rd FF HT.out (kd:=Ar) (kr:=Ar) (by decide) (by decide) (by decide) (by decide)
 have Td:=Aa Nk
 have Q1:=Aa q1
 generalize Gh:r.k=kq at*
 generalize QG:ts.length=LL at*
 clear hx IM hs FF G7 Nf hk Gh QG h q1 Nk ht t1 t2 Nh
 unfold vs at*
 go_enter EW,Ej
 go_wp2
 go_region
 go_wp2_with fail
 refine Td.out.mono ?_
 rintro e w1 ⟨x9,rfl,Bi,_,r1,La,GG,Gi⟩
 have p1:=Q1.out.call Bi La
 obtain⟨e0,e1,e2,e3,e4,e5,e6,e7,e8,e9,e10,e11,e12,L7⟩:=BS p1.row2
 have z:=fun j=>p1.row2.frozen j
 obtain⟨f0,f1,f2,f3,f4,f5,f6,f7,f8,f9,UH,f11,UG,jP⟩:=BS p1.row
 have y:=fun j=>p1.row.frozen j
 have Cu:¬w.heap.size=w.heap.size+1:=by omega
 have q9:=p1.copy14 (vs EJ) (.int .i64 0) (.int .i64 0) (.bool false) (vs []) (.int .i64 0) (vs []) (.int .i64 0) (vs []) (.int .i64 0) (.int .i64 0) (.slice none 0 0) (.slice none 0 0) (.bool false)
 have Q9:=Aa q9
 have zW17:=Aa GG
 have FD:=Aa Gi
 clear p1 q9 Bi La GG Gi
 unfold DB vs at*
 go_wp2
 refine Av (AG (cs:=[vs EJ,.int .i64 0,.int .i64 0,.bool false,vs [],.int .i64 0,vs [],.int .i64 0,vs [],.int .i64 0,.int .i64 0,.slice none 0 0,.slice none 0 0,.bool false]) CY FO EL rfl Q9.out.row) rfl ?_
 refine⟨[vs EJ,.int .i64 0,.int .i64 0,.bool false,vs [],.int .i64 0,vs [],.int .i64 0,vs [],.int .i64 0,.int .i64 0,.slice none 0 0,.slice none 0 0,.bool false],rfl,⟨_,_,_,_,_,_,_,_,_,_,_,_,_,_,_,_,_,_,rfl⟩,Q9.out.kg,fun x9 Fm e hw=>?_,r1,Q9.out.rd,?_,FD.out⟩
 ·obtain⟨t9,AP,u3,u4⟩:=AA e
  injection u4 with u4 u5
  subst u4 u5
  exact⟨[],by simp[G9,ES,Mq,Ms,FK,Ge,Bx],rfl⟩
 ·refine zW17.out.of_unit ?_
  show BM ((want s Ar (next s st)).bind _)=BM (want s Ar (next s st))
  cases want s Ar (next s st)<;>rfl
theorem bj (h:FQ w g gp tl ts pc r) (hs:AB s r st) (ht:DD ts (toks s)) (hk:st.t.kind=EK):
  Calls Tryz.prog 128 #[.pointer (some ⟨g,0,none⟩)] w (MC w g gp tl ts pc s r.decls ((want s Ar (next s st)).bind fun _ st_=>.ok (.prim .bump .nil) st_)):=by
 obtain⟨x,hx,IM⟩:=AB.tok hs ht
 obtain⟨gt,ct,rfl,h1,h2,h3,h4,h5,t0,t1,t2⟩:=h.at_ hx
 have Nf:x.is=EK:=by rw[IM.1,hk];decide
 rw[Nf]at t0
 obtain⟨c0,c1,_⟩:=h.cells
 have Cy:=h.row.lt
 have ff:=fun j=>h.row.frozen j
 have h8:=h.tl
 have Jj:r.k<ts.length:=h3
 unfold maxLen at h2
 have Nh:Kg g w (w.setCell ⟨g,1,none⟩ (.int .i64 ((r.k:Int)+1))):=(Af.refl _ w).setCell (p:=⟨g,1,none⟩) (.inl rfl) _
 have q1:=(Lu.start_ (D:=w.heap.size+1) (RH.start_ (C:=w.heap.size) (ty:=212) Nh (h.put 1 (.int .i64 ((r.k:Int)+1)) (r':=r.nx) rfl rfl) (by decide) F8 (by simp)) [vs EK,.int .i64 0,.int .i64 0,.bool false,vs [],.int .i64 0,vs [],.int .i64 0,vs [],.int .i64 0,.int .i64 0,.slice none 0 0,.slice none 0 0,.bool false] (by simp)).drewN 1
 have FF:Bs s r.nx (AJ.ok () (next s st)):=AB.next hs (by rw[hk];decide) (by rw[hk];decide)
 have G7:(next s st).Ok s:=BF (AB.ok hs)
 have HT:=Aa ht
 have IL:=Aa G7
 have Nk:=Dw q1.rd FF HT.out (kd:=Ar) (kr:=Ar) (by decide) (by decide) (by decide) (by decide)
 have Td:=Aa Nk
 have Q1:=Aa q1
 generalize Gh:r.k=kq at*
 generalize QG:ts.length=LL at*
 clear hx IM hs FF G7 Nf hk Gh QG h q1 Nk ht t1 t2 Nh
 unfold vs at*
 go_enter EW,Ej
 go_wp2
 go_region
 go_wp2_with fail
 refine Td.out.mono ?_
 rintro e w1 ⟨x9,rfl,Bi,_,r1,La,GG,Gi⟩
 have p1:=Q1.out.call Bi La
 obtain⟨e0,e1,e2,e3,e4,e5,e6,e7,e8,e9,e10,e11,e12,L7⟩:=BS p1.row2
 have z:=fun j=>p1.row2.frozen j
 obtain⟨f0,f1,f2,f3,f4,f5,f6,f7,f8,f9,UH,f11,UG,jP⟩:=BS p1.row
 have y:=fun j=>p1.row.frozen j
 have Cu:¬w.heap.size=w.heap.size+1:=by omega
 have q9:=p1.copy14 (vs EK) (.int .i64 0) (.int .i64 0) (.bool false) (vs []) (.int .i64 0) (vs []) (.int .i64 0) (vs []) (.int .i64 0) (.int .i64 0) (.slice none 0 0) (.slice none 0 0) (.bool false)
 have Q9:=Aa q9
 have zW17:=Aa GG
 have FD:=Aa Gi
 clear p1 q9 Bi La GG Gi
 unfold DB vs at*
 go_wp2
 refine Av (AG (cs:=[vs EK,.int .i64 0,.int .i64 0,.bool false,vs [],.int .i64 0,vs [],.int .i64 0,vs [],.int .i64 0,.int .i64 0,.slice none 0 0,.slice none 0 0,.bool false]) CY FO EL rfl Q9.out.row) rfl ?_
 refine⟨[vs EK,.int .i64 0,.int .i64 0,.bool false,vs [],.int .i64 0,vs [],.int .i64 0,vs [],.int .i64 0,.int .i64 0,.slice none 0 0,.slice none 0 0,.bool false],rfl,⟨_,_,_,_,_,_,_,_,_,_,_,_,_,_,_,_,_,_,rfl⟩,Q9.out.kg,fun x9 Fm e hw=>?_,r1,Q9.out.rd,?_,FD.out⟩
 ·obtain⟨t9,AP,u3,u4⟩:=AA e
  injection u4 with u4 u5
  subst u4 u5
  exact⟨[],by simp[G9,ES,Mq,Ms,FK,Ge,Bx],rfl⟩
 ·refine zW17.out.of_unit ?_
  show BM ((want s Ar (next s st)).bind _)=BM (want s Ar (next s st))
  cases want s Ar (next s st)<;>rfl
end
structure RP (B:Nat) (w:World) (g gp:Nat) (tl:Value) (ts:List CB) (f:Int) (vr vh vm:Value) (ms:Bool) (r:Ff) (vd:Value):Prop where
 rd:FQ w g gp tl ts [vd,.int .i64 f,vr,vh,vm,.bool ms] r
 g0:B≤g
 p0:B≤gp
 sl:Sl (fun b=>B≤b) w 130 3 vd r.decls.length (r.decls.flatMap FL)
 sz:B≤w.heap.size
section
variable {B:Nat} {w w':World} {g gp:Nat} {tl:Value} {ts:List CB} {f:Int} {vr vh vm:Value} {ms:Bool} {r r':Ff} {vd:Value} {s:Ae} {st:PS}
theorem RP.call (h:RP B w g gp tl ts f vr vh vm ms r vd) (hk:Kg g w w') (hr:FQ w' g gp tl ts [vd,.int .i64 f,vr,vh,vm,.bool ms] r') (hd:r'.decls=r.decls):RP B w' g gp tl ts f vr vh vm ms r' vd:=by
 refine⟨hr,h.g0,h.p0,?_,Ai h.sz hk.size⟩
 rw[hd]
 exact h.sl.kept hk (fun b hb hh=>hh.elim (fun e=>h.sl.ne_row h.rd.row (by decide) (e▸hb)) (fun e=>by have:=h.sl.lt hb;omega))
theorem Ul {B g:Nat} {w w':World} (hk:Kg g w w') (hg:B≤g) (hB:B≤w.heap.size):Af (fun b=>B≤b) w w':=hk.mono (fun b hb=>hb.elim (fun e=>e▸hg) (fun h=>Ai hB h))
def nS (B:Nat) (w:World) (g gp:Nat) (tl:Value) (ts:List CB) (s:Ae) (n:Nat) (o:AJ Unit) (e:Ending) (w':World):Prop:=
 e= .returned (.tuple #[])∧Af (fun b=>B≤b) w w'∧∃f' Nu r',RP B w' g gp tl ts f' Bx Bx Bx false r' Nu∧Bs s r' o∧(∀st',o= .ok () st'→f'=st'.freq)∧r'.decls.length≤n+1
abbrev Ff.fq (r:Ff):Ff:={r with k:=r.k+1,freqs:=r.freqs+1}
def zW16 (s:Ae) (st:PS):PS:={next s st with fseen:=true}
theorem AB.freq_ (h:AB s r st) (h1:st.t.kind≠DJ) (h2:st.t.kind≠Bu):AB s r.fq (zW16 s st):=by
 have hn:=h.next h1 h2
 exact⟨hn.pos.of rfl rfl,⟨hn.ok.i,hn.ok.pos,hn.ok.more,hn.ok.num,hn.ok.name⟩,hn.deep,hn.loops,hn.bad,hn.wrong,hn.decls,hn.freq,by have:=h.f0;show true=decide (0<r.freqs+1);simp;omega,by have:=h.f0;show 0≤r.freqs+1;omega,by have:=h.fk;show r.freqs+1≤((r.k+1:Nat):Int);omega⟩
def oR (s:Ae) (st:PS):PS:=if st.fseen then note CG st.t.pos (zW16 s st)else zW16 s st
theorem Xw (hk:st.t.kind=BX):decl s st=(number s 1 99 (oR s st)).bind fun n st=>(want s Ar {st with freq:=n}).bind fun _ st=>.ok () st:=by
 unfold decl
 simp only
 rw[Ak hk]
 have e:({(if(next s st).fseen then note CG st.t.pos (next s st)else next s st)with fseen:=true}:PS)=oR s st:=by
  unfold oR zW16
  show({(if st.fseen then note CG st.t.pos (next s st)else next s st)with fseen:=true}:PS)=_
  cases st.fseen with
  |false=>rfl
  |true=>
   show({note CG st.t.pos (next s st)with fseen:=true}:PS)=note CG st.t.pos {next s st with fseen:=true}
   unfold note
   cases hw:st.wrong with
   |none=>simp only[next,hw]
   |some x=>simp only[next,hw]
 rw[e]
def frF {α:Type} (o:AJ α) (n:Int):AJ Unit:=o.bind fun _ st=>.ok () {st with freq:=n}
theorem Bs.frF_ {α:Type} {o:AJ α} (h:Bs s r o) (n:Int):Bs s {r with freq:=n} (frF o n):=by
 cases o with
 |bad e p=>
  have h':DF s r e p:=h
  exact⟨h'.lt,h'.bad,h'.badAt,h'.ne,h'.fk⟩
 |ok a st=>
  have h':AB s r st:=h
  exact⟨h'.pos.of rfl rfl,⟨h'.ok.i,h'.ok.pos,h'.ok.more,h'.ok.num,h'.ok.name⟩,h'.deep,h'.loops,h'.bad,h'.wrong,h'.decls,rfl,h'.seen,h'.f0,h'.fk⟩
abbrev Ff.fr (r:Ff) (n:Int):Ff:={r with freq:=n}
theorem RP.setFreq (h:RP B w g gp tl ts f vr vh vm ms r vd) (n:Int):RP B (w.setCell ⟨gp,1,none⟩ (.int .i64 n)) g gp tl ts n vr vh vm ms (r.fr n) vd:=by
 have hk:Af (fun b=>b=gp) w (w.setCell ⟨gp,1,none⟩ (.int .i64 n)):=Af.one w ⟨gp,1,none⟩ _
 obtain⟨N,ht⟩:=h.rd.toks
 have vI:=h.rd.pol.ne_ h.rd.row (by decide)
 have Mh:=h.sl.kept hk (fun b hb e=>h.sl.ne_row h.rd.pol (by decide) (e▸hb))
 exact⟨⟨h.rd.row.far (fun e=>vI e.symm) _,⟨N,ht.kept hk (fun b hb e=>ht.ne_row h.rd.pol (by decide) (e▸hb))⟩,h.rd.tl,h.rd.pol.set_ 1 _,⟨_,vd,rfl,Mh⟩,h.rd.dl⟩,h.g0,h.p0,Mh,by simpa using h.sz⟩
theorem br (h:RP B w g gp tl ts f Bx Bx Bx false r vd) (hs:AB s r st) (ht:DD ts (toks s)) (hk:st.t.kind=BX) (LW:r.decls.length≤900):
  Calls Tryz.prog 52 #[.pointer (some ⟨g,0,none⟩)] w (nS B w g gp tl ts s r.decls.length (decl s st)):=by
 obtain⟨x,hx,IM⟩:=AB.tok hs ht
 obtain⟨gt,ct,rfl,h1,h2,h3,h4,h5,t0,t1,t2⟩:=h.rd.at_ hx
 have Nf:x.is=BX:=by rw[IM.1,hk];decide
 have hxp:x.pos=st.t.pos:=IM.2.1
 rw[Nf]at t0
 obtain⟨c0,c1,_,_,_,_,_,_,c8,c9⟩:=h.rd.cells
 have Cy:=h.rd.row.lt
 have ff:=fun j=>h.rd.row.frozen j
 have h8:=h.rd.tl
 have Jj:r.k<ts.length:=h3
 have jL:=hs.f0
 have hfk:=hs.fk
 have hsn:=hs.seen
 unfold maxLen at h2
 have FF:Bs s r.fq (AJ.ok () (zW16 s st)):=hs.freq_ (by rw[hk];decide) (by rw[hk];decide)
 have Bi:Kg g w (((w.setCell ⟨g,1,none⟩ (.int .i64 ((r.k:Int)+1))).setCell ⟨g,9,none⟩ (.int .i64 (r.freqs+1))).alloc (.cells #[vs BX,vs x.txt,.int .i64 x.pos] 127)).drew:=
  ((((Af.refl _ w).setCell (p:=⟨g,1,none⟩) (.inl rfl) _).setCell (p:=⟨g,9,none⟩) (.inl rfl) _).alloc (.inr (by simp)) _).drew
 have q1:=h.call (r':=r.fq) Bi ((((h.rd.put 1 (.int .i64 ((r.k:Int)+1)) (r':=r.nx) rfl rfl).put 9 (.int .i64 (r.freqs+1)) (r':=r.fq) rfl rfl).alloc (.cells #[vs BX,vs x.txt,.int .i64 x.pos] 127)).drewN 1) rfl
 have eM:=Hk (e:=CG) q1.rd FF (by decide) x.pos
 have A6:∀(W:World) (r2:Ff),Af (fun b=>B≤b) w W→RP B W g gp (.slice (some ⟨gt,0,none⟩) ts.length ct) ts f Bx Bx Bx false r2 vd→Bs s r2 (AJ.ok () (oR s st))→r2.decls=r.decls→True:=fun _ _ _ _ _ _=>trivial
 have HT:=Aa ht
 have Q1:=Aa q1
 have Lv:=Aa Bi
 have tS:=Aa eM
 have oX:=Aa FF
 have rU:=Aa (Xw (s:=s) hk)
 have HP:=Aa h
 have HXP:=Aa hxp
 have yj:=Aa hsn
 generalize Gh:r.k=kq at*
 generalize QG:ts.length=LL at*
 clear hx IM hs FF Nf hk Gh QG h q1 Bi ht eM A6 hxp hsn
 unfold vs at*
 go_enter Tryz.func52,Tryz.ntmps52
 go_wp2
 go_region
 go_upto_if 37 with fail
 go_cut [] (fun wx=>Kg g w wx∧∃r2,RP B wx g gp (.slice (some ⟨gt,0,none⟩) LL ct) ts f Bx Bx Bx false r2 vd∧Bs s r2 (AJ.ok () (oR s st))∧r2.decls=r.decls)
 case first=>
  by_cases Vz:0<r.freqs
  ·have e1:decide (1<r.freqs+1)=true:=by simp;omega
   have HSN:=Aa (show st.fseen=true by rw[yj.out];simpa using Vz)
   go_wp2_with fail
   refine tS.out.mono ?_
   rintro e w2 ⟨rfl,A4,r2,LZ,Cp,Fp⟩
   have F:=Aa (And.intro A4 (And.intro LZ (And.intro Cp Fp)))
   clear A4 LZ Cp Fp
   go_wp2
   go_meet
   obtain⟨f1,f2,f3,f4⟩:=F.out
   refine⟨Kg.trans Lv.out f1,r2,Q1.out.call f1 f2 f4,?_,f4⟩
   unfold oR
   rw[Ak HSN.out,←HXP.out]
   exact f3
  ·have e1:decide (1<r.freqs+1)=false:=by simp;omega
   have HSN:=Aa (show¬st.fseen=true by rw[yj.out];simpa using Vz)
   go_wp2
   go_meet
   refine⟨Lv.out,r.fq,Q1.out,?_,rfl⟩
   unfold oR
   rw[Ad HSN.out]
   exact oX.out
 case rest=>
  obtain⟨A4,r2,qJ,Cp,Fp⟩:=hcut
  clear c0 c1 c8 c9 t0 t1 t2 Q1 Lv tS oX
  have Kh:=JR (qJ.rd.drewN 1) Cp HT.out 1 99
  rw[Fp]at Kh
  obtain⟨_,_,_,_,_,_,_,_,c8,_⟩:=qJ.rd.cells
  have NC:=Aa Kh
  have fj:=Aa qJ
  have Ll:=Aa A4
  have XN:=Aa Fp
  clear Kh qJ Cp Fp A4
  go_wp2_with fail
  go_region_law (first|(go_simp;go_at_call 87;refine NC.out.mono ?_;rintro e w3 ⟨v,rfl,BY,hv,r3,Vg,Fo,Gx⟩;have p1:=Vg.pol.cell 1;have pf:=Vg.pol.frozen 1;have _I:=Vg.cells.2.2.2.2.2.2.2.2.1;have F3:=Aa (And.intro BY (And.intro hv (And.intro Vg (And.intro Fo Gx))));clear BY hv Vg Fo Gx;simp at p1))
  all_goals
   have hP3:=(fj.out.call ((Af.refl _ wc).drewN 1) (fj.out.rd.drewN 1) rfl).call F3.out.1 F3.out.2.2.1 (F3.out.2.2.2.2.trans XN.out.symm)
   have hP4:=hP3.setFreq v
   have CU:Af (fun b=>B≤b) w (w3.setCell ⟨gp,1,none⟩ (.int .i64 v)):=((Ul Ll.out HP.out.g0 HP.out.sz).trans (Ul ((Af.refl _ wc).drewN 1) fj.out.g0 fj.out.sz)).trans ((Ul F3.out.1 fj.out.g0 fj.out.sz).trans ((Af.one w3 ⟨gp,1,none⟩ _).mono (fun b hb=>hb▸fj.out.p0)))
   have hsF:=F3.out.2.2.2.1.frF_ v
   have IZ:=Dw hP4.rd hsF HT.out (kd:=Ar) (kr:=Ar) (by decide) (by decide) (by decide) (by decide)
   have hdd:(r3.fr v).decls=r.decls:=F3.out.2.2.2.2
   rw[hdd]at IZ
   have hv:=F3.out.2.1
   have Tv:=Aa IZ
   have ye:=Aa hP4
   have Rq:=Aa CU
   have HV:=Aa hv
   have yk:=Aa hdd
   clear hP3 hP4 CU hsF IZ hv hdd p1 pf _I F3 c8 NC fj Ll XN
   unfold vs at*
   go_wp2_with fail
   refine Tv.out.mono ?_
   rintro e w5 ⟨x5,rfl,He,_,r5,mO,Mi,Rm⟩
   have F:=Aa (And.intro He (And.intro mO (And.intro Mi Rm)))
   clear He mO Mi Rm Tv
   unfold DB vs
   go_wp2
   go_end0
   obtain⟨f1,f2,f3,f4⟩:=F.out
   rw[rU.out]
   refine⟨rfl,Rq.out.trans (Ul f1 ye.out.g0 ye.out.sz),v,vd,r5,ye.out.call f1 f2 (f4.trans yk.out.symm),?_,?_,by rw[f4];omega⟩
   ·cases hn:number s 1 99 (oR s st)with
    |bad e p=>
     have e1:GY s 1 99 (AJ.ok () (oR s st))= .bad e p:=hn
     rw[e1]at f3
     exact f3
    |ok n AP=>
     have e1:GY s 1 99 (AJ.ok () (oR s st))= .ok n AP:=hn
     have ev:=HV.out n AP e1
     rw[e1]at f3
     show Bs s r5 ((want s Ar {AP with freq:=n}).bind _)
     have e2:BC s Ar (frF (AJ.ok n AP) v)=want s Ar {AP with freq:=v}:=rfl
     rw[e2,ev]at f3
     cases hw:want s Ar {AP with freq:=n}with
     |bad e p=>rw[hw]at f3;exact f3
     |ok t Cb=>rw[hw]at f3;exact f3
   ·intro st' e
    obtain⟨n,AP,e1,e2⟩:=AA e
    obtain⟨t,Cb,e3,e4⟩:=AA e2
    injection e4 with _ e4
    rw[←e4,(Bw e3).2.2]
    exact HV.out n AP e1
end
end Go.Proofs.YtemppijblfflgaaGreatDoor.Ev
