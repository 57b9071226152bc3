/- Parts of a proof that a law's walk returns true. Conditions: none. -/
import Derived.Test.YtemppijblfflgaaGreatDoorZa00
import Derived.Test.YtemppijblfflgaaGreatDoorZa01
import Derived.Test.YtemppijblfflgaaGreatDoorZa02
import Derived.Test.YtemppijblfflgaaGreatDoorZa06
import Derived.Test.YtemppijblfflgaaGreatDoorZa07
set_option linter.all false
set_option maxRecDepth 100000
set_option maxHeartbeats 8000000
namespace Go.Proofs.YtemppijblfflgaaGreatDoor.Ev
open Go Go.RowKit
section
variable {B:Nat} {ea:Nat→Addr} {w:World} {g gp bm:Nat} {vd wp:Value} {s:Ae} {st:PS}
theorem Dv.later {N:Nat→Prop} {w w':World} {v:Value} {b:AC} (h:Dv N w v b) (hk:Kg g w w') {cs:List Value} (hr:AM w g 172 cs):Dv N w' v b:=
 h.kept (fun k VG _ OF=>Hw hk OF.lt (OF.ne_ hr (by decide)))
theorem Dv.far {N:Nat→Prop} {w:World} {v:Value} {b:AC} (h:Dv N w v b) {C:Nat} (hC:¬N C) (i:Nat) (u:Value):Dv N (w.setCell ⟨C,i,none⟩ u) v b:=
 h.kept (fun k VG hk _=>(Af.one w ⟨C,i,none⟩ u).block k (fun(e:k=C)=>hC (e▸hk)))
theorem Dv.form_ {N:Nat→Prop} {w:World} {v:Value} {b:AC} (h:Dv N w v b):∃g n c,v= .slice (some ⟨g,0,none⟩) n c:=by
 obtain⟨cs,⟨_,g,c,hv⟩,_⟩:=h
 exact⟨g,_,c,hv⟩
theorem Dv.copied {N:Nat→Prop} {w:World} {v:Value} {b:AC} (h:Dv N w v b) {R:Nat} (hR:¬N R) (d0 d1 d2 d3 d4 d5 d6 d7 d8 d9 OW OV OU:Value):Dv N (copied w R d0 d1 d2 d3 d4 d5 d6 d7 d8 d9 OW OV OU) v b:=
 ((((((((((((h.far hR 0 d0).far hR 1 d1).far hR 2 d2).far hR 3 d3).far hR 4 d4).far hR 5 d5).far hR 6 d6).far hR 7 d7).far hR 8 d8).far hR 9 d9).far hR 10 OW).far hR 11 OV).far hR 12 OU
theorem fX (h:DG B ea w g gp bm vd wp s st) (h1:st.t.kind≠Hn) (h2:st.t.kind≠Db) (h3:st.t.kind≠Ew) (h4:st.t.kind≠CN) (h5:st.t.kind≠Ia) (h6:st.t.kind≠Ib) (h7:st.t.kind≠EJ)
  (h8:st.t.kind≠EK) (h9:st.t.kind≠Iw) (SZ:st.t.kind≠Bb):
  Calls Tryz.prog 139 #[.pointer (some ⟨g,0,none⟩)] w fun e w'=>Di B ea w g gp bm s (fail D1 st) (Jq w) e w':=by
 have hA:=h.alloc (.cells #[vs [],.int .i64 0,.int .i64 0,.bool false,vs [],.int .i64 0,vs [],.int .i64 0,vs [],.int .i64 0,.bool false,.slice none 0 0,.slice none 0 0] 258)
 obtain⟨_,_,c2,_⟩:=AV hA.row
 have cj:=hA.alloc (.cells #[vs st.t.kind,.int .i64 0,.int .i64 0,.bool false,vs [],.int .i64 0,vs [],.int .i64 0,vs [],.int .i64 0,.bool false,.slice none 0 0,.slice none 0 0] 258)
 have Ki:((w.alloc (.cells #[vs [],.int .i64 0,.int .i64 0,.bool false,vs [],.int .i64 0,vs [],.int .i64 0,vs [],.int .i64 0,.bool false,.slice none 0 0,.slice none 0 0] 258)).alloc
   (.cells #[vs st.t.kind,.int .i64 0,.int .i64 0,.bool false,vs [],.int .i64 0,vs [],.int .i64 0,vs [],.int .i64 0,.bool false,.slice none 0 0,.slice none 0 0] 258)).cell? ⟨6,0,none⟩=some (.iface 315 (.pointer (some (ea 2)))):=cj.env.err 2 (by omega) (by omega)
 have hf:=QK cj 2
 have hB:=h.env.size
 have hg:=h.g0
 have kg:Kg g w ((w.alloc (.cells #[vs [],.int .i64 0,.int .i64 0,.bool false,vs [],.int .i64 0,vs [],.int .i64 0,vs [],.int .i64 0,.bool false,.slice none 0 0,.slice none 0 0] 258)).alloc
   (.cells #[vs st.t.kind,.int .i64 0,.int .i64 0,.bool false,vs [],.int .i64 0,vs [],.int .i64 0,vs [],.int .i64 0,.bool false,.slice none 0 0,.slice none 0 0] 258)):=
  ((Af.refl _ w).alloc (.inr (Ab _)) _).alloc (.inr (by simp)) _
 have e1:(st.t.kind==Hn)=false:=by simpa using h1
 have e2:(st.t.kind==Db)=false:=by simpa using h2
 have e3:(st.t.kind==Ew)=false:=by simpa using h3
 have e4:(st.t.kind==CN)=false:=by simpa using h4
 have e5:(st.t.kind==Ia)=false:=by simpa using h5
 have e6:(st.t.kind==Ib)=false:=by simpa using h6
 have e7:(st.t.kind==EJ)=false:=by simpa using h7
 have e8:(st.t.kind==EK)=false:=by simpa using h8
 have e9:(st.t.kind==Iw)=false:=by simpa using h9
 have e10:(st.t.kind==Bb)=false:=by simpa using SZ
 have HF:=Aa hf
 have KG:=Aa kg
 clear hf hA cj kg h h1 h2 h3 h4 h5 h6 h7 h8 h9 SZ
 unfold vs Dn at*
 go_enter EV,Ei
 go_wp2_with fail
 refine HF.out.mono ?_
 rintro e w1 ho
 obtain⟨gf,rfl,hF⟩:=A9 hB hg KG.out ho
 go_wp2
 exact⟨rfl,gf,rfl,hF⟩
theorem ip {w0 w':World} {c:Da} {t e:AC} {o:Bool} {vt ve:Value} (h1:Dv (fun k=>w0.heap.size≤k) w' vt t) (h2:if o then Dv (fun k=>w0.heap.size≤k) w' ve e else ve=Bx∧e= .nil):
  Jq w0 w' (.ite c t o e .nil) (.agg (Le c vt ve).toArray):=by
 obtain⟨b0,n1,b2,n3,hv⟩:=Fl c.k
 have e0:Le c vt ve=[vs Iw,.int .i64 0,.int .i64 0,.bool false,vs (Cg c.k),.int .i64 (BT c.k),vs b0,.int .i64 n1,vs b2,.int .i64 n3,.bool (Dg c.nots),vt,ve]:=by unfold Le By;rw[hv];rfl
 obtain⟨g1,n1',c1,Qy⟩:=h1.form_
 have Vt:∃a n c,ve= .slice a n c:=by
  cases o with
  |true=>obtain⟨g2,n2,c2,h⟩:=Dv.form_ h2;exact⟨_,_,_,h⟩
  |false=>exact⟨_,_,_,h2.1⟩
 obtain⟨a2,n2',c2,Uq⟩:=Vt
 refine⟨Le c vt ve,rfl,rfl,⟨_,_,_,_,_,_,_,_,_,_,_,_,_,_,_,_,_,by rw[e0,Qy,Uq]⟩,⟨vt,ve,[],by simp,h1,?_,rfl⟩⟩
 exact h2
theorem gM {w0 w':World} {n:Int} {c:Da} {b:AC} {vt:Value} (h1:Dv (fun k=>w0.heap.size≤k) w' vt b):Jq w0 w' (.rep n c b .nil) (.agg (Iz n c vt).toArray):=by
 obtain⟨b0,n1,b2,n3,hv⟩:=Fl c.k
 have e0:Iz n c vt=[vs Bb,.int .i64 n,.int .i64 0,.bool false,vs (Cg c.k),.int .i64 (BT c.k),vs b0,.int .i64 n1,vs b2,.int .i64 n3,.bool (Dg c.nots),vt,Bx]:=by unfold Iz By;rw[hv];rfl
 obtain⟨g1,n1',c1,Qy⟩:=h1.form_
 exact⟨Iz n c vt,rfl,rfl,⟨_,_,_,_,_,_,_,_,_,_,_,_,_,_,_,_,_,by rw[e0,Qy];rfl⟩,⟨vt,[],by simp,h1,rfl⟩⟩
theorem l9 {w w5:World} {c:Da} {t e:AC} {gt nt ct:Nat} {ve:Value} {b0:Ae} {n1:Int} {b2:Ae} {n3:Int} {o:Bool}
  (hv:By c=[.string ⟨(Cg c.k).toArray⟩,.int .i64 (BT c.k),.string ⟨b0.toArray⟩,.int .i64 n1,.string ⟨b2.toArray⟩,.int .i64 n3,.bool (Dg c.nots)])
  (h1:Dv (fun k=>w.heap.size+2≤k) w5 (.slice (some ⟨gt,0,none⟩) nt ct) t) (h2:if o then Dv (fun k=>w.heap.size+2≤k) w5 ve e else ve=Bx∧e= .nil) (d0 d1 d2 d3 d4 d5 d6 d7 d8 d9 OW OV OU:Value):
  Jq w (copied w5 w.heap.size d0 d1 d2 d3 d4 d5 d6 d7 d8 d9 OW OV OU) (.ite c t o e .nil)
   (.agg #[.string ⟨Iw.toArray⟩,.int .i64 0,.int .i64 0,.bool false,.string ⟨(Cg c.k).toArray⟩,.int .i64 (BT c.k),.string ⟨b0.toArray⟩,.int .i64 n1,.string ⟨b2.toArray⟩,.int .i64 n3,.bool (Dg c.nots),.slice (some ⟨gt,0,none⟩) nt ct,ve]):=by
 have a1:Dv (fun k=>w.heap.size≤k) (copied w5 w.heap.size d0 d1 d2 d3 d4 d5 d6 d7 d8 d9 OW OV OU) (.slice (some ⟨gt,0,none⟩) nt ct) t:=(h1.copied (R:=w.heap.size) (by omega) d0 d1 d2 d3 d4 d5 d6 d7 d8 d9 OW OV OU).mono (fun k _ hk=>Ai (C2 _ 2) hk)
 have a2:if o then Dv (fun k=>w.heap.size≤k) (copied w5 w.heap.size d0 d1 d2 d3 d4 d5 d6 d7 d8 d9 OW OV OU) ve e else ve=Bx∧e= .nil:=by
  cases o with
  |true=>
   rw[Ak rfl]at h2 ⊢
   have a3:=Dv.copied h2 (R:=w.heap.size) (by omega) d0 d1 d2 d3 d4 d5 d6 d7 d8 d9 OW OV OU
   exact a3.mono (fun k _ hk=>Ai (C2 _ 2) hk)
  |false=>
   rw[Ad Bg]at h2 ⊢
   exact h2
 have hs:=ip a1 a2 (c:=c)
 unfold Le at hs
 rw[hv]at hs
 exact hs
theorem pH {w w5:World} {c:Da} {b:AC} {n:Int} {gt nt ct:Nat} {b0:Ae} {n1:Int} {b2:Ae} {n3:Int}
  (hv:By c=[.string ⟨(Cg c.k).toArray⟩,.int .i64 (BT c.k),.string ⟨b0.toArray⟩,.int .i64 n1,.string ⟨b2.toArray⟩,.int .i64 n3,.bool (Dg c.nots)])
  (h1:Dv (fun k=>w.heap.size+2≤k) w5 (.slice (some ⟨gt,0,none⟩) nt ct) b) (d0 d1 d2 d3 d4 d5 d6 d7 d8 d9 OW OV OU:Value):
  Jq w (copied w5 w.heap.size d0 d1 d2 d3 d4 d5 d6 d7 d8 d9 OW OV OU) (.rep n c b .nil)
   (.agg #[.string ⟨Bb.toArray⟩,.int .i64 n,.int .i64 0,.bool false,.string ⟨(Cg c.k).toArray⟩,.int .i64 (BT c.k),.string ⟨b0.toArray⟩,.int .i64 n1,.string ⟨b2.toArray⟩,.int .i64 n3,.bool (Dg c.nots),.slice (some ⟨gt,0,none⟩) nt ct,.slice none 0 0]):=by
 have a1:Dv (fun k=>w.heap.size≤k) (copied w5 w.heap.size d0 d1 d2 d3 d4 d5 d6 d7 d8 d9 OW OV OU) (.slice (some ⟨gt,0,none⟩) nt ct) b:=(h1.copied (R:=w.heap.size) (by omega) d0 d1 d2 d3 d4 d5 d6 d7 d8 d9 OW OV OU).mono (fun k _ hk=>Ai (C2 _ 2) hk)
 have hs:=gM (n:=n) a1 (c:=c)
 unfold Iz at hs
 rw[hv]at hs
 exact hs
theorem pt (n:Nat) (OH:U8 B ea g gp bm s n) (h:DG B ea w g gp bm vd wp s st) (ok:st.Ok s) (hd:st.depth≤8) (hl:st.loops≤2) (hn:2*left s st+1≤n+1) (hk:st.t.kind=Iw):
  Calls Tryz.prog 139 #[.pointer (some ⟨g,0,none⟩)] w fun e w'=>Di B ea w g gp bm s
   ((cond s (n+1) (next s st)).bind fun c st=>(block s n st).bind fun t st=>
    if st.t.kind=BH then(block s n (next s st)).bind fun e st=>.ok (.ite c t true e .nil) st
    else .ok (.ite c t false .nil .nil) st) (Jq w) e w':=by
 have q0:=Fa.start h [vs Iw,.int .i64 0,.int .i64 0,.bool false,vs [],.int .i64 0,vs [],.int .i64 0,vs [],.int .i64 0,.bool false,.slice none 0 0,.slice none 0 0]
 have FF:=Dy q0.rd
 obtain⟨_,_,c2,_⟩:=AV (h.alloc (.cells #[vs [],.int .i64 0,.int .i64 0,.bool false,vs [],.int .i64 0,vs [],.int .i64 0,vs [],.int .i64 0,.bool false,.slice none 0 0,.slice none 0 0] 258)).row
 have hB:=h.env.size
 have hg:=h.g0
 have J6:=DY ok hk (by decide) (by decide)
 rw[hk]at c2
 have Q0:=Aa q0
 have HN:=Aa FF
 have IL:=Aa (BF ok)
 have jw:=Aa OH
 have PT:=Aa J6
 have dK:=Aa hn
 clear q0 FF h ok hk OH J6 hn
 unfold vs at*
 go_enter EV,Ei
 go_wp2_with fail
 refine HN.out.mono ?_
 rintro e w1 ⟨rfl,Bi,h1⟩
 have q1:=Q0.out.call Bi h1 rfl rfl rfl
 have hc:=UR (n+1) (next s st) _ _ _ q1.rd IL.out (by have:=PT.out;have:=dK.out;omega)
 obtain⟨e0,e1,e2,e3,e4,e5,e6,e7,e8,e9,e10,e11,e12⟩:=Br q1.rowC
 have z:=fun j=>q1.rowC.frozen j
 have Q1:=Aa q1
 have HC:=Aa hc
 clear Bi h1 q1 hc
 unfold vs at*
 go_wp2_with fail
 refine HC.out.mono ?_
 rintro e w2 ho
 clear e0 e1 e2 e3 e4 e5 e6 e7 e8 e9 e10 e11 e12 z
 cases XT:cond s (n+1) (next s st)with
 |bad k pos=>
  rw[XT]at ho
  obtain⟨gf,rfl,hF⟩:=A9 hB hg Q1.out.kg ho
  have og:=Aa XT
  clear XT
  go_wp2
  refine⟨rfl,?_⟩
  rw[og.out]
  exact⟨gf,rfl,hF⟩
 |ok c st1=>
  rw[XT]at ho
  obtain⟨v,rfl,rfl,A4,oG,jA,h2⟩:=ho
  obtain⟨fw,lt,_⟩:=I8 IL.out XT
  obtain⟨b0,n1,b2,n3,hv⟩:=Fl c.k
  have ec:By c=[.string ⟨(Cg c.k).toArray⟩,.int .i64 (BT c.k),.string ⟨b0.toArray⟩,.int .i64 n1,.string ⟨b2.toArray⟩,.int .i64 n3,.bool (Dg c.nots)]:=by unfold By;rw[hv];rfl
  have p2:=Q1.out.call A4 h2 fw.decls fw.freq fw.rules
  obtain⟨e0,e1,e2,e3,e4,e5,e6,e7,e8,e9,e10,e11,e12⟩:=Br p2.rowC
  have z:=fun j=>p2.rowC.frozen j
  have q2:=((((((p2.setC 4 (.string ⟨(Cg c.k).toArray⟩)).setC 5 (.int .i64 (BT c.k))).setC 6 (.string ⟨b0.toArray⟩)).setC 7 (.int .i64 n1)).setC 8 (.string ⟨b2.toArray⟩)).setC 9 (.int .i64 n3)).setC 10 (.bool (Dg c.nots))
  have hb:=jw.out st1 _ _ _ q2.rd fw.ok (by have:=fw.depth;simp only[next]at this;omega) (by have:=fw.loops;simp only[next]at this;omega) (by have:=PT.out;have:=dK.out;omega)
  have og:=Aa XT
  have o6:=Aa fw
  have yi:=Aa lt
  have Q2:=Aa q2
  have HB:=Aa hb
  have EC:=Aa ec
  rw[ec]
  clear A4 h2 p2 q2 hb XT fw lt hv ec
  unfold vs at*
  go_wp2_with fail
  refine HB.out.mono ?_
  rintro e w3 ho
  clear e0 e1 e2 e3 e4 e5 e6 e7 e8 e9 e10 e11 e12 z
  cases uT:block s n st1 with
  |bad k pos=>
   rw[uT]at ho
   obtain⟨gf,rfl,hF⟩:=A9 hB hg Q2.out.kg ho
   have _Z:=Aa uT
   clear uT
   go_wp2
   refine⟨rfl,?_⟩
   rw[og.out]
   show Di _ _ _ _ _ _ _ ((block s n st1).bind _) _ _ _
   rw[_Z.out]
   exact⟨gf,rfl,hF⟩
  |ok t AP=>
   rw[uT]at ho
   obtain⟨vt,rfl,bP,BY,xt,jz,h3⟩:=ho
   have LX:=DP o6.out.ok (by have:=o6.out.depth;simp only[next]at this;omega) (by have:=o6.out.loops;simp only[next]at this;omega) uT
   have fw:=LX.1
   have OQ:=LX.2.2.2.2.2
   obtain⟨gt,nt,ct,rfl⟩:=bP.form_
   have p3:=Q2.out.call BY h3 fw.decls fw.freq fw.rules
   obtain⟨e0,e1,e2,e3,e4,e5,e6,e7,e8,e9,e10,e11,e12⟩:=Br p3.rowC
   have z:=fun j=>p3.rowC.frozen j
   have q3:=p3.setC 11 (.slice (some ⟨gt,0,none⟩) nt ct)
   have ht:=Gn q3.rd BH
   have JS:=Q2.out.kg.size
   have hCC:=Q2.out.rowC.lt
   have yM:Dv (fun k=>w.heap.size+2≤k) (w3.setCell ⟨w.heap.size+1,11,none⟩ (.slice (some ⟨gt,0,none⟩) nt ct)) (.slice (some ⟨gt,0,none⟩) nt ct) t:=
    (bP.far (by omega) 11 _).mono (fun k _ hk=>by omega)
   have zd:=fw.ok
   have Fp:AP.depth≤8:=by have h1:=o6.out.depth;have h2:=fw.depth;simp only[next]at h1;omega
   have Ik:AP.loops≤2:=by have h1:=o6.out.loops;have h2:=fw.loops;simp only[next]at h1;omega
   have _Z:=Aa uT
   have HVT:=Aa yM
   have Q3:=Aa q3
   have HT:=Aa ht
   have or:=Aa zd
   have HL3:=Aa OQ
   clear BY h3 p3 q3 ht uT bP yM LX fw OQ JS hCC zd
   unfold vs at*
   go_wp2_with fail
   refine HT.out.mono ?_
   rintro e w4 ⟨rfl,CU,h4⟩
   clear e0 e1 e2 e3 e4 e5 e6 e7 e8 e9 e10 e11 e12 z
   by_cases SY:AP.t.kind=BH
   ·rw[KH SY]at h4
    have q4:=Q3.out.call CU h4 rfl rfl rfl
    have hl4:=DY or.out SY (by decide) (by decide)
    have hb:=jw.out (next s AP) _ _ _ q4.rd (BF or.out) Fp Ik (by have:=PT.out;have:=dK.out;have:=yi.out;have:=HL3.out;omega)
    obtain⟨e0,e1,e2,e3,e4,e5,e6,e7,e8,e9,e10,e11,e12⟩:=Br q4.rowC
    have z:=fun j=>q4.rowC.frozen j
    have mg:=HVT.out.later CU Q3.out.row
    have Afx:=Aa mg
    have Q4:=Aa q4
    have HB4:=Aa hb
    have jv:=Aa SY
    have et:(take s BH AP).1=true:=by rw[KH SY]
    rw[et]
    clear CU h4 q4 hb mg SY hl4 et
    unfold vs at*
    go_wp2_with fail
    refine HB4.out.mono ?_
    rintro e w5 ho
    clear e0 e1 e2 e3 e4 e5 e6 e7 e8 e9 e10 e11 e12 z
    cases uV:block s n (next s AP)with
    |bad k pos=>
     rw[uV]at ho
     obtain⟨gf,rfl,hF⟩:=A9 hB hg Q4.out.kg ho
     have xY:=Aa uV
     clear uV
     go_wp2
     refine⟨rfl,?_⟩
     rw[og.out]
     show Di _ _ _ _ _ _ _ ((block s n st1).bind _) _ _ _
     rw[_Z.out]
     show Di _ _ _ _ _ _ _ (if AP.t.kind=BH then _ else _) _ _ _
     rw[Ak jv.out,xY.out]
     exact⟨gf,rfl,hF⟩
    |ok el Cb=>
     rw[uV]at ho
     obtain⟨ve,rfl,Vt,He,xo,ue,h5⟩:=ho
     have fw:=(DP (BF or.out) Fp Ik uV).1
     obtain⟨ge,ne,ce,rfl⟩:=Vt.form_
     have p5:=Q4.out.call He h5 fw.decls fw.freq fw.rules
     obtain⟨e0,e1,e2,e3,e4,e5,e6,e7,e8,e9,e10,e11,e12⟩:=Br p5.rowC
     obtain⟨f0,f1,f2,f3,f4,f5,f6,f7,f8,f9,UH,f11,UG⟩:=Br p5.rowR
     have z:=fun j=>p5.rowC.frozen j
     have y:=fun j=>p5.rowR.frozen j
     have q5:=p5.setC 12 (.slice (some ⟨ge,0,none⟩) ne ce)
     have q6:=q5.copy (.string ⟨Iw.toArray⟩) (.int .i64 0) (.int .i64 0) (.bool false) (.string ⟨(Cg c.k).toArray⟩) (.int .i64 (BT c.k)) (.string ⟨b0.toArray⟩) (.int .i64 n1) (.string ⟨b2.toArray⟩) (.int .i64 n3) (.bool (Dg c.nots)) (.slice (some ⟨gt,0,none⟩) nt ct) (.slice (some ⟨ge,0,none⟩) ne ce)
     have Ac4:=Q4.out.kg.size
     have mf:=Afx.out.later He Q4.out.row
     have Aen:=Q4.out.rowC.lt
     have yP:Dv (fun k=>w.heap.size+2≤k) w5 (.slice (some ⟨ge,0,none⟩) ne ce) el:=Vt.mono (fun k _ hk=>by omega)
     have xY:=Aa uV
     have Q6:=Aa q6
     have HVE:=Aa yP
     have wK:=Aa mf
     clear He h5 p5 q5 q6 uV Vt yP mf fw Ac4 Aen
     unfold vs at*
     go_wp2
     refine Av (AG (cs:=[.string ⟨Iw.toArray⟩,.int .i64 0,.int .i64 0,.bool false,.string ⟨(Cg c.k).toArray⟩,.int .i64 (BT c.k),.string ⟨b0.toArray⟩,.int .i64 n1,.string ⟨b2.toArray⟩,.int .i64 n3,.bool (Dg c.nots),.slice (some ⟨gt,0,none⟩) nt ct,.slice (some ⟨ge,0,none⟩) ne ce]) DV Je GS rfl Q6.out.rowR) rfl ?_
     rw[og.out]
     show Di _ _ _ _ _ _ _ ((block s n st1).bind _) _ _ _
     rw[_Z.out]
     show Di _ _ _ _ _ _ _ (if AP.t.kind=BH then _ else _) _ _ _
     rw[Ak jv.out,xY.out]
     exact⟨_,rfl,l9 (o:=true) (e:=el) (ve:=.slice (some ⟨ge,0,none⟩) ne ce) EC.out (wK.out.far (C:=w.heap.size+1) (by omega) 12 (.slice (some ⟨ge,0,none⟩) ne ce)) (by rw[Ak rfl];exact HVE.out.far (C:=w.heap.size+1) (by omega) 12 _) _ _ _ _ _ _ _ _ _ _ _ _ _,Q6.out.kg,_,_,Q6.out.rd⟩
   ·rw[Kb SY]at h4
    have p4:=Q3.out.call CU h4 rfl rfl rfl
    obtain⟨e0,e1,e2,e3,e4,e5,e6,e7,e8,e9,e10,e11,e12⟩:=Br p4.rowC
    obtain⟨f0,f1,f2,f3,f4,f5,f6,f7,f8,f9,UH,f11,UG⟩:=Br p4.rowR
    have z:=fun j=>p4.rowC.frozen j
    have y:=fun j=>p4.rowR.frozen j
    have q6:=p4.copy (.string ⟨Iw.toArray⟩) (.int .i64 0) (.int .i64 0) (.bool false) (.string ⟨(Cg c.k).toArray⟩) (.int .i64 (BT c.k)) (.string ⟨b0.toArray⟩) (.int .i64 n1) (.string ⟨b2.toArray⟩) (.int .i64 n3) (.bool (Dg c.nots)) (.slice (some ⟨gt,0,none⟩) nt ct) (.slice none 0 0)
    have mg:=HVT.out.later CU Q3.out.row
    have wK:=Aa mg
    have jv:=Aa SY
    have Q6:=Aa q6
    have et:(take s BH AP).1=false:=by rw[Kb SY]
    rw[et]
    clear CU h4 p4 q6 mg SY et
    unfold vs at*
    go_wp2
    refine Av (AG (cs:=[.string ⟨Iw.toArray⟩,.int .i64 0,.int .i64 0,.bool false,.string ⟨(Cg c.k).toArray⟩,.int .i64 (BT c.k),.string ⟨b0.toArray⟩,.int .i64 n1,.string ⟨b2.toArray⟩,.int .i64 n3,.bool (Dg c.nots),.slice (some ⟨gt,0,none⟩) nt ct,.slice none 0 0]) DV Je GS rfl Q6.out.rowR) rfl ?_
    rw[og.out]
    show Di _ _ _ _ _ _ _ ((block s n st1).bind _) _ _ _
    rw[_Z.out]
    show Di _ _ _ _ _ _ _ (if AP.t.kind=BH then _ else _) _ _ _
    rw[Ad jv.out]
    exact⟨_,rfl,l9 (o:=false) (e:=.nil) (ve:=.slice none 0 0) EC.out wK.out (by rw[Ad Bg];exact⟨rfl,rfl⟩) _ _ _ _ _ _ _ _ _ _ _ _ _,Q6.out.kg,_,_,Q6.out.rd⟩
theorem Fa.loops {w0:World} {OL:Value} {E5:PS} {R C:Nat} {cs ds:List Value} (h:Fa B ea g gp bm vd s E5 w0 OL st w wp R C cs ds) (n:Nat) {i:Int} (hi:i=n):
  Fa B ea g gp bm vd s E5 w0 OL {st with loops:=n} (w.setCell ⟨g,8,none⟩ (.int .i64 i)) wp R C cs ds:=h.call (Kg.cell g w 8 _) (h.rd.setLoops n hi) rfl rfl rfl
theorem Vm (h:DG B ea w g gp bm vd wp s st) (hk:st.t.kind=Bb) (h2:st.loops=2):
  Calls Tryz.prog 139 #[.pointer (some ⟨g,0,none⟩)] w fun e w'=>Di B ea w g gp bm s (fail QP st) (Jq w) e w':=by
 have q0:=Fa.start h [vs Bb,.int .i64 0,.int .i64 0,.bool false,vs [],.int .i64 0,vs [],.int .i64 0,vs [],.int .i64 0,.bool false,.slice none 0 0,.slice none 0 0]
 obtain⟨_,_,c2,_⟩:=AV (h.alloc (.cells #[vs [],.int .i64 0,.int .i64 0,.bool false,vs [],.int .i64 0,vs [],.int .i64 0,vs [],.int .i64 0,.bool false,.slice none 0 0,.slice none 0 0] 258)).row
 obtain⟨_,_,_,_,_,_,_,_,c8,_⟩:=AV q0.rd.row
 have Ki:=q0.rd.env.err 3 (by omega) (by omega)
 have hf:=QK q0.rd 3
 have hB:=h.env.size
 have hg:=h.g0
 rw[hk]at c2
 rw[h2]at c8
 rw[show Kx 3=7 from rfl]at Ki
 have HF:=Aa hf
 have Q0:=Aa q0
 clear hf q0 h hk h2
 unfold vs Dn at*
 go_enter EV,Ei
 go_wp2_with fail
 refine HF.out.mono ?_
 rintro e w1 ho
 obtain⟨gf,rfl,hF⟩:=A9 hB hg Q0.out.kg ho
 go_wp2
 exact⟨rfl,gf,rfl,hF⟩
theorem kJ (n:Nat) (OH:U8 B ea g gp bm s n) (h:DG B ea w g gp bm vd wp s st) (ok:st.Ok s) (hd:st.depth≤8) (hl:st.loops<2) (hn:2*left s st+1≤n+1) (hk:st.t.kind=Bb):
  Calls Tryz.prog 139 #[.pointer (some ⟨g,0,none⟩)] w fun e w'=>Di B ea w g gp bm s
   ((number s 1 50 (next s st)).bind fun k st=>(want s B9 st).bind fun _ st=>(cond s (n+1) st).bind fun c st=>
    (block s n {st with loops:=st.loops+1}).bind fun b st=>.ok (.rep k c b .nil) {st with loops:=st.loops-1}) (Jq w) e w':=by
 have q0:=Fa.start h [vs Bb,.int .i64 0,.int .i64 0,.bool false,vs [],.int .i64 0,vs [],.int .i64 0,vs [],.int .i64 0,.bool false,.slice none 0 0,.slice none 0 0]
 have FF:=Dy q0.rd
 obtain⟨_,_,c2,_⟩:=AV (h.alloc (.cells #[vs [],.int .i64 0,.int .i64 0,.bool false,vs [],.int .i64 0,vs [],.int .i64 0,vs [],.int .i64 0,.bool false,.slice none 0 0,.slice none 0 0] 258)).row
 obtain⟨_,_,_,_,_,_,_,_,c8,_⟩:=AV q0.rd.row
 have hB:=h.env.size
 have hg:=h.g0
 have J6:=DY ok hk (by decide) (by decide)
 rw[hk]at c2
 have b8:((st.loops:Int)==2)=false:=by simp;omega
 have b9:(st.loops:Int)<2:=by omega
 have b10:(0:Int)≤(st.loops:Int):=by omega
 have Q0:=Aa q0
 have HN:=Aa FF
 have IL:=Aa (BF ok)
 have jw:=Aa OH
 have PT:=Aa J6
 have dK:=Aa hn
 clear q0 FF h ok hk OH J6 hn
 unfold vs at*
 go_enter EV,Ei
 go_wp2_with fail
 refine HN.out.mono ?_
 rintro e w1 ⟨rfl,Bi,h1⟩
 have q1:=Q0.out.call Bi h1 rfl rfl rfl
 have hm:=Iu q1.rd IL.out 1 50
 obtain⟨e0,e1,e2,e3,e4,e5,e6,e7,e8,e9,e10,e11,e12⟩:=Br q1.rowC
 have z:=fun j=>q1.rowC.frozen j
 have Q1:=Aa q1
 have HM:=Aa hm
 clear Bi h1 q1 hm c8
 unfold vs at*
 go_wp2_with fail
 refine HM.out.mono ?_
 rintro e w2 ho
 clear e0 e1 e2 e3 e4 e5 e6 e7 e8 e9 e10 e11 e12 z
 cases uU:number s 1 50 (next s st)with
 |bad k pos=>
  rw[uU]at ho
  obtain⟨gf,rfl,hF⟩:=A9 hB hg Q1.out.kg ho
  have xX:=Aa uU
  clear uU
  go_wp2
  refine⟨rfl,?_⟩
  rw[xX.out]
  exact⟨gf,rfl,hF⟩
 |ok m st1=>
  rw[uU]at ho
  obtain⟨v,rfl,rfl,A4,oG,jA,h2⟩:=ho
  obtain⟨fw,lt,_⟩:=Gw IL.out uU
  have p2:=Q1.out.call A4 h2 fw.decls fw.freq fw.rules
  obtain⟨e0,e1,e2,e3,e4,e5,e6,e7,e8,e9,e10,e11,e12⟩:=Br p2.rowC
  have z:=fun j=>p2.rowC.frozen j
  have q2:=p2.setC 1 (.int .i64 m)
  have hw:=CD q2.rd B9
  have xX:=Aa uU
  have o6:=Aa fw
  have yi:=Aa lt
  have Q2:=Aa q2
  have HW:=Aa hw
  clear A4 h2 p2 q2 hw uU fw lt
  unfold vs at*
  go_wp2_with fail
  refine HW.out.mono ?_
  rintro e w3 ho
  clear e0 e1 e2 e3 e4 e5 e6 e7 e8 e9 e10 e11 e12 z
  cases DU:want s B9 st1 with
  |bad k pos=>
   rw[DU]at ho
   obtain⟨gf,rfl,hF⟩:=A9 hB hg Q2.out.kg ho
   have PP:=Aa DU
   clear DU
   go_wp2
   refine⟨rfl,?_⟩
   rw[xX.out]
   show Di _ _ _ _ _ _ _ ((want s B9 st1).bind _) _ _ _
   rw[PP.out]
   exact⟨gf,rfl,hF⟩
  |ok tw AP=>
   rw[DU]at ho
   obtain⟨v,rfl,rfl,BY,xt,jz,h3⟩:=ho
   have Py:=(Bw DU).2.2
   have qM:Gm s st1 AP:=by rw[Py];exact Gm.next o6.out.ok
   have q3:=Q2.out.call BY h3 qM.decls qM.freq qM.rules
   have hc:=UR (n+1) AP _ _ _ q3.rd qM.ok (by have:=PT.out;have:=dK.out;have:=yi.out;have:=qM.left;omega)
   obtain⟨e0,e1,e2,e3,e4,e5,e6,e7,e8,e9,e10,e11,e12⟩:=Br q3.rowC
   have z:=fun j=>q3.rowC.frozen j
   have PP:=Aa DU
   have Agk:=Aa (o6.out.trans qM)
   have or:=Aa qM.ok
   have Agf:=Aa qM.left
   have Q3:=Aa q3
   have HC:=Aa hc
   clear BY h3 q3 hc DU Py qM
   unfold GB vs at*
   go_wp2_with fail
   refine HC.out.mono ?_
   rintro e w4 ho
   clear e0 e1 e2 e3 e4 e5 e6 e7 e8 e9 e10 e11 e12 z
   cases XT:cond s (n+1) AP with
   |bad k pos=>
    rw[XT]at ho
    obtain⟨gf,rfl,hF⟩:=A9 hB hg Q3.out.kg ho
    have og:=Aa XT
    clear XT
    go_wp2
    refine⟨rfl,?_⟩
    rw[xX.out]
    show Di _ _ _ _ _ _ _ ((want s B9 st1).bind _) _ _ _
    rw[PP.out]
    show Di _ _ _ _ _ _ _ ((cond s (n+1) AP).bind _) _ _ _
    rw[og.out]
    exact⟨gf,rfl,hF⟩
   |ok c Cb=>
    rw[XT]at ho
    obtain⟨v,rfl,rfl,CU,vd4,XS,h4⟩:=ho
    obtain⟨mQ,lt3,_⟩:=I8 or.out XT
    obtain⟨b0,n1,b2,n3,hv⟩:=Fl c.k
    have ec:By c=[.string ⟨(Cg c.k).toArray⟩,.int .i64 (BT c.k),.string ⟨b0.toArray⟩,.int .i64 n1,.string ⟨b2.toArray⟩,.int .i64 n3,.bool (Dg c.nots)]:=by unfold By;rw[hv];rfl
    have F3:=Agk.out.trans mQ
    have Tj:Cb.loops=st.loops:=F3.loops
    have hde:Cb.depth=st.depth:=F3.depth
    have p4:=Q3.out.call CU h4 mQ.decls mQ.freq mQ.rules
    obtain⟨e0,e1,e2,e3,e4,e5,e6,e7,e8,e9,e10,e11,e12⟩:=Br p4.rowC
    have z:=fun j=>p4.rowC.frozen j
    obtain⟨_,_,_,_,_,_,_,_,c8,_⟩:=AV p4.row
    have fr8:=p4.row.frozen 8
    have hgC:¬w.heap.size+1=g:=p4.rowC.ne_ p4.row (by decide)
    have Am4:¬g=w.heap.size+1:=fun e=>hgC e.symm
    have hgR:¬w.heap.size=g:=p4.rowR.ne_ p4.row (by decide)
    have Am2:¬g=w.heap.size:=fun e=>hgR e.symm
    rw[Tj]at c8
    have q4:=(((((((p4.setC 4 (.string ⟨(Cg c.k).toArray⟩)).setC 5 (.int .i64 (BT c.k))).setC 6 (.string ⟨b0.toArray⟩)).setC 7 (.int .i64 n1)).setC 8 (.string ⟨b2.toArray⟩)).setC 9 (.int .i64 n3)).setC 10 (.bool (Dg c.nots))).loops (st.loops+1) (i:=(st.loops:Int)+1) rfl
    have hb:=jw.out {Cb with loops:=st.loops+1} _ _ _ q4.rd ⟨mQ.ok.i,mQ.ok.pos,mQ.ok.more,mQ.ok.num,mQ.ok.name⟩ (by show Cb.depth≤8;omega) (by show st.loops+1≤2;omega)
     (by have h1:=PT.out;have h2:=dK.out;have h3:=yi.out;have h4:=Agf.out;show 2*left s Cb+1≤n;omega)
    have og:=Aa XT
    have HF3:=Aa F3
    have Q4:=Aa q4
    have HB:=Aa hb
    have EC:=Aa ec
    have j4:=Aa Tj
    have an:=Aa mQ.ok
    rw[ec]
    clear CU h4 p4 q4 hb XT mQ lt3 hv ec F3 Tj hde
    unfold vs at*
    go_wp2_with fail
    refine HB.out.mono ?_
    rintro e w5 ho
    clear e0 e1 e2 e3 e4 e5 e6 e7 e8 e9 e10 e11 e12 z c8 fr8
    cases mb:block s n {Cb with loops:=st.loops+1}with
    |bad k pos=>
     rw[mb]at ho
     obtain⟨gf,rfl,hF⟩:=A9 hB hg Q4.out.kg ho
     have HXB:=Aa mb
     clear mb
     go_wp2
     refine⟨rfl,?_⟩
     rw[xX.out]
     show Di _ _ _ _ _ _ _ ((want s B9 st1).bind _) _ _ _
     rw[PP.out]
     show Di _ _ _ _ _ _ _ ((cond s (n+1) AP).bind _) _ _ _
     rw[og.out]
     show Di _ _ _ _ _ _ _ ((block s n {Cb with loops:=Cb.loops+1}).bind _) _ _ _
     rw[j4.out,HXB.out]
     exact⟨gf,rfl,hF⟩
    |ok bb Io=>
     rw[mb]at ho
     obtain⟨vt,rfl,bP,He,xo,ue,h5⟩:=ho
     have _u:=(DP (st:={Cb with loops:=st.loops+1}) ⟨an.out.i,an.out.pos,an.out.more,an.out.num,an.out.name⟩ (by have:=HF3.out.depth;simp only[next]at this;show Cb.depth≤8;omega) (by show st.loops+1≤2;omega) mb).1
     have vM:Io.loops=st.loops+1:=_u.loops
     obtain⟨gt,nt,ct,rfl⟩:=bP.form_
     have p5:=Q4.out.call He h5 _u.decls _u.freq _u.rules
     obtain⟨e0,e1,e2,e3,e4,e5,e6,e7,e8,e9,e10,e11,e12⟩:=Br p5.rowC
     obtain⟨f0,f1,f2,f3,f4,f5,f6,f7,f8,f9,UH,f11,UG⟩:=Br p5.rowR
     have z:=fun j=>p5.rowC.frozen j
     have y:=fun j=>p5.rowR.frozen j
     obtain⟨_,_,_,_,_,_,_,_,c8,_⟩:=AV p5.row
     have fr8:=p5.row.frozen 8
     rw[vM]at c8
     have q5:=(p5.setC 11 (.slice (some ⟨gt,0,none⟩) nt ct)).loops st.loops (i:=(st.loops:Int)) rfl
     have q6:=q5.copy (.string ⟨Bb.toArray⟩) (.int .i64 m) (.int .i64 0) (.bool false) (.string ⟨(Cg c.k).toArray⟩) (.int .i64 (BT c.k)) (.string ⟨b0.toArray⟩) (.int .i64 n1) (.string ⟨b2.toArray⟩) (.int .i64 n3) (.bool (Dg c.nots)) (.slice (some ⟨gt,0,none⟩) nt ct) (.slice none 0 0)
     have hCC:=Q4.out.rowC.lt
     have hgg:=Q4.out.row.lt
     have mf:Dv (fun k=>w.heap.size+2≤k) ((w5.setCell ⟨w.heap.size+1,11,none⟩ (.slice (some ⟨gt,0,none⟩) nt ct)).setCell ⟨g,8,none⟩ (.int .i64 (st.loops:Int))) (.slice (some ⟨gt,0,none⟩) nt ct) bb:=
      ((bP.far (C:=w.heap.size+1) (by omega) 11 (.slice (some ⟨gt,0,none⟩) nt ct)).far (C:=g) (by omega) 8 (.int .i64 (st.loops:Int))).mono (fun k _ hk=>Ai hCC hk)
     have ec1:(((st.loops+1:Nat):Int)-1)=(st.loops:Int):=by omega
     have EC1:=Aa ec1
     have HXB:=Aa mb
     have Q6:=Aa q6
     have HVT:=Aa mf
     have HL4:=Aa vM
     clear He h5 p5 q5 q6 mb bP mf _u hCC hgg ec1 vM
     unfold vs at*
     go_wp2
     refine Av (AG (cs:=[.string ⟨Bb.toArray⟩,.int .i64 m,.int .i64 0,.bool false,.string ⟨(Cg c.k).toArray⟩,.int .i64 (BT c.k),.string ⟨b0.toArray⟩,.int .i64 n1,.string ⟨b2.toArray⟩,.int .i64 n3,.bool (Dg c.nots),.slice (some ⟨gt,0,none⟩) nt ct,.slice none 0 0]) DV Je GS rfl Q6.out.rowR) rfl ?_
     rw[xX.out]
     show Di _ _ _ _ _ _ _ ((want s B9 st1).bind _) _ _ _
     rw[PP.out]
     show Di _ _ _ _ _ _ _ ((cond s (n+1) AP).bind _) _ _ _
     rw[og.out]
     show Di _ _ _ _ _ _ _ ((block s n {Cb with loops:=Cb.loops+1}).bind _) _ _ _
     rw[j4.out,HXB.out]
     refine⟨_,rfl,pH EC.out HVT.out _ _ _ _ _ _ _ _ _ _ _ _ _,Q6.out.kg,vd,ue,?_⟩
     have hr:=Q6.out.rd
     rw[show Io.loops-1=st.loops by rw[HL4.out];rfl]
     exact hr
end
section
variable {B:Nat} {ea:Nat→Addr} {w:World} {g gp bm:Nat} {vd wp:Value} {s:Ae} {st:PS}
theorem fW (n:Nat) (OH:U8 B ea g gp bm s n):nN B ea g gp bm s (n+1):=by
 intro st w vd wp h ok hd hl hn
 rw[stmt]
 by_cases h1:st.t.kind=Hn
 ·rw[Ak h1];exact kK h ok h1
 rw[Ad h1]
 by_cases h2:st.t.kind=Db
 ·rw[Ak h2];exact aV h ok h2
 rw[Ad h2]
 by_cases h3:st.t.kind=Ew
 ·rw[Ak h3];exact gc h ok h3
 rw[Ad h3]
 by_cases h4:st.t.kind=CN
 ·rw[Ak h4];exact aU h ok h4
 rw[Ad h4]
 by_cases h5:st.t.kind=Ia
 ·rw[Ak h5];exact kL h ok h5
 rw[Ad h5]
 by_cases h6:st.t.kind=Ib
 ·rw[Ak h6];exact kM h ok h6
 rw[Ad h6]
 by_cases h7:st.t.kind=EJ
 ·rw[Ak h7];exact fZ h ok h7
 rw[Ad h7]
 by_cases h8:st.t.kind=EK
 ·rw[Ak h8];exact gi h ok h8
 rw[Ad h8]
 by_cases h9:st.t.kind=Iw
 ·rw[Ak h9];exact pt n OH h ok hd hl hn h9
 rw[Ad h9]
 by_cases SZ:st.t.kind=Bb
 ·rw[Ak SZ]
  by_cases mP:st.loops=2
  ·rw[Ak mP];exact Vm h SZ mP
  ·rw[Ad mP];exact kJ n OH h ok hd (by omega) hn SZ
 rw[Ad SZ]
 exact fX h h1 h2 h3 h4 h5 h6 h7 h8 h9 SZ
theorem nz (n:Nat):U8 B ea g gp bm s n∧nN B ea g gp bm s n:=by
 induction n using Nat.strongRecOn with
 |ind n ih=>
  cases n with
  |zero=>exact⟨fun st w vd wp h ok hd hl hn=>by omega,fun st w vd wp h ok hd hl hn=>by omega⟩
  |succ n=>exact⟨cP n (fun m hm=>(ih m hm).2),fW n (ih n (by omega)).1⟩
theorem i7 (h:DG B ea w g gp bm vd wp s st) (ok:st.Ok s) (hd:st.depth≤8) (hl:st.loops≤2) {n:Nat} (hn:2*left s st+1≤n):
  Calls Tryz.prog 123 #[.pointer (some ⟨g,0,none⟩)] w fun e w'=>Di B ea w g gp bm s (block s n st) (fun w' b v=>Dv (fun k=>w.heap.size≤k) w' v b) e w':=
 (nz n).1 st w vd wp h ok hd hl hn
end
theorem Oq (w:World):(zeroValue 174).run Tryz.prog w= .ok (.slice none 0 0) w:=by kernel_rfl
def Jl (B:Nat) (ea:Nat→Addr) (w:World) (g gp bm:Nat) (s:Ae) (x:AJ Unit) (e:Ending) (w':World):Prop:=
 match x with
 | .ok _ st'=>e= .returned (.tuple #[])∧Af (fun b=>B≤b) w w'∧∃vd wp,DG B ea w' g gp bm vd wp s st'
 | .bad k pos=>Ri B ea w e w' k pos
section
variable {B:Nat} {ea:Nat→Addr} {w:World} {g gp bm:Nat} {vd wp:Value} {s:Ae} {st:PS}
theorem RB {N:Nat→Prop}:∀(M:GP) (rules:List (Int×AC)),M.map (·.1)=rules.map (·.1)→(∀(i:Nat) (x:Int×Value) (y:Int×AC),M[i]?=some x→rules[i]?=some y→Dv N w x.2 y.2)→∀k:Int,
  match AE rules k with
  |some b=>∃v,FT M k=some v∧Dv N w v b
  |none=>FT M k=none
 | [],[],_,_,k=>rfl
 | [],_::_,h,_,_=>by simp at h
 |_::_,[],h,_,_=>by simp at h
 |x::M,y::rules,h,hv,k=>by
  simp only[Cq,J9]at h
  unfold AE FT
  by_cases hk:y.1=k
  ·have OF:x.1=k:=h.1.trans hk
   rw[LB (by simpa using hk),LB (by simpa using OF)]
   exact⟨x.2,rfl,hv 0 x y rfl rfl⟩
  ·have OF:¬x.1=k:=by rw[h.1];exact hk
   rw[DE (by simpa using hk),DE (by simpa using OF)]
   exact RB M rules h.2 (fun i a b ha hb=>hv (i+1) a b (by simpa using ha) (by simpa using hb)) k
theorem FP.look {N:Nat→Prop} {rules:List (Int×AC)} (h:FP N w bm rules) (k:Int):∃v,(∀c,(Instr.lookup 88 (.map (some bm)) (.int .i64 k) c).run Tryz.prog w=
  .ok (if c then .tuple #[v,.bool (AE rules k).isSome]else v) w)∧(match AE rules k with|some b=>Dv N w v b|none=>v= .slice none 0 0):=by
 obtain⟨M,h1,h2,h3⟩:=h
 have hp:=RB M rules h2 h3 k
 cases hr:AE rules k with
 |none=>
  rw[hr]at hp
  refine⟨.slice none 0 0,fun c=>?_,rfl⟩
  rw[h1.lookup (P:=Tryz.prog) Fe D8 Oq k c,show FT M k=none from hp]
  rfl
 |some b=>
  rw[hr]at hp
  obtain⟨v,hv,hb⟩:=hp
  refine⟨v,fun c=>?_,hb⟩
  rw[h1.lookup (P:=Tryz.prog) Fe D8 Oq k c,hv]
  rfl
theorem Ud {M:GP} {x:Int} (v:Value) (h:x∉M.map (·.1)):SP M x v=M++[(x,v)]:=by
 unfold SP
 have:FT M x=none:=by
  unfold FT
  rw[Im,In]
  intro y hy he
  exact h (AT.2 ⟨y,hy,by simpa using he⟩)
 rw[this]
 rfl
theorem DG.setRule (h:DG B ea w g gp bm vd wp s st) {w':World} {k:Int} {v:Value} {b:AC} (hk:Af (fun i=>i=bm) w w') {M:GP} (hM:BV w bm .i64 M) (hM':BV w' bm .i64 (M++[(k,v)]))
  (h2:M.map (·.1)=st.rules.map (·.1)) (h3:∀(i:Nat) (x:Int×Value) (y:Int×AC),M[i]?=some x→st.rules[i]?=some y→Dv (fun b=>B≤b∧b≠g) w x.2 y.2) (hb:Dv (fun b=>B≤b∧b≠g) w v b):
  DG B ea w' g gp bm vd wp s {st with rules:=st.rules++[(k,b)]}:=by
 have BQ:∀(b:Nat) t cs,AM w b t cs→¬(b=bm):=fun b t cs hr e=>hM.ne_row (e▸hr) rfl
 have yE:∀{v b},Dv (fun b=>B≤b∧b≠g) w v b→Dv (fun b=>B≤b∧b≠g) w' v b:=fun hv=>hv.kept (fun k cs _ hr=>hk.block k (BQ k _ cs hr))
 refine⟨h.env.kept hk (fun b hb=>by rw[hb];exact h.bm0),h.row.kept hk (BQ _ _ _ h.row),h.pol.kept hk (BQ _ _ _ h.pol),h.decls.kept hk (fun b hb e=>h.decls.ne_map hM (by rw[hb,e])),⟨M++[(k,v)],hM',?_,?_⟩,h.wrong.row_kept hk (fun b cs hr=>BQ b _ cs hr),h.g0,h.gp0,h.bm0,h.i,h.s,h.dl⟩
 ·show(M++[(k,v)]).map (·.1)=(st.rules++[(k,b)]).map (·.1)
  rw[CJ,CJ,h2]
  rfl
 ·intro i x y hx hy
  have hlen:M.length=st.rules.length:=by have:=AL List.length h2;simpa using this
  rcases BP i M.length with hi|hi
  ·rw[B7 hi]at hx
   have Pd:(st.rules++[(k,b)])[i]?=some y:=hy
   rw[B7 (by omega)]at Pd
   exact yE (h3 i x y hx Pd)
  ·rw[Ck hi]at hx
   have Pd:(st.rules++[(k,b)])[i]?=some y:=hy
   rw[Ck (by omega),←hlen]at Pd
   cases hj:i-M.length with
   |zero=>
    rw[hj]at hx Pd
    simp at hx Pd
    subst hx Pd
    exact yE hb
   |succ j=>rw[hj]at hx;simp at hx
def Ni (s:Ae) (st:PS):AJ Int:=if(next s st).t.kind=Ec then .ok (-1) (next s (next s st))else name s false (next s st)
theorem MI {x:Option (Nat×Nat)} (h:IB B ea w wp x):(x=none∧wp= .pointer none)∨(∃y gf,x=some y∧wp= .pointer (some ⟨gf,0,none⟩)):=by
 cases x with
 |none=>exact .inl ⟨rfl,h⟩
 |some y=>obtain⟨gf,h1,_⟩:=h;exact .inr ⟨y,gf,rfl,h1⟩
def Nd (at_:Nat) (k:Int) (st:PS):PS:=if(AE st.rules k).isSome&&st.wrong.isNone then note Jp at_ st else st
theorem MM (s:Ae) (n:Nat) (st:PS):Gc s n st=(Ni s st).bind fun k st1=>(block s n (Nd st.t.pos k st1)).bind fun b st=>.ok () (if st.wrong.isNone then {st with rules:=st.rules++[(k,b)]}else st):=by
 unfold Gc Cv Ni
 simp only
 split
 ·rfl
 ·cases name s false (next s st)<;>rfl
theorem mD {k:Int} {st1:PS} (ok:st.Ok s) (h:Ni s st= .ok k st1):Gm s (next s st) st1:=by
 unfold Ni at h
 split at h
 ·injection h with _ h;subst h;exact Gm.next (BF ok)
 ·exact(Eo (BF ok) h).1
theorem kX (h:DG B ea w g gp bm vd wp s st) (ok:st.Ok s) (hd:st.depth=0) (hl:st.loops=0) (hk:st.t.kind=Mv) {n:Nat} (hn:2*left s st+1≤n):
  Calls Tryz.prog 75 #[.pointer (some ⟨g,0,none⟩)] w fun e w'=>Jl B ea w g gp bm s (Gc s n st) e w':=by
 have FF:=Dy h
 obtain⟨_,_,_,_,c4,_⟩:=AV h.row
 have hB:=h.env.size
 have hg:=h.g0
 have J6:=DY ok hk (by decide) (by decide)
 have HN:=Aa FF
 have IL:=Aa ok
 have HK:=Aa hk
 have HD:=Aa hd
 have HL:=Aa hl
 have PT:=Aa J6
 have dK:=Aa hn
 have H0:=Aa h
 clear FF h ok hk hd hl J6 hn
 unfold vs at*
 go_enter Tryz.func75,Tryz.ntmps75
 go_wp2_with fail
 refine HN.out.mono ?_
 rintro e w1 ⟨rfl,Bi,h1⟩
 have ht:=Gn h1 Ec
 have H1:=Aa h1
 have K1:=Aa Bi
 have HT:=Aa ht
 clear h1 Bi ht
 go_upto_if 16 with(refine HT.out.mono ?_;rintro e w2 ⟨rfl,A4,h2⟩;have H2:=Aa h2;have K2:=Aa A4;clear A4 h2)
 go_cut [3] (fun s3 wx=>∃k st1 OM Vk,s3= .int .i64 k∧Ni s st= .ok k st1∧DG B ea wx g gp bm OM Vk s st1∧Kg g w wx)
 case first=>
  by_cases hm:(next s st).t.kind=Ec
  ·have h2:=H2.out
   rw[KH hm]at h2
   have et:(take s Ec (next s st)).1=true:=by rw[KH hm]
   have HX:Ni s st= .ok (-1) (next s (next s st)):=by unfold Ni;rw[Ak hm]
   have F:=Aa (And.intro h2 HX)
   rw[et]
   clear h2 HX hm et
   go_wp2_with fail
   go_meet
   exact⟨_,_,_,_,rfl,F.out.2,F.out.1,Kg.trans K1.out K2.out⟩
  ·have h2:=H2.out
   rw[Kb hm]at h2
   have et:(take s Ec (next s st)).1=false:=by rw[Kb hm]
   have HX:Ni s st=name s false (next s st):=by unfold Ni;rw[Ad hm]
   have hn:=G0 h2 false
   have F:=Aa HX
   have NC:=Aa hn
   have j7:=Aa h2
   rw[et]
   clear h2 HX hm hn et
   go_wp2_with fail
   refine NC.out.mono ?_
   rintro e w3 ho
   cases hx:name s false (next s st)with
   |bad k pos=>
    rw[hx]at ho
    obtain⟨gf,rfl,hF⟩:=A9 hB hg (Kg.trans K1.out K2.out) ho
    have HXX:=Aa hx
    clear hx
    go_wp2
    refine⟨rfl,?_⟩
    rw[MM,F.out,HXX.out]
    exact⟨gf,rfl,hF⟩
   |ok k st1=>
    rw[hx]at ho
    obtain⟨v,rfl,rfl,BY,xt,jz,h3⟩:=ho
    have G:=Aa (And.intro hx (And.intro BY h3))
    clear hx BY h3
    go_wp2_with fail
    go_meet
    exact⟨_,_,_,_,rfl,F.out.trans G.out.1,G.out.2.2,Kg.trans (Kg.trans K1.out K2.out) G.out.2.1⟩
 case rest=>
  obtain⟨k,st1,OM,Vk,rfl,hx,h1,k1⟩:=hcut
  have fw:=mD IL.out hx
  have hle:=fw.left
  obtain⟨_,_,_,_,_,c5,_,_,_,c9⟩:=AV h1.row
  have p2:=h1.pol.cell 2
  simp at p2
  obtain⟨v,sN,_⟩:=h1.rules.look k
  have Xl:=sN true
  simp only[A0]at Xl
  have Ki:wc.cell? ⟨12,0,none⟩=some (.iface 315 (.pointer (some (ea 8)))):=h1.env.err 8 (by omega) (by omega)
  have Zq:=GZ h1 8 st.t.pos
  have hwf:=MI h1.wrong
  have hB':B≤w.heap.size:=hB
  have v5:((AE st1.rules k).isSome=false)∨((AE st1.rules k).isSome=true∧st1.wrong=none∧Vk= .pointer none)∨((AE st1.rules k).isSome=true∧∃y gf,st1.wrong=some y∧Vk= .pointer (some ⟨gf,0,none⟩)):=by
   cases (AE st1.rules k).isSome with
   |false=>exact .inl rfl
   |true=>
    rcases hwf with⟨a,b⟩|⟨y,gf,a,b⟩
    ·exact .inr (.inl ⟨rfl,a,b⟩)
    ·exact .inr (.inr ⟨rfl,y,gf,a,b⟩)
  have FW:=Aa fw
  have HX:=Aa hx
  have H1':=Aa h1
  have K1':=Aa k1
  have HNO:=Aa Zq
  clear hx h1 k1 Zq sN fw hle hwf
  have hN2:∃AP,AP=Nd st.t.pos k st1:=⟨_,rfl⟩
  obtain⟨AP,Py⟩:=hN2
  have OH:∀W vd wp,DG B ea W g gp bm vd wp s AP→Calls Tryz.prog 123 #[.pointer (some ⟨g,0,none⟩)] W fun e w'=>Di B ea W g gp bm s (block s n AP) (fun w' b v=>Dv (fun k=>W.heap.size≤k) w' v b) e w':=by
   intro W vd wp hr
   have Ad2:Gm s st1 AP:=by
    rw[Py];unfold Nd
    split
    ·exact Gm.note FW.out.ok _ _
    ·exact Gm.refl FW.out.ok
   have F:=FW.out.trans Ad2
   have hd:AP.depth=0:=F.depth.trans HD.out
   have hl:AP.loops=0:=F.loops.trans HL.out
   exact i7 hr F.ok (by omega) (by omega) (by have h1:=PT.out;have h2:=F.left;have h3:=dK.out;omega)
  have jw:=Aa OH
  have Tb:=Aa Py
  clear OH Py
  rcases v5 with hb|⟨hb,hw,rfl⟩|⟨hb,y,gf,hw,rfl⟩
  rotate_left
  ·rw[hb]at Xl
   have PR:AP=note Jp st.t.pos st1:=by rw[Tb.out];unfold Nd;rw[hb,hw];rfl
   have tV:=Aa PR
   clear hb hw PR
   unfold Dn at*
   go_wp2_with fail
   refine HNO.out.mono ?_
   rintro e w4 ⟨rfl,CU,XS,h4⟩
   have QH:DG B ea w4 g gp bm OM XS s AP:=by rw[tV.out];exact h4
   have j7:=Aa QH
   have tK:=Aa (Kg.trans K1'.out CU)
   clear h4 QH CU
   go_wp2_with fail
   refine(jw.out _ _ _ j7.out).mono ?_
   rintro e w5 ho
   cases Hy:block s n AP with
   |bad k2 pos=>
    rw[Hy]at ho
    obtain⟨gf,rfl,hF⟩:=A9 hB hg tK.out ho
    have VV:=Aa Hy
    clear Hy
    go_wp2
    refine⟨rfl,?_⟩
    rw[MM,HX.out]
    show Jl _ _ _ _ _ _ _ ((block s n (Nd st.t.pos k st1)).bind _) _ _
    rw[←Tb.out,VV.out]
    exact⟨gf,rfl,hF⟩
   |ok b Cb=>
    rw[Hy]at ho
    obtain⟨vb,rfl,mh,He,xo,ue,h5⟩:=ho
    have UA:=Kg.trans tK.out He
    have Jj:Af (fun b=>B≤b) w w5:=UA.mono (fun b hb=>hb.elim (fun e=>e▸hg) (fun hb=>Ai hB hb))
    have Ii:Gc s n st= .ok () (if Cb.wrong.isNone then {Cb with rules:=Cb.rules++[(k,b)]}else Cb):=by
     rw[MM,HX.out]
     show(block s n (Nd st.t.pos k st1)).bind _=_
     rw[←Tb.out,Hy]
     rfl
    have N2:Cv s st= .ok k AP:=by
     have h:=HX.out
     unfold Ni at h
     unfold Cv
     simp only
     rw[h,Tb.out]
     rfl
    have QE:=Gb IL.out HK.out N2
    have Wx:=QE.1
    have K9:=DP Wx.ok (by rw[Wx.depth,HD.out];omega) (by rw[Wx.loops,HL.out];omega) Hy
    have QD:Cb.rules=st.rules:=K9.1.rules.trans Wx.rules
    have Qw:Cb.wrong=none→k∉st.rules.map (·.1):=fun hw=>(QE.2.2 (K9.1.wrong hw)).2
    obtain⟨_,_,_,_,_,_J,_,_,_,c9'⟩:=AV h5.row
    have yB:=h5.pol.cell 2
    have sS:=j7.out.row.lt
    have tv:=j7.out.env.size
    have Uo:Dv (fun b=>B≤b∧b≠g) w5 vb b:=mh.mono (fun k _ hk=>⟨by omega,by omega⟩)
    have H5:=Aa h5
    have oZ:=Aa Jj
    have HSP:=Aa Ii
    have _3:=Aa Uo
    have HRU:=Aa QD
    have _0:=Aa Qw
    simp at yB
    rcases MI h5.wrong with⟨Sw,rfl⟩|⟨y3,gf3,Sw,rfl⟩
    ·obtain⟨M,hM,eU,eT⟩:=h5.rules
     have Uw:k∉M.map (·.1):=by rw[eU,QD];exact Qw Sw
     have HM:=Aa hM
     have ox:=Aa eU
     have wT:=Aa eT
     have dL:=Aa Uw
     have U4:Hid (Gc s n st= .ok () {Cb with rules:=Cb.rules++[(k,b)]}):=Aa (by rw[Ii,Ak (by rw[Sw];rfl)])
     clear Hy h5 He UA Jj Ii N2 QE Wx K9 QD Qw mh Uo Sw hM eU eT Uw sS tv
     go_wp2_with (at_mapUpdate;go_must (refine Hg Fe D8 HM.out rfl _ _ _ rfl rfl k rfl vb rfl ?_;intro w6 QF Nv;have rI:=Aa QF;have VR:=Aa Nv;clear QF Nv))
     go_end0
     have QF:=rI.out
     rw[Ud _ dL.out]at QF
     have yY:=H5.out.setRule (b:=b) VR.out HM.out QF ox.out wT.out _3.out
     rw[U4.out]
     exact⟨rfl,oZ.out.trans (VR.out.mono (fun b hb=>by rw[hb];exact H5.out.bm0)),_,_,yY⟩
    ·have U4:Hid (Gc s n st= .ok () Cb):=Aa (by rw[Ii,Ad (by rw[Sw];simp)])
     clear Hy h5 He UA Jj Ii N2 QE Wx K9 QD Qw mh Uo Sw sS tv
     go_wp2
     go_end0
     rw[U4.out]
     exact⟨rfl,oZ.out,_,_,H5.out⟩
  ·rw[hb]at Xl
   have PR:AP=st1:=by rw[Tb.out];unfold Nd;rw[hb,hw];rfl
   have j7:Hid (DG B ea wc g gp bm OM (.pointer (some ⟨gf,0,none⟩)) s AP):=Aa (by rw[PR];exact H1'.out)
   have tK:=Aa K1'.out
   clear hb hw PR
   go_wp2_with fail
   refine(jw.out _ _ _ j7.out).mono ?_
   rintro e w5 ho
   cases Hy:block s n AP with
   |bad k2 pos=>
    rw[Hy]at ho
    obtain⟨gf,rfl,hF⟩:=A9 hB hg tK.out ho
    have VV:=Aa Hy
    clear Hy
    go_wp2
    refine⟨rfl,?_⟩
    rw[MM,HX.out]
    show Jl _ _ _ _ _ _ _ ((block s n (Nd st.t.pos k st1)).bind _) _ _
    rw[←Tb.out,VV.out]
    exact⟨gf,rfl,hF⟩
   |ok b Cb=>
    rw[Hy]at ho
    obtain⟨vb,rfl,mh,He,xo,ue,h5⟩:=ho
    have UA:=Kg.trans tK.out He
    have Jj:Af (fun b=>B≤b) w w5:=UA.mono (fun b hb=>hb.elim (fun e=>e▸hg) (fun hb=>Ai hB hb))
    have Ii:Gc s n st= .ok () (if Cb.wrong.isNone then {Cb with rules:=Cb.rules++[(k,b)]}else Cb):=by
     rw[MM,HX.out]
     show(block s n (Nd st.t.pos k st1)).bind _=_
     rw[←Tb.out,Hy]
     rfl
    have N2:Cv s st= .ok k AP:=by
     have h:=HX.out
     unfold Ni at h
     unfold Cv
     simp only
     rw[h,Tb.out]
     rfl
    have QE:=Gb IL.out HK.out N2
    have Wx:=QE.1
    have K9:=DP Wx.ok (by rw[Wx.depth,HD.out];omega) (by rw[Wx.loops,HL.out];omega) Hy
    have QD:Cb.rules=st.rules:=K9.1.rules.trans Wx.rules
    have Qw:Cb.wrong=none→k∉st.rules.map (·.1):=fun hw=>(QE.2.2 (K9.1.wrong hw)).2
    obtain⟨_,_,_,_,_,_J,_,_,_,c9'⟩:=AV h5.row
    have yB:=h5.pol.cell 2
    have sS:=j7.out.row.lt
    have tv:=j7.out.env.size
    have Uo:Dv (fun b=>B≤b∧b≠g) w5 vb b:=mh.mono (fun k _ hk=>⟨by omega,by omega⟩)
    have H5:=Aa h5
    have oZ:=Aa Jj
    have HSP:=Aa Ii
    have _3:=Aa Uo
    have HRU:=Aa QD
    have _0:=Aa Qw
    simp at yB
    rcases MI h5.wrong with⟨Sw,rfl⟩|⟨y3,gf3,Sw,rfl⟩
    ·obtain⟨M,hM,eU,eT⟩:=h5.rules
     have Uw:k∉M.map (·.1):=by rw[eU,QD];exact Qw Sw
     have HM:=Aa hM
     have ox:=Aa eU
     have wT:=Aa eT
     have dL:=Aa Uw
     have U4:Hid (Gc s n st= .ok () {Cb with rules:=Cb.rules++[(k,b)]}):=Aa (by rw[Ii,Ak (by rw[Sw];rfl)])
     clear Hy h5 He UA Jj Ii N2 QE Wx K9 QD Qw mh Uo Sw hM eU eT Uw sS tv
     go_wp2_with (at_mapUpdate;go_must (refine Hg Fe D8 HM.out rfl _ _ _ rfl rfl k rfl vb rfl ?_;intro w6 QF Nv;have rI:=Aa QF;have VR:=Aa Nv;clear QF Nv))
     go_end0
     have QF:=rI.out
     rw[Ud _ dL.out]at QF
     have yY:=H5.out.setRule (b:=b) VR.out HM.out QF ox.out wT.out _3.out
     rw[U4.out]
     exact⟨rfl,oZ.out.trans (VR.out.mono (fun b hb=>by rw[hb];exact H5.out.bm0)),_,_,yY⟩
    ·have U4:Hid (Gc s n st= .ok () Cb):=Aa (by rw[Ii,Ad (by rw[Sw];simp)])
     clear Hy h5 He UA Jj Ii N2 QE Wx K9 QD Qw mh Uo Sw sS tv
     go_wp2
     go_end0
     rw[U4.out]
     exact⟨rfl,oZ.out,_,_,H5.out⟩
  ·rw[hb]at Xl
   have PR:AP=st1:=by rw[Tb.out];unfold Nd;rw[hb];rfl
   have j7:Hid (DG B ea wc g gp bm OM Vk s AP):=Aa (by rw[PR];exact H1'.out)
   have tK:=Aa K1'.out
   clear hb PR
   go_wp2_with fail
   refine(jw.out _ _ _ j7.out).mono ?_
   rintro e w5 ho
   cases Hy:block s n AP with
   |bad k2 pos=>
    rw[Hy]at ho
    obtain⟨gf,rfl,hF⟩:=A9 hB hg tK.out ho
    have VV:=Aa Hy
    clear Hy
    go_wp2
    refine⟨rfl,?_⟩
    rw[MM,HX.out]
    show Jl _ _ _ _ _ _ _ ((block s n (Nd st.t.pos k st1)).bind _) _ _
    rw[←Tb.out,VV.out]
    exact⟨gf,rfl,hF⟩
   |ok b Cb=>
    rw[Hy]at ho
    obtain⟨vb,rfl,mh,He,xo,ue,h5⟩:=ho
    have UA:=Kg.trans tK.out He
    have Jj:Af (fun b=>B≤b) w w5:=UA.mono (fun b hb=>hb.elim (fun e=>e▸hg) (fun hb=>Ai hB hb))
    have Ii:Gc s n st= .ok () (if Cb.wrong.isNone then {Cb with rules:=Cb.rules++[(k,b)]}else Cb):=by
     rw[MM,HX.out]
     show(block s n (Nd st.t.pos k st1)).bind _=_
     rw[←Tb.out,Hy]
     rfl
    have N2:Cv s st= .ok k AP:=by
     have h:=HX.out
     unfold Ni at h
     unfold Cv
     simp only
     rw[h,Tb.out]
     rfl
    have QE:=Gb IL.out HK.out N2
    have Wx:=QE.1
    have K9:=DP Wx.ok (by rw[Wx.depth,HD.out];omega) (by rw[Wx.loops,HL.out];omega) Hy
    have QD:Cb.rules=st.rules:=K9.1.rules.trans Wx.rules
    have Qw:Cb.wrong=none→k∉st.rules.map (·.1):=fun hw=>(QE.2.2 (K9.1.wrong hw)).2
    obtain⟨_,_,_,_,_,_J,_,_,_,c9'⟩:=AV h5.row
    have yB:=h5.pol.cell 2
    have sS:=j7.out.row.lt
    have tv:=j7.out.env.size
    have Uo:Dv (fun b=>B≤b∧b≠g) w5 vb b:=mh.mono (fun k _ hk=>⟨by omega,by omega⟩)
    have H5:=Aa h5
    have oZ:=Aa Jj
    have HSP:=Aa Ii
    have _3:=Aa Uo
    have HRU:=Aa QD
    have _0:=Aa Qw
    simp at yB
    rcases MI h5.wrong with⟨Sw,rfl⟩|⟨y3,gf3,Sw,rfl⟩
    ·obtain⟨M,hM,eU,eT⟩:=h5.rules
     have Uw:k∉M.map (·.1):=by rw[eU,QD];exact Qw Sw
     have HM:=Aa hM
     have ox:=Aa eU
     have wT:=Aa eT
     have dL:=Aa Uw
     have U4:Hid (Gc s n st= .ok () {Cb with rules:=Cb.rules++[(k,b)]}):=Aa (by rw[Ii,Ak (by rw[Sw];rfl)])
     clear Hy h5 He UA Jj Ii N2 QE Wx K9 QD Qw mh Uo Sw hM eU eT Uw sS tv
     go_wp2_with (at_mapUpdate;go_must (refine Hg Fe D8 HM.out rfl _ _ _ rfl rfl k rfl vb rfl ?_;intro w6 QF Nv;have rI:=Aa QF;have VR:=Aa Nv;clear QF Nv))
     go_end0
     have QF:=rI.out
     rw[Ud _ dL.out]at QF
     have yY:=H5.out.setRule (b:=b) VR.out HM.out QF ox.out wT.out _3.out
     rw[U4.out]
     exact⟨rfl,oZ.out.trans (VR.out.mono (fun b hb=>by rw[hb];exact H5.out.bm0)),_,_,yY⟩
    ·have U4:Hid (Gc s n st= .ok () Cb):=Aa (by rw[Ii,Ad (by rw[Sw];simp)])
     clear Hy h5 He UA Jj Ii N2 QE Wx K9 QD Qw mh Uo Sw sS tv
     go_wp2
     go_end0
     rw[U4.out]
     exact⟨rfl,oZ.out,_,_,H5.out⟩
end
end Go.Proofs.YtemppijblfflgaaGreatDoor.Ev
namespace Go.Proofs.YtemppijblfflgaaGreatDoor.Ev
def Lp (nd:Nat→Node):Nat→List Nat→Nat→Prop
 |_,[],_=>True
 |p,x::r,s=>(nd x).prev=p∧(nd x).next=r.headD s∧Lp nd x r s
theorem Lp.congr {nd hX:Nat→Node}:∀{l:List Nat} {p s:Nat},(∀m∈l,(hX m).prev=(nd m).prev∧(hX m).next=(nd m).next)→Lp nd p l s→Lp hX p l s
 | [],_,_,_,_=>trivial
 |x::r,p,s,h,⟨a,b,c⟩=>⟨(h x (by simp)).1.trans a,(h x (by simp)).2.trans b,Lp.congr (fun m hm=>h m (by simp[hm])) c⟩
theorem MY (a b:List Nat) (s:Nat):(a++b).headD s=a.headD (b.headD s):=by cases a<;>simp
theorem I6 (x:Nat) (r:List Nat) (p:Nat):(x::r).getLastD p=r.getLastD x:=by
 cases r with
 |nil=>rfl
 |cons y r=>rfl
theorem Lp.append {nd:Nat→Node}:∀{a b:List Nat} {p s:Nat},Lp nd p (a++b) s↔Lp nd p a (b.headD s)∧Lp nd (a.getLastD p) b s
 | [],b,p,s=>by simp[Lp]
 |x::r,b,p,s=>by
  rw[I6]
  simp only[A8,Lp,MY,Lp.append (a:=r) (b:=b),and_assoc]
theorem Lp.setLast {nd hX:Nat→Node} {a s s':Nat}:∀{l:List Nat} {p:Nat},(∀m,m≠a→hX m=nd m)→(hX a).prev=(nd a).prev→(hX a).next=s'→(l++[a]).Nodup→
  Lp nd p (l++[a]) s→Lp hX p (l++[a]) s'
 | [],p,h1,h2,h3,_,⟨x,_,_⟩=>⟨h2.trans x,h3,trivial⟩
 |x::r,p,h1,h2,h3,hn,h=>by
  have hx:x≠a:=by
   rintro rfl
   simp at hn
  obtain⟨y1,y2,y3⟩:=h
  have Zs:(r++[a]).Nodup:=(BK.1 hn).2
  have e:(r++[a]).headD s'=(r++[a]).headD s:=by cases r<;>simp
  exact⟨by rw[h1 x hx];exact y1,by rw[h1 x hx];exact y2.trans e.symm,Lp.setLast h1 h2 h3 Zs y3⟩
theorem Lp.setHead {nd hX:Nat→Node} {b p p' s:Nat} {r:List Nat} (h1:∀m,m≠b→hX m=nd m) (h2:(hX b).prev=p') (h3:(hX b).next=(nd b).next) (hn:b∉r) (h:Lp nd p (b::r) s):Lp hX p' (b::r) s:=by
 obtain⟨_,y2,y3⟩:=h
 exact⟨h2,h3.trans y2,Lp.congr (fun m hm=>by rw[h1 m (fun e=>hn (e▸hm))];exact⟨rfl,rfl⟩) y3⟩
section
variable {A:Am}
theorem Dx {a:Nat} (h:a<A.l.length) (x:Node) (m:Nat):(A.setNode a x).node m=if m=a then x else A.node m:=by
 unfold Am.setNode Am.node
 simp only[Bp]
 by_cases e:m=a
 ·subst e;simp[h]
 ·rw[Ad (fun h=>e h.symm),Ad e]
theorem BO {a:Nat} (h:a<A.qs.length) (x:O6) (m:Nat):(A.setEnds a x).ends m=if m=a then x else A.ends m:=by
 unfold Am.setEnds Am.ends
 simp only[Bp]
 by_cases e:m=a
 ·subst e;simp[h]
 ·rw[Ad (fun h=>e h.symm),Ad e]
theorem ID (a:Nat) (x:Node):(A.setNode a x).l.length=A.l.length:=by simp[Am.setNode]
theorem Kt (a:Nat) (x:O6):(A.setEnds a x).qs.length=A.qs.length:=by simp[Am.setEnds]
structure Am.Bd (A:Am):Prop where
 node:∀(n:Nat) (x:Node),A.l[n]?=some x→x.prev<A.l.length∧x.next<A.l.length∧x.q≤A.qs.length∧0≤x.freq∧x.freq≤1000
 ends:∀(q:Nat) (x:O6),A.qs[q]?=some x→x.head<A.l.length∧x.tail<A.l.length∧x.n≤1000000
theorem Am.Bd.at_ (h:A.Bd) {n:Nat} (hn:n<A.l.length):(A.node n).prev<A.l.length∧(A.node n).next<A.l.length∧(A.node n).q≤A.qs.length∧0≤(A.node n).freq∧(A.node n).freq≤1000:=
 h.node n _ (by unfold Am.node;rw[Ah hn];rfl)
theorem Am.Bd.of_q (h:A.Bd) {n:Nat} (hn:n<A.qs.length):(A.ends n).head<A.l.length∧(A.ends n).tail<A.l.length∧(A.ends n).n≤1000000:=
 h.ends n _ (by unfold Am.ends;rw[Ah hn];rfl)
theorem Am.Bd.setNode (h:A.Bd) (a:Nat) (x:Node) (hx:x.prev<A.l.length∧x.next<A.l.length∧x.q≤A.qs.length∧0≤x.freq∧x.freq≤1000):(A.setNode a x).Bd:=by
 refine⟨fun n y hy=>?_,fun q y hy=>?_⟩
 ·rw[ID]
  have Pd:(A.l.set a x)[n]?=some y:=hy
  rw[Bp]at Pd
  split at Pd
  ·split at Pd
   ·injection Pd with Pd;subst Pd;exact hx
   ·cases Pd
  ·exact h.node n y Pd
 ·rw[ID]
  exact h.ends q y hy
theorem Am.Bd.setEnds (h:A.Bd) (a:Nat) (x:O6) (hx:x.head<A.l.length∧x.tail<A.l.length∧x.n≤1000000):(A.setEnds a x).Bd:=by
 refine⟨fun n y hy=>?_,fun q y hy=>?_⟩
 ·rw[Kt];exact h.node n y hy
 ·have Pd:(A.qs.set a x)[q]?=some y:=hy
  rw[Bp]at Pd
  split at Pd
  ·split at Pd
   ·injection Pd with Pd;subst Pd;exact hx
   ·cases Pd
  ·exact h.ends q y Pd
structure J3 (A A':Am):Prop where
 l:A'.l.length=A.l.length
 q:A'.qs.length=A.qs.length
 free:A'.free=A.free
 at_:A'.at_=A.at_
 node:∀m,(A'.node m).key=(A.node m).key∧(A'.node m).freq=(A.node m).freq∧(A'.node m).q=(A.node m).q
theorem J3.trans {A B C:Am} (h:J3 A B) (k:J3 B C):J3 A C:=
 ⟨k.l.trans h.l,k.q.trans h.q,k.free.trans h.free,k.at_.trans h.at_,fun m=>⟨(k.node m).1.trans (h.node m).1,(k.node m).2.1.trans (h.node m).2.1,(k.node m).2.2.trans (h.node m).2.2⟩⟩
theorem J3.setEnds (A:Am) (a:Nat) (x:O6):J3 A (A.setEnds a x):=⟨rfl,Kt _ _,rfl,rfl,fun _=>⟨rfl,rfl,rfl⟩⟩
theorem J3.setNode {a:Nat} (h:a<A.l.length) (x:Node) (hx:x.key=(A.node a).key∧x.freq=(A.node a).freq∧x.q=(A.node a).q):J3 A (A.setNode a x):=
 ⟨ID _ _,rfl,rfl,rfl,fun m=>by
  rw[Dx h]
  split
  ·rename_i e;subst e;exact hx
  ·exact⟨rfl,rfl,rfl⟩⟩
theorem Wo {l:List Nat} (h0:∀m∈l,m≠0) (h:l.getLastD 0=0):l=[]:=by
 rcases C8 l with h1|⟨l0,a,h1⟩
 ·exact h1
 ·rw[C9]at h1
  rw[h1]at h
  simp at h
  exact absurd h (h0 a (by rw[h1];simp))
theorem Wu {l:List Nat} (h0:∀m∈l,m≠0) (h:l.headD 0=0):l=[]:=by
 cases l with
 |nil=>rfl
 |cons x r=>exact absurd h (h0 x (by simp))
structure nK (A A':Am) (k:Nat) (l1 l2:List Nat):Prop where
 like:J3 A A'
 bd:A'.Bd
 dll:Lp A'.node 0 (l1++l2) 0
 head:(A'.ends k).head=(l1++l2).headD 0
 tail:(A'.ends k).tail=(l1++l2).getLastD 0
 n:(A'.ends k).n=(A.ends k).n-1
 others:∀m,m≠k→A'.ends m=A.ends m
 far:∀m,m∉l1++l2→A'.node m=A.node m
theorem kv (hb:A.Bd) {k n:Nat} {l1 l2:List Nat} (hk:k<A.qs.length) (hm:∀m∈l1++n::l2,m≠0∧m<A.l.length) (hq:(A.node n).q=k) (hd:Lp A.node 0 (l1++n::l2) 0) (hn:(l1++n::l2).Nodup)
  (hh:(A.ends k).head=(l1++n::l2).headD 0) (ht:(A.ends k).tail=(l1++n::l2).getLastD 0):nK A (A.unlink n) k l1 l2:=by
 obtain⟨d1,d2⟩:=Lp.append.1 hd
 obtain⟨e1,e2,d3⟩:=d2
 have xH:(A.node n).q.toNat=k:=by omega
 have J6:∀m∈l1,m≠0∧m<A.l.length:=fun m h=>hm m (by simp[h])
 have Ik:∀m∈l2,m≠0∧m<A.l.length:=fun m h=>hm m (by simp[h])
 have oK:=hm n (by simp)
 have Uu:=B5.1 hn
 have PR:n∉l2∧l2.Nodup:=BK.1 Uu.2.1
 have XU:n∉l1:=fun h=>Uu.2.2 n h n (by simp) rfl
 have tz:∀m,m∈l1→m∉l2:=fun m h1 h2=>Uu.2.2 m h1 m (by simp[h2]) rfl
 have Xk:=hb.at_ oK.2
 have s1:J3 A (A.unlink1 (A.node n))∧(A.unlink1 (A.node n)).Bd∧Lp (A.unlink1 (A.node n)).node 0 l1 (l2.headD 0)∧Lp (A.unlink1 (A.node n)).node n l2 0∧
   ((A.unlink1 (A.node n)).ends k).head=(l1++l2).headD 0∧((A.unlink1 (A.node n)).ends k).tail=(A.ends k).tail∧((A.unlink1 (A.node n)).ends k).n=(A.ends k).n∧
   (∀m,m≠k→(A.unlink1 (A.node n)).ends m=A.ends m)∧(∀m,m∉l1→(A.unlink1 (A.node n)).node m=A.node m):=by
  unfold Am.unlink1
  by_cases hp:(A.node n).prev=0
  ·rw[Ak hp,xH]
   have hl:l1=[]:=Wo (fun m h=>(J6 m h).1) (e1.symm.trans hp)
   subst hl
   have eb:=hb.of_q hk
   refine⟨J3.setEnds _ _ _,hb.setEnds _ _ ⟨Xk.2.1,eb.2.1,eb.2.2⟩,trivial,d3,?_,?_,?_,?_,fun _ _=>rfl⟩
   ·rw[BO hk,Ak rfl];exact e2
   ·rw[BO hk,Ak rfl]
   ·rw[BO hk,Ak rfl]
   ·intro m Pg;rw[BO hk,Ad Pg]
  ·rw[Ad hp]
   obtain⟨l0,a,hl⟩:∃l0 a,l1=l0++[a]:=by
    rcases C8 l1 with h1|⟨l0,a,h1⟩
    ·rw[h1]at e1;exact absurd e1 hp
    ·exact⟨l0,a,by rw[h1,C9]⟩
   have ha:(A.node n).prev=a:=by rw[e1,hl];simp
   have Wv:a∈l1:=by rw[hl];simp
   have VC:=J6 a Wv
   have jN:=hb.at_ VC.2
   rw[ha]
   refine⟨J3.setNode VC.2 _ ⟨rfl,rfl,rfl⟩,hb.setNode _ _ ⟨jN.1,Xk.2.1,jN.2.2⟩,?_,?_,?_,rfl,rfl,fun _ _=>rfl,?_⟩
   ·rw[hl]at d1 ⊢
    refine Lp.setLast (nd:=A.node) (fun m hm=>by rw[Dx VC.2,Ad hm]) ?_ ?_ ?_ d1
    ·rw[Dx VC.2,Ak rfl]
    ·rw[Dx VC.2,Ak rfl];exact e2
    ·rw[←hl];exact Uu.1
   ·exact Lp.congr (fun m hm=>by rw[Dx VC.2,Ad (fun(e:m=a)=>tz a Wv (e▸hm))];exact⟨rfl,rfl⟩) d3
   ·show(A.ends k).head=_
    rw[hh,hl]
    simp[MY]
   ·intro m hm
    rw[Dx VC.2,Ad (fun(e:m=a)=>hm (e▸Wv))]
 obtain⟨k1,b1,f1,f2,f3,f4,f5,f6,f7⟩:=s1
 have hx:A.unlink n=((A.unlink1 (A.node n)).unlink2 (A.node n)).unlink3 (A.node n):=rfl
 rw[hx]
 generalize A.unlink1 (A.node n)=B at*
 have Tl:k<B.qs.length:=by rw[k1.q];exact hk
 have s2:J3 B (B.unlink2 (A.node n))∧(B.unlink2 (A.node n)).Bd∧Lp (B.unlink2 (A.node n)).node 0 l1 (l2.headD 0)∧Lp (B.unlink2 (A.node n)).node (l1.getLastD 0) l2 0∧
   ((B.unlink2 (A.node n)).ends k).head=(l1++l2).headD 0∧((B.unlink2 (A.node n)).ends k).tail=(l1++l2).getLastD 0∧((B.unlink2 (A.node n)).ends k).n=(A.ends k).n∧
   (∀m,m≠k→(B.unlink2 (A.node n)).ends m=A.ends m)∧(∀m,m∉l1++l2→(B.unlink2 (A.node n)).node m=A.node m):=by
  have zn:(A.node n).prev<B.l.length:=by rw[k1.l];exact Xk.1
  unfold Am.unlink2
  by_cases hp:(A.node n).next=0
  ·rw[Ak hp,xH]
   have hl:l2=[]:=Wu (fun m h=>(Ik m h).1) (e2.symm.trans hp)
   subst hl
   have eb:=b1.of_q Tl
   refine⟨J3.setEnds _ _ _,b1.setEnds _ _ ⟨eb.1,zn,eb.2.2⟩,f1,trivial,?_,?_,?_,?_,fun m hm=>f7 m (by simpa using hm)⟩
   ·rw[BO Tl,Ak rfl];exact f3
   ·rw[BO Tl,Ak rfl]
    simpa using e1
   ·rw[BO Tl,Ak rfl];exact f5
   ·intro m Pg;rw[BO Tl,Ad Pg];exact f6 m Pg
  ·rw[Ad hp]
   obtain⟨b,l3,hl⟩:∃b l3,l2=b::l3:=by
    cases l2 with
    |nil=>exact absurd e2 hp
    |cons b l3=>exact⟨b,l3,rfl⟩
   have ha:(A.node n).next=b:=by rw[e2,hl];rfl
   have Wv:b∈l2:=by rw[hl];simp
   have Hy:=Ik b Wv
   have ci:b<B.l.length:=by rw[k1.l];exact Hy.2
   have jN:=b1.at_ ci
   rw[ha]
   refine⟨J3.setNode ci _ ⟨rfl,rfl,rfl⟩,b1.setNode _ _ ⟨zn,jN.2⟩,?_,?_,f3,?_,f5,f6,?_⟩
   ·exact Lp.congr (fun m hm=>by rw[Dx ci,Ad (fun(e:m=b)=>tz m hm (e▸Wv))];exact⟨rfl,rfl⟩) f1
   ·rw[hl]at f2 ⊢
    refine Lp.setHead (nd:=B.node) (fun m hm=>by rw[Dx ci,Ad hm]) ?_ ?_ ?_ f2
    ·rw[Dx ci,Ak rfl];exact e1
    ·rw[Dx ci,Ak rfl]
    ·rw[hl]at PR;exact(BK.1 PR.2).1
   ·show(B.ends k).tail=_
    rw[f4,ht,hl]
    have:(l1++n::b::l3)=(l1++[n])++(b::l3):=by simp
    rw[this,JP,JP]
    simp[List.getLast?_append]
   ·intro m hm
    have Ic:m∉l1∧m∉l2:=by simpa using hm
    rw[Dx ci,Ad (fun(e:m=b)=>Ic.2 (e▸Wv))]
    exact f7 m Ic.1
 obtain⟨k2,b2,g1,g2,g3,g4,g5,g6,g7⟩:=s2
 generalize B.unlink2 (A.node n)=C at*
 have mw:k<C.qs.length:=by rw[k2.q];exact Tl
 have eb:=b2.of_q mw
 unfold Am.unlink3
 rw[xH]
 refine⟨(k1.trans k2).trans (J3.setEnds _ _ _),b2.setEnds _ _ ⟨eb.1,eb.2.1,by show(C.ends k).n-1≤_;omega⟩,Lp.append.2 ⟨g1,g2⟩,?_,?_,?_,?_,g7⟩
 ·rw[BO mw,Ak rfl];exact g3
 ·rw[BO mw,Ak rfl];exact g4
 ·rw[BO mw,Ak rfl];show(C.ends k).n-1=_;rw[g5]
 ·intro m Pg;rw[BO mw,Ad Pg];exact g6 m Pg
structure wH (A A':Am) (n k:Nat) (l:List Nat):Prop where
 len:A'.l.length=A.l.length
 q:A'.qs.length=A.qs.length
 free:A'.free=A.free
 at_:A'.at_=A.at_
 node:∀m,(A'.node m).key=(A.node m).key∧(A'.node m).freq=(A.node m).freq∧(A'.node m).q=if m=n then(k:Int)else(A.node m).q
 bd:A'.Bd
 dll:Lp A'.node 0 l 0
 head:(A'.ends k).head=l.headD 0
 tail:(A'.ends k).tail=l.getLastD 0
 n:(A'.ends k).n=(A.ends k).n+1
 others:∀m,m≠k→A'.ends m=A.ends m
 far:∀m,m∉l→A'.node m=A.node m
theorem uM (hb:A.Bd) {k n:Nat} {l:List Nat} (tl:Bool) (hk:k<A.qs.length) (hm:∀m∈l,m≠0∧m<A.l.length) (hn:n≠0∧n<A.l.length) (jH:n∉l) (hd:Lp A.node 0 l 0) (IZ:l.Nodup)
  (hh:(A.ends k).head=l.headD 0) (ht:(A.ends k).tail=l.getLastD 0) (_p:(A.ends k).n+1≤1000000):wH A (A.link n k tl) n k (if tl then l++[n]else n::l):=by
 have eb:=hb.of_q hk
 have nb:=hb.at_ hn.2
 have k0:∀m,((A.setNode n (AZ A n k tl)).node m).key=(A.node m).key∧((A.setNode n (AZ A n k tl)).node m).freq=(A.node m).freq∧((A.setNode n (AZ A n k tl)).node m).q=if m=n then(k:Int)else(A.node m).q:=by
  intro m
  rw[Dx hn.2]
  split
  ·rename_i e;subst e;exact⟨rfl,rfl,rfl⟩
  ·exact⟨rfl,rfl,rfl⟩
 have b0:(A.setNode n (AZ A n k tl)).Bd:=by
  refine hb.setNode _ _ ⟨?_,?_,?_,nb.2.2.2⟩
  ·unfold AZ;cases tl<;>simp<;>omega
  ·unfold AZ;cases tl<;>simp<;>omega
  ·show(k:Int)≤_;omega
 have d0:Lp (A.setNode n (AZ A n k tl)).node 0 l 0:=Lp.congr (fun m hm=>by rw[Dx hn.2,Ad (fun(e:m=n)=>jH (e▸hm))];exact⟨rfl,rfl⟩) hd
 have n0:(A.setNode n (AZ A n k tl)).node n=AZ A n k tl:=by rw[Dx hn.2,Ak rfl]
 have l0:(A.setNode n (AZ A n k tl)).l.length=A.l.length:=ID _ _
 have Ae3:∀m,m≠n→(A.setNode n (AZ A n k tl)).node m=A.node m:=fun m hm=>by rw[Dx hn.2,Ad hm]
 have hx:A.link n k tl=(((A.setNode n (AZ A n k tl)).link1 n k (AZ A n k tl)).link2 n k (AZ A n k tl)).link3 k:=rfl
 rw[hx]
 have q0:(A.setNode n (AZ A n k tl)).qs.length=A.qs.length:=rfl
 have fr0:(A.setNode n (AZ A n k tl)).free=A.free:=rfl
 have at0:(A.setNode n (AZ A n k tl)).at_=A.at_:=rfl
 have _C:∀m,(A.setNode n (AZ A n k tl)).ends m=A.ends m:=fun _=>rfl
 have xp:(AZ A n k tl).prev=if tl then l.getLastD 0 else 0:=by unfold AZ;simp[ht]
 have xn:(AZ A n k tl).next=if tl then 0 else l.headD 0:=by unfold AZ;simp[hh]
 generalize A.setNode n (AZ A n k tl)=B at*
 generalize AZ A n k tl=x at*
 have Tl:k<B.qs.length:=by omega
 have oL:n<B.l.length:=by omega
 suffices H:∀C:Am,C=(B.link1 n k x).link2 n k x→J3 B C∧C.Bd∧Lp C.node 0 (if tl then l++[n]else n::l) 0∧(C.ends k).head=(if tl then l++[n]else n::l).headD 0∧(C.ends k).tail=(if tl then l++[n]else n::l).getLastD 0∧
   (C.ends k).n=(B.ends k).n∧(∀m,m≠k→C.ends m=B.ends m)∧(∀m,m∉n::l→C.node m=B.node m) by
  obtain⟨c1,c2,c3,c4,c5,c6,c7,c8⟩:=H _ rfl
  generalize (B.link1 n k x).link2 n k x=C at*
  have mw:k<C.qs.length:=by rw[c1.q];exact Tl
  have ec:=c2.of_q mw
  unfold Am.link3
  refine⟨c1.l.trans l0,(Kt _ _).trans (c1.q.trans q0),c1.free.trans fr0,c1.at_.trans at0,?_,c2.setEnds _ _ ⟨ec.1,ec.2.1,by show(C.ends k).n+1≤_;rw[c6,_C];exact _p⟩,c3,?_,?_,?_,?_,?_⟩
  ·intro m
   have h1:=c1.node m
   have h2:=k0 m
   exact⟨h1.1.trans h2.1,h1.2.1.trans h2.2.1,h1.2.2.trans h2.2.2⟩
  ·rw[BO mw,Ak rfl];exact c4
  ·rw[BO mw,Ak rfl];exact c5
  ·rw[BO mw,Ak rfl];show(C.ends k).n+1=_;rw[c6,_C]
  ·intro m Pg;rw[BO mw,Ad Pg,c7 m Pg,_C]
  ·intro m xE
   have zp:m∉n::l:=by
    intro h;apply xE
    cases tl with
    |false=>exact h
    |true=>rcases Bt.1 h with h|h<;>simp[h]
   show C.node m=_
   rw[c8 m zp,Ae3 m (fun e=>zp (by simp[e]))]
 intro C hC
 cases tl with
 |false=>
  simp only[An,A1]at xp xn ⊢
  have e1:B.link1 n k x=B.setEnds k {(B.ends k)with head:=n}:=by unfold Am.link1;rw[Ak xp]
  rw[e1]at hC
  have ebB:=b0.of_q Tl
  have b1:(B.setEnds k {(B.ends k)with head:=n}).Bd:=b0.setEnds _ _ ⟨oL,ebB.2⟩
  have Bi:k<(B.setEnds k {(B.ends k)with head:=n}).qs.length:=by rw[Kt];exact Tl
  by_cases hz:x.next=0
  ·have hl:l=[]:=Wu (fun m h=>(hm m h).1) (xn.symm.trans hz)
   subst hl
   have e2:C=(B.setEnds k {(B.ends k)with head:=n}).setEnds k {((B.setEnds k {(B.ends k)with head:=n}).ends k)with tail:=n}:=by rw[hC];unfold Am.link2;rw[Ak hz]
   subst e2
   have tA:=b1.of_q Bi
   refine⟨(J3.setEnds _ _ _).trans (J3.setEnds _ _ _),b1.setEnds _ _ ⟨tA.1,oL,tA.2.2⟩,?_,?_,?_,?_,?_,fun _ _=>rfl⟩
   ·exact⟨by show(B.node n).prev=0;rw[n0];exact xp,by show(B.node n).next=0;rw[n0];exact hz,trivial⟩
   ·rw[BO Bi,Ak rfl];show((B.setEnds k _).ends k).head=_;rw[BO Tl,Ak rfl];rfl
   ·rw[BO Bi,Ak rfl];rfl
   ·rw[BO Bi,Ak rfl];show((B.setEnds k _).ends k).n=_;rw[BO Tl,Ak rfl]
   ·intro m Pg;rw[BO Bi,Ad Pg,BO Tl,Ad Pg]
  ·obtain⟨b,r,hl⟩:∃b r,l=b::r:=by
    cases l with
    |nil=>exact absurd xn hz
    |cons b r=>exact⟨b,r,rfl⟩
   have mb:x.next=b:=by rw[xn,hl];rfl
   have xQ:=hm b (by rw[hl];simp)
   have oO:b<B.l.length:=by omega
   have z9:b≠n:=fun e=>jH (by rw[←e,hl];simp)
   have e2:C=(B.setEnds k {(B.ends k)with head:=n}).setNode b {(B.node b)with prev:=n}:=by rw[hC];unfold Am.link2;rw[Ad hz,mb];rfl
   subst e2
   have bb:=b0.at_ oO
   have ns:∀m,((B.setEnds k {(B.ends k)with head:=n}).setNode b {(B.node b)with prev:=n}).node m=if m=b then {(B.node b)with prev:=n}else B.node m:=fun m=>Dx (A:=B.setEnds k {(B.ends k)with head:=n}) oO _ m
   refine⟨(J3.setEnds B k {(B.ends k)with head:=n}).trans (J3.setNode (A:=B.setEnds k {(B.ends k)with head:=n}) oO {(B.node b)with prev:=n} ⟨rfl,rfl,rfl⟩),b1.setNode _ _ ⟨oL,bb.2.1,by rw[Kt];exact bb.2.2.1,bb.2.2.2⟩,?_,?_,?_,?_,?_,?_⟩
   ·refine⟨?_,?_,?_⟩
    ·rw[ns,Ad (fun e=>z9 e.symm),n0];exact xp
    ·rw[ns,Ad (fun e=>z9 e.symm),n0];exact xn
    ·rw[hl]at d0 ⊢
     refine Lp.setHead (nd:=B.node) (fun m hm=>by rw[ns,Ad hm]) ?_ ?_ ?_ d0
     ·rw[ns,Ak rfl]
     ·rw[ns,Ak rfl]
     ·rw[hl]at IZ;exact(BK.1 IZ).1
   ·show((B.setEnds k _).ends k).head=_;rw[BO Tl,Ak rfl];rfl
   ·show((B.setEnds k _).ends k).tail=_;rw[BO Tl,Ak rfl]
    show(B.ends k).tail=_
    rw[_C,ht,I6,hl,I6,I6]
   ·show((B.setEnds k _).ends k).n=_;rw[BO Tl,Ak rfl]
   ·intro m Pg;show(B.setEnds k _).ends m=_;rw[BO Tl,Ad Pg]
   ·intro m xE
    rw[ns,Ad (fun e=>xE (by rw[e,hl];simp))]
 |true=>
  simp only[A0]at xp xn ⊢
  have e2:∀D:Am,D.link2 n k x=D.setEnds k {(D.ends k)with tail:=n}:=by intro D;unfold Am.link2;rw[Ak xn]
  rw[e2]at hC
  by_cases hz:x.prev=0
  ·have hl:l=[]:=Wo (fun m h=>(hm m h).1) (xp.symm.trans hz)
   subst hl
   have e1:B.link1 n k x=B.setEnds k {(B.ends k)with head:=n}:=by unfold Am.link1;rw[Ak hz]
   rw[e1]at hC
   subst hC
   have ebB:=b0.of_q Tl
   have b1:(B.setEnds k {(B.ends k)with head:=n}).Bd:=b0.setEnds _ _ ⟨oL,ebB.2⟩
   have Bi:k<(B.setEnds k {(B.ends k)with head:=n}).qs.length:=by rw[Kt];exact Tl
   have tA:=b1.of_q Bi
   refine⟨(J3.setEnds _ _ _).trans (J3.setEnds _ _ _),b1.setEnds _ _ ⟨tA.1,oL,tA.2.2⟩,?_,?_,?_,?_,?_,fun _ _=>rfl⟩
   ·exact⟨by show(B.node n).prev=0;rw[n0];exact hz,by show(B.node n).next=0;rw[n0];exact xn,trivial⟩
   ·rw[BO Bi,Ak rfl];show((B.setEnds k _).ends k).head=_;rw[BO Tl,Ak rfl];rfl
   ·rw[BO Bi,Ak rfl];rfl
   ·rw[BO Bi,Ak rfl];show((B.setEnds k _).ends k).n=_;rw[BO Tl,Ak rfl]
   ·intro m Pg;rw[BO Bi,Ad Pg,BO Tl,Ad Pg]
  ·obtain⟨r,b,hl⟩:∃r b,l=r++[b]:=by
    rcases C8 l with h1|⟨l0,a,h1⟩
    ·rw[h1]at xp;exact absurd xp hz
    ·exact⟨l0,a,by rw[h1,C9]⟩
   have mb:x.prev=b:=by rw[xp,hl];simp
   have xQ:=hm b (by rw[hl];simp)
   have oO:b<B.l.length:=by omega
   have z9:b≠n:=fun e=>jH (by rw[←e,hl];simp)
   have e1:B.link1 n k x=B.setNode b {(B.node b)with next:=n}:=by unfold Am.link1;rw[Ad hz,mb]
   rw[e1]at hC
   subst hC
   have bb:=b0.at_ oO
   have b1:(B.setNode b {(B.node b)with next:=n}).Bd:=b0.setNode _ _ ⟨bb.1,oL,bb.2.2⟩
   have tA:=b1.of_q (n:=k) Tl
   have ns:∀m,(B.setNode b {(B.node b)with next:=n}).node m=if m=b then {(B.node b)with next:=n}else B.node m:=fun m=>Dx oO _ m
   have ek:∀y m,((B.setNode b {(B.node b)with next:=n}).setEnds k y).ends m=if m=k then y else B.ends m:=fun y m=>BO (A:=B.setNode b {(B.node b)with next:=n}) Tl y m
   refine⟨(J3.setNode oO {(B.node b)with next:=n} ⟨rfl,rfl,rfl⟩).trans (J3.setEnds _ _ _),b1.setEnds _ _ ⟨tA.1,by rw[ID];exact oL,tA.2.2⟩,?_,?_,?_,?_,?_,?_⟩
   ·show Lp (B.setNode b {(B.node b)with next:=n}).node 0 (l++[n]) 0
    refine Lp.append.2 ⟨?_,?_⟩
    ·rw[hl]at d0 ⊢
     refine Lp.setLast (nd:=B.node) (s:=0) (s':=n) (fun m hm=>by rw[ns,Ad hm]) ?_ ?_ ?_ d0
     ·rw[ns,Ak rfl]
     ·rw[ns,Ak rfl]
     ·rw[←hl];exact IZ
    ·refine⟨?_,?_,trivial⟩
     ·rw[ns,Ad (fun e=>z9 e.symm),n0];exact xp
     ·rw[ns,Ad (fun e=>z9 e.symm),n0];exact xn
   ·rw[ek,Ak rfl]
    show(B.ends k).head=_
    rw[_C,hh,hl]
    simp[MY]
   ·rw[ek,Ak rfl];simp
   ·rw[ek,Ak rfl];rfl
   ·intro m Pg;rw[ek,Ad Pg]
   ·intro m xE
    show(B.setNode b _).node m=_
    rw[ns,Ad (fun e=>xE (by rw[e,hl];simp))]
end
def CQ (A:Am) (n:Nat):Lo:=⟨(A.node n).key,(A.node n).freq⟩
structure CM (A:Am) (ns:List (List Nat)) (qs:List (List Lo)):Prop where
 bd:A.Bd
 len:ns.length=A.qs.length
 q8:A.qs.length≤8
 ends:∀(k:Nat) l,ns[k]?=some l→(A.ends k).head=l.headD 0∧(A.ends k).tail=l.getLastD 0∧(A.ends k).n=l.length
 dll:∀(k:Nat) l,ns[k]?=some l→Lp A.node 0 l 0
 mem:∀(k:Nat) l,ns[k]?=some l→∀n∈l,n≠0∧n<A.l.length∧(A.node n).q=k
 nodup:∀(k:Nat) l,ns[k]?=some l→l.Nodup
 fifty:∀(k:Nat) l,ns[k]?=some l→l.length≤50
 ent:qs=ns.map (fun l=>l.map (CQ A))
 idx:∀key n,A.idx key=some n↔∃(k:Nat) (l:List Nat),ns[k]?=some l∧n∈l∧(A.node n).key=key
 atn:(A.at_.map (·.1)).Nodup
 free:∀n∈A.free,n≠0∧n<A.l.length∧(A.node n).q= -1
 freen:A.free.Nodup
 cnt:A.l.length=1+(ns.map List.length).sum+A.free.length
 lb:A.l.length≤1+50*A.qs.length
theorem WR:∀(l:List Nat) (k x y:Nat),l[k]?=some x→(l.set k y).sum+x=l.sum+y
 | [],k,x,y,h=>by simp at h
 |a::l,0,x,y,h=>by simp at h;subst h;simp;omega
 |a::l,k+1,x,y,h=>by
  have:=WR l k x y (by simpa using h)
  simp;omega
theorem TM:∀(l:List Nat) (b:Nat),(∀x∈l,x≤b)→l.sum≤b*l.length
 | [],_,_=>by simp
 |a::l,b,h=>by
  have h1:=TM l b (fun x hx=>h x (by simp[hx]))
  have h2:=h a (by simp)
  simp only[List.sum_cons,Ac,jY,Jm]
  omega
section
variable {A:Am} {ns:List (List Nat)} {qs:List (List Lo)}
theorem CM.ok (h:CM A ns qs):A.Ok:=by
 have h1:=h.cnt
 have h2:=h.lb
 have h3:=h.q8
 refine⟨by omega,by omega,h.bd.node,fun n hn=>(h.free n hn).2.1,by omega,h.bd.ends,fun key n hn=>?_⟩
 obtain⟨k,l,a,b,c⟩:=(h.idx key n).1 hn
 obtain⟨_,d,e⟩:=h.mem k l a n b
 exact⟨d,by omega⟩
theorem KQ {key:Int}:∀{l:List Lo} {i:Nat},(∀e∈l,e.key≠key)→Hm key l i=none
 | [],_,_=>rfl
 |e::l,i,h=>by rw[Hm,Ad (h e (by simp))];exact KQ (fun x hx=>h x (by simp[hx]))
theorem NP {key:Int}:∀{l1 l2:List Lo} {e:Lo} {i:Nat},(∀e∈l1,e.key≠key)→e.key=key→Hm key (l1++e::l2) i=some (i+l1.length)
 | [],_,e,i,_,h=>by simp[Hm,h]
 |x::l1,l2,e,i,h1,h=>by
  rw[A8,Hm,Ad (h1 x (by simp)),NP (fun x hx=>h1 x (by simp[hx])) h]
  simp;omega
theorem NH {key:Int}:∀{q:List (List Lo)} {k:Nat},(∀l∈q,∀e∈l,e.key≠key)→Hi key q k=none
 | [],_,_=>rfl
 |l::q,k,h=>by rw[Hi,KQ (h l (by simp))];exact NH (fun x hx=>h x (by simp[hx]))
theorem NG {key:Int}:∀{q:List (List Lo)} {j k:Nat} {l1 l2:List Lo} {e:Lo},(∀(i:Nat) l,i<j→q[i]?=some l→∀e∈l,e.key≠key)→q[j]?=some (l1++e::l2)→(∀e∈l1,e.key≠key)→e.key=key→
  Hi key q k=some (k+j,l1.length)
 | [],j,k,_,_,_,_,h,_,_=>by simp at h
 |l::q,0,k,l1,l2,e,h1,h2,h3,h4=>by
  simp only[Bm,De]at h2
  subst h2
  rw[Hi,NP h3 h4]
  simp
 |l::q,j+1,k,l1,l2,e,h1,h2,h3,h4=>by
  rw[Hi,KQ (h1 0 l (by omega) rfl)]
  have:=NG (q:=q) (j:=j) (k:=k+1) (fun i l hi hl=>h1 (i+1) l (by omega) (by simpa using hl)) (by simpa using h2) h3 h4
  rw[show k+(j+1)=k+1+j by omega]
  exact this
theorem CM.uniq (h:CM A ns qs) {k k':Nat} {l l':List Nat} {n n':Nat} (h1:ns[k]?=some l) (h2:n∈l) (h3:ns[k']?=some l') (h4:n'∈l') (e:(A.node n).key=(A.node n').key):n=n'∧k=k':=by
 have x1:=(h.idx (A.node n').key n).2 ⟨k,l,h1,h2,e⟩
 have x2:=(h.idx (A.node n').key n').2 ⟨k',l',h3,h4,rfl⟩
 rw[x1]at x2
 injection x2 with x2
 subst x2
 have m1:=(h.mem k l h1 n h2).2.2
 have m2:=(h.mem k' l' h3 n h4).2.2
 exact⟨rfl,by omega⟩
theorem CM.at_q (h:CM A ns qs) {k:Nat} {l:List Nat} (h1:ns[k]?=some l):qs[k]?=some (l.map (CQ A)):=by
 rw[h.ent,Az,h1];rfl
theorem CM.at_lt (h:CM A ns qs) {k:Nat} {l:List Nat} (h1:ns[k]?=some l):k<A.qs.length:=by
 rw[←h.len];exact(Ap.1 h1).1
theorem CM.get (h:CM A ns qs) {k:Nat} (hk:k<A.qs.length):∃l,ns[k]?=some l:=⟨_,Ah (by rw[h.len];exact hk)⟩
theorem CM.qlen (h:CM A ns qs):qs.length=A.qs.length:=by rw[h.ent,J7,h.len]
theorem CM.find_some (h:CM A ns qs) {key:Int} {n:Nat} (hi:A.idx key=some n) (vars:List Int):
  ∃(k:Nat) (l1 l2:List Nat),ns[k]?=some (l1++n::l2)∧(⟨qs,vars⟩:St).find key=some (k,l1.length)∧(A.node n).key=key∧(A.node n).q=k:=by
 obtain⟨k,l,a,b,c⟩:=(h.idx key n).1 hi
 obtain⟨l1,l2,rfl⟩:=List.append_of_mem b
 refine⟨k,l1,l2,a,?_,c,(h.mem k _ a n b).2.2⟩
 have IZ:=h.nodup k _ a
 have Uu:=B5.1 IZ
 unfold St.find
 have hq:=h.at_q a
 rw[CJ,Cq]at hq
 have:=NG (key:=key) (q:=qs) (j:=k) (k:=0) (l1:=l1.map (CQ A)) (l2:=l2.map (CQ A)) (e:=CQ A n) ?_ hq ?_ c
 ·rw[this];simp
 ·intro i l hi hl e he vV
  rw[h.ent,Az]at hl
  cases hx:ns[i]? with
  |none=>rw[hx]at hl;cases hl
  |some l'=>
   rw[hx]at hl
   simp at hl
   subst hl
   obtain⟨m,hm,rfl⟩:=AT.1 he
   have:=(h.uniq hx hm a b (vV.trans c.symm)).2
   omega
 ·intro e he vV
  obtain⟨m,hm,rfl⟩:=AT.1 he
  have:=(h.uniq a (by simp[hm]) a b (vV.trans c.symm)).1
  subst this
  exact Uu.2.2 m hm m (by simp) rfl
theorem CM.find_none (h:CM A ns qs) {key:Int} (hi:A.idx key=none) (vars:List Int):(⟨qs,vars⟩:St).find key=none:=by
 refine NH fun l hl e he vV=>?_
 rw[h.ent]at hl
 obtain⟨l',Uy,rfl⟩:=AT.1 hl
 obtain⟨m,hm,rfl⟩:=AT.1 he
 obtain⟨k,hk⟩:=U2.1 Uy
 have:=(h.idx key m).2 ⟨k,l',hk,hm,vV⟩
 rw[hi]at this
 cases this
theorem CM.where_ (h:CM A ns qs) (key:Int) (vars:List Int):A.where_ key=FG ⟨qs,vars⟩ key:=by
 unfold Am.where_ FG
 cases hi:A.idx key with
 |none=>rw[h.find_none hi vars]
 |some n=>
  obtain⟨k,l1,l2,a,b,c,d⟩:=h.find_some hi vars
  rw[b]
  exact d
theorem CM.len_ (h:CM A ns qs) (vars:List Int) {k:Nat} (hk:k<A.qs.length):A.len k=((⟨qs,vars⟩:St).queue (k:Int)).length:=by
 obtain⟨l,hl⟩:=h.get hk
 unfold Am.len St.queue
 rw[(h.ends k l hl).2.2]
 simp[h.at_q hl]
theorem CM.queue (h:CM A ns qs) (vars:List Int) {k:Nat} {l:List Nat} (hl:ns[k]?=some l):(⟨qs,vars⟩:St).queue (k:Int)=l.map (CQ A):=by
 unfold St.queue
 simp[h.at_q hl]
theorem Mz (A:Am) (l1 l2:List Nat) (n:Nat):Ey ((l1++n::l2).map (CQ A)) l1.length=CQ A n:=by
 unfold Ey
 simp
theorem Ss (A:Am) (l:List Nat) (h:l≠ []):CA (l.map (CQ A))=CQ A (l.getLastD 0):=by
 rcases C8 l with h1|⟨l0,a,h1⟩
 ·exact absurd h1 h
 ·rw[C9]at h1
  subst h1
  unfold CA
  have:=Mz A l0 [] a
  simp at this ⊢
  simpa using this
theorem CM.tail_ (h:CM A ns qs) (vars:List Int) {k:Nat} (hk:k<A.qs.length) (Cu:(⟨qs,vars⟩:St).queue (k:Int)≠ []):A.tail k=(CA ((⟨qs,vars⟩:St).queue (k:Int))).key:=by
 obtain⟨l,hl⟩:=h.get hk
 rw[h.queue vars hl]at Cu ⊢
 have Vd:l≠ []:=by rintro rfl;exact Cu rfl
 rw[Ss A l Vd]
 unfold Am.tail
 rw[(h.ends k l hl).2.1]
 rfl
theorem CM.freq_ (h:CM A ns qs) (vars:List Int) (key:Int):A.freqOf key=freqOf ⟨qs,vars⟩ key:=by
 unfold Am.freqOf freqOf
 cases hi:A.idx key with
 |none=>rw[h.find_none hi vars]
 |some n=>
  obtain⟨k,l1,l2,a,b,c,d⟩:=h.find_some hi vars
  rw[b]
  show _=(Ey ((⟨qs,vars⟩:St).queue (k:Int)) l1.length).freq
  rw[h.queue vars a,Mz]
  rfl
theorem CM.find_tail (h:CM A ns qs) (vars:List Int) {k:Nat} (hk:k<A.qs.length) (Cu:(⟨qs,vars⟩:St).queue (k:Int)≠ []):
  (⟨qs,vars⟩:St).find (CA ((⟨qs,vars⟩:St).queue (k:Int))).key=some (k,((⟨qs,vars⟩:St).queue (k:Int)).length-1):=by
 obtain⟨l,hl⟩:=h.get hk
 rw[h.queue vars hl]at Cu ⊢
 have Vd:l≠ []:=by rintro rfl;exact Cu rfl
 rw[Ss A l Vd]
 rcases C8 l with h1|⟨l0,a,h1⟩
 ·exact absurd h1 Vd
 ·rw[C9]at h1
  subst h1
  have e:(l0++[a]).getLastD 0=a:=by simp
  rw[e]
  have hi:=(h.idx (CQ A a).key a).2 ⟨k,_,hl,by simp,rfl⟩
  obtain⟨k',l1,l2,x1,x2,x3,x4⟩:=h.find_some hi vars
  have Jj:k'=k:=by
   have:=(h.mem k _ hl a (by simp)).2.2
   omega
  subst Jj
  rw[x1]at hl
  injection hl with hl
  have IZ:=h.nodup k' _ x1
  have:l2=[]:=by
   rcases C8 l2 with h1|⟨l3,b,h1⟩
   ·exact h1
   ·rw[C9]at h1
    subst h1
    have Ik:(l1++a::l3)++[b]=l0++[a]:=by simpa using hl
    have:=List.append_inj_right' Ik rfl
    injection this with this
    subst this
    exact absurd IZ (by simp[B5])
  subst this
  have e2:=List.append_inj_left' hl rfl
  rw[x2,e2]
  simp
theorem Wq {at_:List (Int×Nat)} (hn:(at_.map (·.1)).Nodup) (key k:Int):
  ((at_.eraseP (fun y=>y.1==key)).find? (fun y=>y.1==k)).map (·.2)=if k=key then none else(at_.find? (fun y=>y.1==k)).map (·.2):=by
 induction at_ with
 |nil=>simp
 |cons y l ih=>
  have Zs:=BK.1 hn
  by_cases hy:y.1=key
  ·have hp:(fun y:Int×Nat=>y.1==key) y=true:=by simpa using hy
   rw[List.eraseP_cons_of_pos (p:=fun y:Int×Nat=>y.1==key) hp]
   by_cases hk:k=key
   ·subst hk
    rw[Ak rfl]
    have:l.find? (fun y=>y.1==k)=none:=by
     rw[In]
     intro z hz he
     refine Zs.1 ?_
     have:z.1=y.1:=by simp at he;omega
     show y.1∈_
     rw[←this]
     exact AT.2 ⟨z,hz,rfl⟩
    rw[this];rfl
   ·rw[Ad hk,DE]
    simp;omega
  ·have hp:¬(fun y:Int×Nat=>y.1==key) y=true:=by simpa using hy
   rw[List.eraseP_cons_of_neg (p:=fun y:Int×Nat=>y.1==key) hp]
   by_cases hk:y.1=k
   ·have OF:k≠key:=by omega
    rw[Ad OF,LB (by simpa using hk),LB (by simpa using hk)]
   ·rw[DE (by simpa using hk),DE (by simpa using hk)]
    exact ih Zs.2
theorem Ga {α:Type} {l:List α} {k j:Nat} {x y:α} (h:(l.set k x)[j]?=some y):(j=k∧k<l.length∧y=x)∨(j≠k∧l[j]?=some y):=by
 rw[Bp]at h
 split at h
 ·rename_i e
  split at h
  ·injection h with h
   exact .inl ⟨e.symm,by assumption,h.symm⟩
  ·cases h
 ·rename_i e
  exact .inr ⟨fun x=>e x.symm,h⟩
theorem NT {A':Am} {k:Nat} {l:List Nat} (he:∀(j:Nat) (m:List Nat),j≠k→ns[j]?=some m→m.map (CQ A')=m.map (CQ A)):
  (ns.map (fun l=>l.map (CQ A))).set k (l.map (CQ A'))=(ns.set k l).map (fun l=>l.map (CQ A')):=by
 apply Fg
 intro j
 rw[Bp,Az,Az,Bp]
 by_cases hj:k=j
 ·subst hj
  by_cases hl:k<ns.length
  ·simp[hl]
  ·simp[hl]
 ·simp only[Ad hj]
  cases hx:ns[j]? with
  |none=>rfl
  |some m=>simp only[CZ];rw[he j m (fun e=>hj e.symm) hx]
theorem CM.outAt (h:CM A ns qs) {key:Int} {n k:Nat} {l1 l2:List Nat} (hi:A.idx key=some n) (hl:ns[k]?=some (l1++n::l2)):
  CM (A.outAt key n) (ns.set k (l1++l2)) (qs.set k ((l1++l2).map (CQ A)))∧A.CanUnlink n k∧((A.unlink n).node n).freq=(A.node n).freq:=by
 have hm:=h.mem k _ hl
 have OP:=hm n (by simp)
 have hk:=h.at_lt hl
 have he:=h.ends k _ hl
 have IZ:=h.nodup k _ hl
 have Uz:(A.node n).key=key:=by
  obtain⟨_,_,_,_,c⟩:=(h.idx key n).1 hi
  exact c
 have u:=kv h.bd hk (fun m Ic=>⟨(hm m Ic).1,(hm m Ic).2.1⟩) OP.2.2 (h.dll k _ hl) IZ he.1 he.2.1
 have hcu:A.CanUnlink n k:=⟨OP.2.1,OP.2.2,by rw[he.2.2];simp;omega,hk⟩
 refine⟨?_,hcu,(u.like.node n).2.1⟩
 have Uu:=B5.1 IZ
 have PR:=BK.1 Uu.2.1
 have vK:n∉l1++l2:=by
  intro hx
  rcases CI.1 hx with hx|hx
  ·exact Uu.2.2 n hx n (by simp) rfl
  ·exact PR.1 hx
 have hnU:n<(A.unlink n).l.length:=by rw[u.like.l];exact OP.2.1
 have nd:∀m,(A.outAt key n).node m=if m=n then {((A.unlink n).node n)with q:= -1}else(A.unlink n).node m:=fun m=>Dx (A:=A.unlink n) hnU _ m
 have en:∀m,(A.outAt key n).ends m=(A.unlink n).ends m:=fun _=>rfl
 have hlen:(A.outAt key n).l.length=A.l.length:=(ID (A:=A.unlink n) _ _).trans u.like.l
 have KY:(A.outAt key n).qs.length=A.qs.length:=u.like.q
 have bE:∀m,((A.outAt key n).node m).key=(A.node m).key∧((A.outAt key n).node m).freq=(A.node m).freq:=by
  intro m
  rw[nd]
  split
  ·rename_i e;subst e;exact⟨(u.like.node m).1,(u.like.node m).2.1⟩
  ·exact⟨(u.like.node m).1,(u.like.node m).2.1⟩
 have nq:∀m,m≠n→((A.outAt key n).node m).q=(A.node m).q:=by
  intro m iE
  rw[nd,Ad iE]
  exact(u.like.node m).2.2
 have eo:∀m,CQ (A.outAt key n) m=CQ A m:=by
  intro m;unfold CQ;rw[(bE m).1,(bE m).2]
 have other:∀(j:Nat) l,j≠k→ns[j]?=some l→∀m∈l,m∉l1++n::l2:=by
  intro j l hj sP m Ic hx
  have a1:=(h.mem j l sP m Ic).2.2
  have a2:=(hm m hx).2.2
  omega
 have hub:=u.bd.at_ hnU
 have obd:(A.outAt key n).Bd:=by
  have:=u.bd.setNode n {((A.unlink n).node n)with q:= -1} ⟨hub.1,hub.2.1,by show(-1:Int)≤_;omega,hub.2.2.2⟩
  exact⟨this.node,this.ends⟩
 have vu:=WR (ns.map List.length) k (l1++n::l2).length (l1++l2).length (by rw[Az,hl];rfl)
 refine⟨obd,by rw[BU,KY];exact h.len,by rw[KY];exact h.q8,?_,?_,?_,?_,?_,?_,?_,?_,?_,?_,?_,by rw[hlen,KY];exact h.lb⟩
 ·intro j l hj
  rw[en]
  rcases Ga hj with⟨rfl,_,rfl⟩|⟨Rl,Mx⟩
  ·exact⟨u.head,u.tail,by rw[u.n,he.2.2];simp⟩
  ·rw[u.others j Rl];exact h.ends j l Mx
 ·intro j l hj
  rcases Ga hj with⟨rfl,_,rfl⟩|⟨Rl,Mx⟩
  ·exact Lp.congr (fun m Ic=>by rw[nd,Ad (fun(e:m=n)=>vK (e▸Ic))];exact⟨rfl,rfl⟩) u.dll
  ·refine Lp.congr (fun m Ic=>?_) (h.dll j l Mx)
   have hx:=other j l Rl Mx m Ic
   have RE:m≠n:=fun e=>hx (by simp[e])
   have eI:m∉l1++l2:=fun e=>hx (by simp at e ⊢;rcases e with e|e<;>simp[e])
   rw[nd,Ad RE,u.far m eI]
   exact⟨rfl,rfl⟩
 ·intro j l hj m Ic
  rw[hlen]
  rcases Ga hj with⟨rfl,_,rfl⟩|⟨Rl,Mx⟩
  ·have hx:=hm m (by simp at Ic ⊢;rcases Ic with e|e<;>simp[e])
   rw[nq m (fun e=>vK (e▸Ic))]
   exact hx
  ·have hx:=other j l Rl Mx m Ic
   rw[nq m (fun e=>hx (by simp[e]))]
   exact h.mem j l Mx m Ic
 ·intro j l hj
  rcases Ga hj with⟨rfl,_,rfl⟩|⟨Rl,Mx⟩
  ·have:(l1++l2).Sublist (l1++n::l2):=List.Sublist.append (List.Sublist.refl _) (List.sublist_cons_self _ _)
   exact this.nodup IZ
  ·exact h.nodup j l Mx
 ·intro j l hj
  rcases Ga hj with⟨rfl,_,rfl⟩|⟨Rl,Mx⟩
  ·have:=h.fifty j _ hl
   simp at this ⊢
   omega
  ·exact h.fifty j l Mx
 ·have e1:(l1++l2).map (CQ A)=(l1++l2).map (CQ (A.outAt key n)):=DK (fun m _=>(eo m).symm)
  rw[e1,h.ent,NT (fun j m _ _=>DK (fun m _=>eo m))]
 ·intro MU m
  have e0:(A.outAt key n).idx MU=if MU=key then none else A.idx MU:=Wq h.atn key MU
  rw[e0]
  constructor
  ·intro hx
   split at hx
   ·cases hx
   ·rename_i Cu
    obtain⟨j,l,a,b,c⟩:=(h.idx MU m).1 hx
    have iE:m≠n:=by rintro rfl;exact Cu (c.symm.trans Uz)
    by_cases Rl:j=k
    ·subst Rl
     rw[hl]at a
     injection a with a
     subst a
     refine⟨j,l1++l2,by rw[Bp];simp[h.len,hk],?_,by rw[(bE m).1];exact c⟩
     simp at b ⊢
     rcases b with b|b|b
     ·exact .inl b
     ·exact absurd b iE
     ·exact .inr b
    ·exact⟨j,l,by rw[Bp,Ad (fun e=>Rl e.symm)];exact a,b,by rw[(bE m).1];exact c⟩
  ·rintro⟨j,l,a,b,c⟩
   rw[(bE m).1]at c
   rcases Ga a with⟨rfl,_,rfl⟩|⟨Rl,Mx⟩
   ·have iE:m≠n:=fun e=>vK (e▸b)
    have LV:m∈l1++n::l2:=by simp at b ⊢;rcases b with e|e<;>simp[e]
    have Cu:MU≠key:=by
     rintro rfl
     exact iE (h.uniq hl LV hl (by simp) (c.trans Uz.symm)).1
    rw[Ad Cu]
    exact(h.idx MU m).2 ⟨j,_,hl,LV,c⟩
   ·have Cu:MU≠key:=by
     rintro rfl
     exact Rl (h.uniq Mx b hl (by simp) (c.trans Uz.symm)).2
    rw[Ad Cu]
    exact(h.idx MU m).2 ⟨j,l,Mx,b,c⟩
 ·exact(List.Sublist.map _ (List.eraseP_sublist)).nodup h.atn
 ·intro m Ic
  have LV:m∈A.free++[n]:=Ic
  rw[hlen]
  rcases CI.1 LV with hx|hx
  ·obtain⟨a,b,c⟩:=h.free m hx
   have iE:m≠n:=by rintro rfl;rw[OP.2.2]at c;omega
   exact⟨a,b,by rw[nq m iE];exact c⟩
  ·simp at hx
   subst hx
   exact⟨OP.1,OP.2.1,by rw[nd,Ak rfl]⟩
 ·show(A.free++[n]).Nodup
  rw[B5]
  refine⟨h.freen,by simp,fun a ha b hb=>?_⟩
  simp at hb
  subst hb
  rintro rfl
  have:=(h.free a ha).2.2
  rw[OP.2.2]at this
  omega
 ·show _=1+_+(A.free++[n]).length
  rw[hlen,h.cnt,Om]
  simp at vu ⊢
  omega
structure zW6 (A:Am) (ns:List (List Nat)):Prop where
 p0:A.place≠0
 lt:A.place<A.ready.l.length
 node:∀m,A.ready.node m=A.node m
 qs:A.ready.qs=A.qs
 at_:A.ready.at_=A.at_
 le:A.l.length≤A.ready.l.length
 free:∀m∈A.ready.free,m∈A.free∧m≠A.place
 nodup:A.ready.free.Nodup
 new:∀(k:Nat) (l:List Nat),ns[k]?=some l→A.place∉l
 cnt:A.ready.l.length=1+(ns.map List.length).sum+A.ready.free.length+1
 bd:A.ready.Bd
 grow:A.ready.l.length=A.l.length∨(A.free=[]∧A.ready.l.length=A.l.length+1)
theorem CM.ready (h:CM A ns qs) (h0:0<A.qs.length):zW6 A ns:=by
 have hc:=h.cnt
 by_cases hf:A.free=[]
 ·have ep:A.place=A.l.length:=by unfold Am.place;rw[Ak hf]
  have er:A.ready={A with l:=A.l++[⟨0,0,0,0,0⟩]}:=by unfold Am.ready;rw[Ak hf]
  have el:A.ready.l.length=A.l.length+1:=by rw[er];simp
  rw[hf]at hc
  refine⟨by omega,by omega,?_,by rw[er],by rw[er],by omega,?_,?_,?_,?_,?_,.inr ⟨hf,el⟩⟩
  ·intro m
   rw[er]
   unfold Am.node
   show((A.l++[⟨0,0,0,0,0⟩])[m]?).getD _=_
   rcases BP m A.l.length with hm|hm
   ·rw[B7 hm]
   ·rw[Ck hm,Bq hm]
    cases m-A.l.length with
    |zero=>rfl
    |succ j=>rfl
  ·intro m hm;rw[er]at hm;simp[hf]at hm
  ·rw[er];simp[hf]
  ·intro k l hl hx
   have:=(h.mem k l hl _ hx).2.1
   omega
  ·rw[el,er];simp[hf]at hc ⊢;omega
  ·refine⟨fun n x hx=>?_,fun q x hx=>?_⟩
   ·rw[el]
    have hq:A.ready.qs=A.qs:=by rw[er]
    rw[hq]
    have LT:(A.l++[⟨0,0,0,0,0⟩])[n]?=some x:=by rw[er]at hx;exact hx
    rcases BP n A.l.length with hm|hm
    ·rw[B7 hm]at LT
     obtain⟨a,b,c,d⟩:=h.bd.node n x LT
     exact⟨by omega,by omega,c,d⟩
    ·rw[Ck hm]at LT
     cases hn:n-A.l.length with
     |zero=>
      rw[hn]at LT;simp at LT;subst LT
      exact⟨by show 0<_;omega,by show 0<_;omega,by show(0:Int)≤_;omega,by show(0:Int)≤0;omega,by show(0:Int)≤1000;omega⟩
     |succ j=>rw[hn]at LT;simp at LT
   ·have LT:A.qs[q]?=some x:=by rw[er]at hx;exact hx
    obtain⟨a,b,c⟩:=h.bd.ends q x LT
    exact⟨by omega,by omega,c⟩
 ·obtain⟨f0,p,zN⟩:∃f0 p,A.free=f0++[p]:=by
   rcases C8 A.free with h1|⟨l0,a,h1⟩
   ·exact absurd h1 hf
   ·exact⟨l0,a,by rw[h1,C9]⟩
  have ep:A.place=p:=by unfold Am.place;rw[Ad hf,zN];simp
  have er:A.ready={A with free:=f0}:=by unfold Am.ready;rw[Ad hf,zN];simp
  have hp:=h.free p (by rw[zN];simp)
  have hn:=h.freen
  rw[zN]at hn hc
  have Zs:=B5.1 hn
  refine⟨by rw[ep];exact hp.1,by rw[ep,er];exact hp.2.1,fun _=>by rw[er];rfl,by rw[er],by rw[er],by rw[er];exact Ab _,?_,by rw[er];exact Zs.1,?_,?_,by rw[er];exact⟨h.bd.node,h.bd.ends⟩,.inl (by rw[er])⟩
  ·intro m hm
   rw[er]at hm
   rw[ep]
   exact⟨by rw[zN];exact CS _ hm,fun e=>Zs.2.2 m hm p (by simp) e⟩
  ·intro k l hl hx
   rw[ep]at hx
   have:=(h.mem k l hl p hx).2.2
   rw[hp.2.2]at this
   omega
  ·rw[er]
   show A.l.length=_
   rw[hc];simp;omega
theorem CM.in_ (h:CM A ns qs) {key freq:Int} {k:Nat} (tl:Bool) {l:List Nat} (hi:A.idx key=none) (hl:ns[k]?=some l) (hf:0≤freq∧freq≤1000) (h50:l.length+1≤50):
  A.CanIn key freq k∧CM (A.in_ key freq k tl) (ns.set k (if tl then l++[A.place]else A.place::l)) (qs.set k (if tl then l.map (CQ A)++[⟨key,freq⟩]else⟨key,freq⟩::l.map (CQ A))):=by
 have hk:=h.at_lt hl
 have R:=h.ready (by omega)
 have hm:=h.mem k l hl
 have he:=h.ends k l hl
 have SW:=R.new k l hl
 have hc:=h.cnt
 have hlb:=h.lb
 have hq8:=h.q8
 refine⟨⟨hi,hk,hf,by omega,R.p0,?_,?_⟩,?_⟩
 ·rw[he.1]
  cases l with
  |nil=>exact fun e=>R.p0 e.symm
  |cons x r=>exact fun e=>SW (by rw[←e];simp)
 ·rw[he.2.1]
  rcases C8 l with h1|⟨l0,a,h1⟩
  ·rw[h1];exact fun e=>R.p0 e.symm
  ·rw[C9]at h1
   rw[h1]
   simp
   exact fun e=>SW (by rw[←e,h1];simp)
 have b0:=R.bd.setNode A.place ⟨key,freq,0,0,0⟩ ⟨by have:=R.lt;show 0<_;omega,by have:=R.lt;show 0<_;omega,by rw[R.qs];show(0:Int)≤_;omega,hf.1,hf.2⟩
 have nb:∀m,(A.ready.setNode A.place ⟨key,freq,0,0,0⟩).node m=if m=A.place then⟨key,freq,0,0,0⟩else A.node m:=fun m=>by rw[Dx R.lt,R.node]
 have OG:A.in_ key freq k tl={(A.ready.setNode A.place ⟨key,freq,0,0,0⟩)with at_:=A.at_++[(key,A.place)]}.link A.place k tl:=rfl
 have hlB:(A.ready.setNode A.place ⟨key,freq,0,0,0⟩).l.length=A.ready.l.length:=ID _ _
 have hqB:(A.ready.setNode A.place ⟨key,freq,0,0,0⟩).qs=A.qs:=R.qs
 have hfB:(A.ready.setNode A.place ⟨key,freq,0,0,0⟩).free=A.ready.free:=rfl
 rw[OG]
 generalize A.ready.setNode A.place ⟨key,freq,0,0,0⟩=B at*
 have _B:∀m,({B with at_:=A.at_++[(key,A.place)]}:Am).ends m=A.ends m:=fun m=>by unfold Am.ends;show(B.qs[m]?).getD _=_;rw[hqB]
 have ndB:∀m,({B with at_:=A.at_++[(key,A.place)]}:Am).node m=if m=A.place then⟨key,freq,0,0,0⟩else A.node m:=nb
 have bdB:({B with at_:=A.at_++[(key,A.place)]}:Am).Bd:=⟨b0.node,b0.ends⟩
 have llB:({B with at_:=A.at_++[(key,A.place)]}:Am).l.length=A.ready.l.length:=hlB
 have qqB:({B with at_:=A.at_++[(key,A.place)]}:Am).qs.length=A.qs.length:=by show B.qs.length=_;rw[hqB]
 have ffB:({B with at_:=A.at_++[(key,A.place)]}:Am).free=A.ready.free:=hfB
 have aaB:({B with at_:=A.at_++[(key,A.place)]}:Am).at_=A.at_++[(key,A.place)]:=rfl
 clear nb OG hlB hqB hfB b0
 generalize ({B with at_:=A.at_++[(key,A.place)]}:Am)=C at*
 have u:=uM bdB tl (k:=k) (n:=A.place) (l:=l) (by omega) (fun m Ic=>⟨(hm m Ic).1,by have:=(hm m Ic).2.1;have:=R.le;omega⟩) ⟨R.p0,by have:=R.lt;omega⟩ SW
  (Lp.congr (fun m Ic=>by rw[ndB,Ad (fun(e:m=A.place)=>SW (e▸Ic))];exact⟨rfl,rfl⟩) (h.dll k l hl)) (h.nodup k l hl) (by rw[_B];exact he.1) (by rw[_B];exact he.2.1) (by rw[_B,he.2.2];omega)
 generalize hL:(if tl then l++[A.place]else A.place::l)=L at*
 have wd:∀m,m∈L↔m=A.place∨m∈l:=by
  intro m;rw[←hL];cases tl<;>simp
  exact⟨fun h=>h.elim .inr .inl,fun h=>h.elim .inr .inl⟩
 have hLl:L.length=l.length+1:=by rw[←hL];cases tl<;>simp
 generalize C.link A.place k tl=D at*
 have bE:∀m,m≠A.place→(D.node m).key=(A.node m).key∧(D.node m).freq=(A.node m).freq∧(D.node m).q=(A.node m).q:=by
  intro m jI
  have:=u.node m
  rw[ndB,Ad jI,Ad jI]at this
  exact this
 have np:(D.node A.place).key=key∧(D.node A.place).freq=freq∧(D.node A.place).q=k:=by
  have:=u.node A.place
  rw[ndB,Ak rfl,Ak rfl]at this
  exact this
 have eo:∀m,m≠A.place→CQ D m=CQ A m:=by
  intro m jI;unfold CQ;rw[(bE m jI).1,(bE m jI).2.1]
 have hDl:D.l.length=A.ready.l.length:=u.len.trans llB
 have hDq:D.qs.length=A.qs.length:=u.q.trans qqB
 have other:∀(j:Nat) l',j≠k→ns[j]?=some l'→∀m∈l',m∉L:=by
  intro j l' hj sP m Ic hx
  rcases(wd m).1 hx with hx|hx
  ·exact R.new j l' sP (hx▸Ic)
  ·have a1:=(h.mem j l' sP m Ic).2.2
   have a2:=(hm m hx).2.2
   omega
 have vu:=WR (ns.map List.length) k l.length L.length (by rw[Az,hl];rfl)
 have Uz:∀(j:Nat) l' m,ns[j]?=some l'→m∈l'→(A.node m).key≠key:=by
  intro j l' m a b c
  have:=(h.idx key m).2 ⟨j,l',a,b,c⟩
  rw[hi]at this
  cases this
 refine⟨u.bd,by rw[BU,hDq];exact h.len,by rw[hDq];exact h.q8,?_,?_,?_,?_,?_,?_,?_,?_,?_,?_,?_,?_⟩
 ·intro j l' hj
  rcases Ga hj with⟨rfl,_,rfl⟩|⟨Rl,Mx⟩
  ·exact⟨u.head,u.tail,by rw[u.n,_B,he.2.2,hLl]⟩
  ·rw[u.others j Rl,_B];exact h.ends j l' Mx
 ·intro j l' hj
  rcases Ga hj with⟨rfl,_,rfl⟩|⟨Rl,Mx⟩
  ·exact u.dll
  ·refine Lp.congr (fun m Ic=>?_) (h.dll j l' Mx)
   have hx:=other j l' Rl Mx m Ic
   have RE:m≠A.place:=fun e=>hx ((wd m).2 (.inl e))
   rw[u.far m hx,ndB,Ad RE]
   exact⟨rfl,rfl⟩
 ·intro j l' hj m Ic
  rw[hDl]
  have hle:=R.le
  rcases Ga hj with⟨rfl,_,rfl⟩|⟨Rl,Mx⟩
  ·rcases(wd m).1 Ic with rfl|hx
   ·exact⟨R.p0,R.lt,np.2.2⟩
   ·have RE:m≠A.place:=fun e=>SW (e▸hx)
    obtain⟨a,b,c⟩:=hm m hx
    exact⟨a,by omega,by rw[(bE m RE).2.2];exact c⟩
  ·have hx:=other j l' Rl Mx m Ic
   have RE:m≠A.place:=fun e=>hx ((wd m).2 (.inl e))
   obtain⟨a,b,c⟩:=h.mem j l' Mx m Ic
   exact⟨a,by omega,by rw[(bE m RE).2.2];exact c⟩
 ·intro j l' hj
  rcases Ga hj with⟨rfl,_,rfl⟩|⟨Rl,Mx⟩
  ·rw[←hL]
   have IZ:=h.nodup j l hl
   cases tl with
   |false=>exact BK.2 ⟨SW,IZ⟩
   |true=>exact B5.2 ⟨IZ,by simp,fun a ha b hb=>by simp at hb;subst hb;exact fun e=>SW (e▸ha)⟩
  ·exact h.nodup j l' Mx
 ·intro j l' hj
  rcases Ga hj with⟨rfl,_,rfl⟩|⟨Rl,Mx⟩
  ·omega
  ·exact h.fifty j l' Mx
 ·have e1:(if tl then l.map (CQ A)++[⟨key,freq⟩]else⟨key,freq⟩::l.map (CQ A))=L.map (CQ D):=by
   have e2:l.map (CQ A)=l.map (CQ D):=DK (fun m Ic=>(eo m (fun e=>SW (e▸Ic))).symm)
   have e3:(⟨key,freq⟩:Lo)=CQ D A.place:=by unfold CQ;rw[np.1,np.2.1]
   rw[←hL,e2,e3]
   cases tl<;>simp
  rw[e1,h.ent,NT (fun j l' _ sP=>DK (fun m Ic=>eo m (fun e=>R.new j l' sP (e▸Ic))))]
 ·intro MU m
  have e0:D.idx MU=if MU=key then some A.place else A.idx MU:=by
   unfold Am.idx
   rw[u.at_,aaB,Ek]
   unfold Am.idx at hi
   by_cases Jj:MU=key
   ·subst Jj
    rw[Ak rfl]
    cases hx:A.at_.find? (fun y=>y.1==MU)with
    |some y=>rw[hx]at hi;cases hi
    |none=>simp
   ·rw[Ad Jj]
    cases hx:A.at_.find? (fun y=>y.1==MU)with
    |some y=>simp
    |none=>simp;omega
  rw[e0]
  constructor
  ·intro hx
   split at hx
   ·rename_i e
    subst e
    injection hx with hx
    subst hx
    exact⟨k,L,by rw[Bp];simp[h.len,hk],(wd _).2 (.inl rfl),np.1⟩
   ·obtain⟨j,l',a,b,c⟩:=(h.idx MU m).1 hx
    have jI:m≠A.place:=fun e=>R.new j l' a (e▸b)
    by_cases Rl:j=k
    ·subst Rl
     rw[hl]at a
     injection a with a
     subst a
     exact⟨j,L,by rw[Bp];simp[h.len,hk],(wd _).2 (.inr b),by rw[(bE m jI).1];exact c⟩
    ·exact⟨j,l',by rw[Bp,Ad (fun e=>Rl e.symm)];exact a,b,by rw[(bE m jI).1];exact c⟩
  ·rintro⟨j,l',a,b,c⟩
   rcases Ga a with⟨rfl,_,rfl⟩|⟨Rl,Mx⟩
   ·rcases(wd m).1 b with rfl|hx
    ·rw[np.1]at c
     rw[Ak c.symm]
    ·have jI:m≠A.place:=fun e=>SW (e▸hx)
     rw[(bE m jI).1]at c
     rw[Ad (fun e=>Uz _ _ m hl hx (c.trans e))]
     exact(h.idx MU m).2 ⟨j,l,hl,hx,c⟩
   ·have jI:m≠A.place:=fun e=>R.new j l' Mx (e▸b)
    rw[(bE m jI).1]at c
    rw[Ad (fun e=>Uz _ _ m Mx b (c.trans e))]
    exact(h.idx MU m).2 ⟨j,l',Mx,b,c⟩
 ·rw[u.at_,aaB,CJ,B5]
  refine⟨h.atn,by simp,fun a ha b hb=>?_⟩
  simp at hb
  subst hb
  rintro rfl
  obtain⟨y,hy,ma⟩:=AT.1 ha
  unfold Am.idx at hi
  have:A.at_.find? (fun y=>y.1==a)=none:=by
   cases hx:A.at_.find? (fun y=>y.1==a)with
   |none=>rfl
   |some z=>rw[hx]at hi;cases hi
  rw[In]at this
  exact this y hy (by simpa using ma)
 ·intro m Ic
  rw[u.free,ffB]at Ic
  obtain⟨a,b⟩:=R.free m Ic
  obtain⟨c,d,e⟩:=h.free m a
  have:=R.le
  exact⟨c,by omega,by rw[(bE m b).2.2];exact e⟩
 ·rw[u.free,ffB];exact R.nodup
 ·rw[hDl,R.cnt,u.free,ffB,Om]
  omega
 ·rw[hDl,hDq]
  rcases R.grow with h1|⟨h1,h2⟩
  ·omega
  ·rw[h1]at hc
   have hs:(ns.map List.length).sum+1≤50*A.qs.length:=by
    have e1:((ns.set k L).map List.length).sum≤50*A.qs.length:=by
     have:=TM ((ns.set k L).map List.length) 50 (fun x hx=>by
      obtain⟨l',Uy,rfl⟩:=AT.1 hx
      obtain⟨j,hj⟩:=U2.1 Uy
      rcases Ga hj with⟨_,_,rfl⟩|⟨Rl,Mx⟩
      ·omega
      ·exact h.fifty j l' Mx)
     simpa[h.len]using this
    rw[Om]at e1
    omega
   simp at hc
   omega
theorem CM.setFreq (h:CM A ns qs) {n k:Nat} {l1 l2:List Nat} (f:Int) (hl:ns[k]?=some (l1++n::l2)) (hf:0≤f∧f≤1000):
  CM (A.setNode n {(A.node n)with freq:=f}) ns (qs.set k ((l1++n::l2).map (CQ A) |>.set l1.length ⟨(A.node n).key,f⟩)):=by
 have hm:=h.mem k _ hl n (by simp)
 have jH:=hm.2.1
 have nb:=h.bd.at_ jH
 have nd:∀m,(A.setNode n {(A.node n)with freq:=f}).node m=if m=n then {(A.node n)with freq:=f}else A.node m:=fun m=>Dx jH _ m
 have hlen:(A.setNode n {(A.node n)with freq:=f}).l.length=A.l.length:=ID _ _
 have bd:=h.bd.setNode n {(A.node n)with freq:=f} ⟨nb.1,nb.2.1,nb.2.2.1,hf.1,hf.2⟩
 have same:∀m,((A.setNode n {(A.node n)with freq:=f}).node m).key=(A.node m).key∧((A.setNode n {(A.node n)with freq:=f}).node m).prev=(A.node m).prev∧
   ((A.setNode n {(A.node n)with freq:=f}).node m).next=(A.node m).next∧((A.setNode n {(A.node n)with freq:=f}).node m).q=(A.node m).q:=by
  intro m
  rw[nd]
  split
  ·rename_i e;subst e;exact⟨rfl,rfl,rfl,rfl⟩
  ·exact⟨rfl,rfl,rfl,rfl⟩
 have eo:∀m,m≠n→CQ (A.setNode n {(A.node n)with freq:=f}) m=CQ A m:=by
  intro m iE;unfold CQ;rw[nd,Ad iE]
 have en:CQ (A.setNode n {(A.node n)with freq:=f}) n=⟨(A.node n).key,f⟩:=by unfold CQ;rw[nd,Ak rfl]
 refine⟨bd,h.len,h.q8,h.ends,fun j l hj=>Lp.congr (fun m _=>⟨(same m).2.1,(same m).2.2.1⟩) (h.dll j l hj),fun j l hj m Ic=>by rw[hlen,(same m).2.2.2];exact h.mem j l hj m Ic,
  h.nodup,h.fifty,?_,fun key m=>?_,h.atn,fun m Ic=>by rw[hlen,(same m).2.2.2];exact h.free m Ic,h.freen,by rw[hlen];exact h.cnt,by rw[hlen];exact h.lb⟩
 ·have IZ:=B5.1 (h.nodup k _ hl)
  have PR:=(BK.1 IZ.2.1).1
  have XU:∀m∈l1,m≠n:=fun m Ic=>IZ.2.2 m Ic n (by simp)
  have e1:((l1++n::l2).map (CQ A)).set l1.length ⟨(A.node n).key,f⟩=(l1++n::l2).map (CQ (A.setNode n {(A.node n)with freq:=f})):=by
   rw[CJ,Cq,U1 _ _ (by simp)]
   simp only[J7,Nat.sub_self,ab,CJ,Cq,en]
   rw[DK (fun m Ic=>(eo m (XU m Ic)).symm),DK (l:=l2) (fun m Ic=>(eo m (fun e=>PR (e▸Ic))).symm)]
  rw[e1,h.ent,NT (fun j l hj sP=>DK (fun m Ic=>eo m (fun e=>by
   have:=(h.mem j l sP m Ic).2.2
   rw[e,hm.2.2]at this
   omega)))]
  congr 1
  apply Fg
  intro j
  rw[Bp]
  split
  ·rename_i e;subst e
   split
   ·exact hl.symm
   ·rw[Bq (by omega)]
  ·rfl
 ·rw[show(A.setNode n {(A.node n)with freq:=f}).idx key=A.idx key from rfl,h.idx key m]
  constructor
  ·rintro⟨j,l,a,b,c⟩;exact⟨j,l,a,b,(same m).1.trans c⟩
  ·rintro⟨j,l,a,b,c⟩;exact⟨j,l,a,b,(same m).1.symm.trans c⟩
theorem CM.new (n:Nat) (hn:n≤8):CM ⟨[⟨0,0,0,0,0⟩],[],List.replicate n ⟨0,0,0⟩,[]⟩ (List.replicate n []) (List.replicate n []):=by
 have rep:∀(k:Nat) (l:List Nat),(List.replicate n ([]:List Nat))[k]?=some l→l=[]∧k<n:=by
  intro k l h
  rw[Co]at h
  split at h
  ·injection h with h;exact⟨h.symm,by assumption⟩
  ·cases h
 refine⟨⟨?_,?_⟩,by simp,by simpa using hn,?_,?_,?_,?_,?_,by simp,?_,by simp,by simp,by simp,by simp,by simp⟩
 ·intro m x hx
  cases m with
  |zero=>
   simp at hx;subst hx
   exact⟨by simp,by simp,by simp,by simp,by simp⟩
  |succ m=>simp at hx
 ·intro q x hx
  simp only[Co]at hx
  split at hx
  ·injection hx with hx;subst hx;exact⟨by simp,by simp,by simp⟩
  ·cases hx
 ·intro k l hl
  obtain⟨rfl,hk⟩:=rep k l hl
  unfold Am.ends
  simp[Co,hk]
 ·intro k l hl;obtain⟨rfl,hk⟩:=rep k l hl;trivial
 ·intro k l hl;obtain⟨rfl,hk⟩:=rep k l hl;simp
 ·intro k l hl;obtain⟨rfl,hk⟩:=rep k l hl;simp
 ·intro k l hl;obtain⟨rfl,hk⟩:=rep k l hl;simp
 ·intro key m
  constructor
  ·intro h;cases h
  ·rintro⟨k,l,a,b,_⟩
   obtain⟨rfl,hk⟩:=rep k l a
   cases b
end
structure Hc (p:AF) (s:St):Prop where
 q:s.q.length=p.decls.length
 v:s.vars.length=p.decls.length
 fr:∀(k:Nat) l,s.q[k]?=some l→∀e∈l,0≤e.freq∧e.freq≤p.freq
 vr:∀(k:Nat) (x:Int),s.vars[k]?=some x→0≤x∧x≤(Au p.decls (k:Int)).max
structure AR where
 A:Am
 vars:List Int
 out:List Int
def Mb (A:Am) (q:Int):Nat:=A.len q.toNat
def Lg (l:List Bf) (A:Am) (q:Int):Bool:=decide ((Au l q).max≤(Mb A q:Int))
def GJ (p:AF) (key:Int) (x:D9) (r:AR):Except Nat AR:=
 match x with
 | .cool _=>.ok {r with A:=r.A.tune key (-1) p.freq}
 | .evict q=>.ok {r with A:=r.A.out key,out:=if Bl p.decls q then r.out++[key]else r.out}
 | .shift q t tl=>
  if Lg p.decls (r.A.out key) t then .error UK
  else .ok {r with A:=(r.A.out key).in_ key (r.A.outFreq key) t.toNat tl,out:=if Bl p.decls q&&!Bl p.decls t then r.out++[key]else r.out}
 |_=>.ok r
def Jc (p:AF) (key:Int) (x:D9) (r:AR):Except Nat AR:=
 match x with
 | .put q t=>
  if Lg p.decls (r.A.out key) q then .error UK
  else .ok {r with A:=(r.A.out key).in_ key (r.A.outFreq key) q.toNat t,out:=if Bl p.decls (r.A.where_ key)&&!Bl p.decls q then r.out++[key]else r.out}
 | .drop=>.ok {r with A:=r.A.out key,out:=if Bl p.decls (r.A.where_ key)then r.out++[key]else r.out}
 | .inc v=>.ok {r with vars:=r.vars.set v.toNat (DO ((r.vars[v.toNat]?).getD 0) 1 (Au p.decls v).max)}
 | .dec v=>.ok {r with vars:=r.vars.set v.toNat (DO ((r.vars[v.toNat]?).getD 0) (-1) (Au p.decls v).max)}
 | .bump=>.ok {r with A:=r.A.tune key 1 p.freq}
 | .cool q=>if Mb r.A q=0 then .error Oa else GJ p (r.A.tail q.toNat) (.cool q) r
 | .evict q=>if Mb r.A q=0 then .error Oa else GJ p (r.A.tail q.toNat) (.evict q) r
 | .shift q t tl=>if Mb r.A q=0 then .error Oa else GJ p (r.A.tail q.toNat) (.shift q t tl) r
section
variable {A:Am} {ns:List (List Nat)} {p:AF} {s:St}
theorem QM {α:Type} (l1 l2:List α) (x:α):(l1++x::l2).eraseIdx l1.length=l1++l2:=by
 rw[List.eraseIdx_append_of_length_le (Ab _)]
 simp
theorem NO (s:St) (k:Int):s.queue k=(s.q[k.toNat]?).getD []:=rfl
theorem Mo (s:St) (k:Nat):s.queue (k:Int)=(s.q[k]?).getD []:=rfl
theorem Ub (h:CM A ns s.q) (key:Int):
  (∀n,A.idx key=some n→∃q,A.CanUnlink n q)∧(A.out key).idx key=none∧(A.out key).qs.length=A.qs.length∧
  match s.find key with
  |none=>A.out key=A∧A.outFreq key=0∧A.where_ key= -1
  |some (k,i)=>(∃Pc,CM (A.out key) Pc (s.out k i).q)∧A.outFreq key=(Ey (s.queue k) i).freq∧(Ey (s.queue k) i).key=key∧A.where_ key=k∧(∃l,s.q[k]?=some l∧i<l.length):=by
 have G8:s.find key=(⟨s.q,s.vars⟩:St).find key:=rfl
 cases hi:A.idx key with
 |none=>
  have e:A.out key=A:=by unfold Am.out;rw[hi]
  rw[G8,h.find_none hi s.vars,e]
  exact⟨fun n hn=>(by cases hn),hi,rfl,rfl,by unfold Am.outFreq;rw[hi],by unfold Am.where_;rw[hi]⟩
 |some n=>
  obtain⟨k,l1,l2,a,b,c,d⟩:=h.find_some hi s.vars
  obtain⟨x1,x2,x3⟩:=h.outAt hi a
  have e:A.out key=A.outAt key n:=by unfold Am.out;rw[hi]
  have hq:s.queue (k:Int)=(l1++n::l2).map (CQ A):=by rw[Mo,h.at_q a];rfl
  rw[G8,b,e]
  refine⟨fun m hm=>(by injection hm with hm;subst hm;exact⟨k,x2⟩),?_,?_,?_⟩
  ·have:=Wq h.atn key key
   rw[Ak rfl]at this
   exact this
  ·rw[←x1.len,BU,h.len]
  ·refine⟨⟨ns.set k (l1++l2),?_⟩,?_,?_,?_,⟨_,h.at_q a,by simp⟩⟩
   ·have e2:(s.out k l1.length).q=s.q.set k ((l1++l2).map (CQ A)):=by
     unfold St.out
     simp only
     rw[h.at_q a]
     simp only[Hs]
     congr 1
     have:=QM (l1.map (CQ A)) (l2.map (CQ A)) (CQ A n)
     simpa using this
    rw[e2]
    exact x1
   ·rw[hq,Mz]
    unfold Am.outFreq
    rw[hi]
    exact x3
   ·rw[hq,Mz];exact c
   ·unfold Am.where_;rw[hi];exact d
theorem yF (h:CM A ns s.q) {key f q:Int} (t:Bool) (hi:A.idx key=none) (hq:Ix s.q.length q) (hf:0≤f∧f≤1000) (h50:(s.queue q).length+1≤50):
  A.CanIn key f q.toNat∧∃Pc,CM (A.in_ key f q.toNat t) Pc (s.setQueue q (if t then s.queue q++[⟨key,f⟩]else⟨key,f⟩::s.queue q)).q:=by
 obtain⟨l,hl⟩:=h.get (k:=q.toNat) (by rw[←h.qlen];unfold Ix at hq;omega)
 have e:s.queue q=l.map (CQ A):=by rw[NO,h.at_q hl];rfl
 rw[e]at h50 ⊢
 obtain⟨a,b⟩:=h.in_ t hi hl hf (by simpa using h50)
 exact⟨a,_,b⟩
theorem Na (h:CM A ns s.q) {q:Int} (hq:Ix s.q.length q):Mb A q=(s.queue q).length:=by
 unfold Mb
 have:=h.len_ s.vars (k:=q.toNat) (by rw[←h.qlen];unfold Ix at hq;omega)
 rw[this]
 unfold Ix at hq
 have e:((q.toNat:Nat):Int)=q:=by omega
 rw[e]
end
theorem Mm {α:Type} {l:List α} {k:Nat} {x:α} (h:l[k]?=some x):l.set k x=l:=by
 apply Fg
 intro j
 rw[Bp]
 split
 ·rename_i e;subst e
  split
  ·exact h.symm
  ·rw[Bq (by omega)]
 ·rfl
section
variable {A:Am} {ns:List (List Nat)} {p:AF} {s:St}
theorem dT (h:CM A ns s.q) (key by_ most:Int) (hm:0≤most∧most≤99) (Zx:∀(k:Nat) l,s.q[k]?=some l→∀e∈l,0≤e.freq∧e.freq≤most) (hb:by_=1∨by_= -1):
  match s.find key with
  |none=>A.tune key by_ most=A
  |some (k,i)=>∃l,s.q[k]?=some l∧i<l.length∧∃Pc,CM (A.tune key by_ most) Pc (s.q.set k (setFreq l i (DO (Ey l i).freq by_ most))):=by
 have G8:s.find key=(⟨s.q,s.vars⟩:St).find key:=rfl
 cases hi:A.idx key with
 |none=>
  rw[G8,h.find_none hi s.vars]
  unfold Am.tune
  rw[hi]
 |some n=>
  obtain⟨k,l1,l2,a,b,c,d⟩:=h.find_some hi s.vars
  rw[G8,b]
  refine⟨_,h.at_q a,by simp,ns,?_⟩
  have e:A.tune key by_ most=A.setNode n {(A.node n)with freq:=DO (A.node n).freq by_ most}:=by unfold Am.tune;rw[hi]
  rw[e]
  have hf:=Zx k _ (h.at_q a) (CQ A n) (by simp)
  have jM:0≤(A.node n).freq∧(A.node n).freq≤most:=hf
  have:=h.setFreq (DO (A.node n).freq by_ most) a (by unfold DO;omega)
  unfold setFreq
  rw[Mz]
  exact this
theorem Uh (hp:EO p) {q:Int} (hq:Ix p.decls.length q):1≤(Au p.decls q).max∧(Au p.decls q).max≤99∧((Au p.decls q).kind≠2→(Au p.decls q).max≤50):=by
 unfold Ix at hq
 have hl:q.toNat<p.decls.length:=by omega
 have hd:=hp.decls.each _ (MD hl)
 have e:Au p.decls q=p.decls[q.toNat]:=by unfold Au;rw[Ah hl];rfl
 rw[e]
 have:=hd.hi
 refine⟨hd.lo,?_,fun h=>?_⟩
 ·split at this<;>omega
 ·rw[Ad h]at this;exact this
theorem Hc.set_queue (hs:Hc p s) {k:Nat} {l:List Lo} (hl:∀e∈l,0≤e.freq∧e.freq≤p.freq):Hc p {s with q:=s.q.set k l}:=by
 refine⟨by simpa using hs.q,hs.v,fun j m hj e he=>?_,hs.vr⟩
 rcases Ga hj with⟨_,_,rfl⟩|⟨_,Mx⟩
 ·exact hl e he
 ·exact hs.fr j m Mx e he
theorem Hc.queue (hs:Hc p s) (k:Int):∀e∈s.queue k,0≤e.freq∧e.freq≤p.freq:=by
 intro e he
 rw[NO]at he
 cases hq:s.q[k.toNat]? with
 |none=>rw[hq]at he;cases he
 |some l=>rw[hq]at he;exact hs.fr _ _ hq e he
theorem Hc.out (hs:Hc p s) (k i:Nat):Hc p (s.out k i):=by
 unfold St.out
 refine hs.set_queue (fun e he=>?_)
 have:=Rf he
 exact hs.queue k e (by rw[Mo];exact this)
theorem My {l:List Lo} {i:Nat} (h:i<l.length):Ey l i∈l:=by
 unfold Ey
 rw[Ah h]
 exact MD h
theorem qP (e:Lo) {key f:Int} (h1:e.key=key) (h2:e.freq=f):e=⟨key,f⟩:=by
 cases e;simp at h1 h2;subst h1 h2;rfl
theorem I7 {α:Type} (l:List α):l.eraseIdx (l.length-1)=l.dropLast:=by
 rcases C8 l with h|⟨l0,a,h⟩
 ·subst h;rfl
 ·rw[C9]at h
  subst h
  have:=QM l0 [] a
  simpa using this
theorem IF (l:List Bf) (f key:Int) (r:GK):GK.leaves l f key r=⟨r.s,if Bl l f then r.gone++[key]else r.gone⟩:=by
 unfold GK.leaves;split<;>rfl
theorem Og (h:CM A ns s.q) (hs:Hc p s) (hp:EO p) {key f q from_:Int} (t:Bool) (out:List Int) (hi:A.idx key=none) (hq:Ix p.decls.length q) (hqq:(Au p.decls q).kind≠2) (hf:0≤f∧f≤p.freq):
  Lg p.decls A q=decide ((Au p.decls q).max≤((s.queue q).length:Int))∧
  (Nm p.decls ⟨key,f⟩ from_ q t ⟨s,out⟩= .error UK∧Lg p.decls A q=true∨
   ∃r',Nm p.decls ⟨key,f⟩ from_ q t ⟨s,out⟩= .ok r'∧Lg p.decls A q=false∧r'.gone=(if Bl p.decls from_&&!Bl p.decls q then out++[key]else out)∧r'.s.vars=s.vars∧
    A.CanIn key f q.toNat∧(∃Pc,CM (A.in_ key f q.toNat t) Pc r'.s.q)∧Hc p r'.s):=by
 have iB:Ix s.q.length q:=by rw[hs.q];exact hq
 have e:Lg p.decls A q=decide ((Au p.decls q).max≤((s.queue q).length:Int)):=by unfold Lg;rw[Na h iB]
 refine⟨e,?_⟩
 obtain⟨m1,m2,m3⟩:=Uh hp hq
 have m3:=m3 hqq
 have Xo:=hp.freq
 unfold Nm
 by_cases I5:(Au p.decls q).max≤((s.queue q).length:Int)
 ·left
  rw[Ak I5,e]
  exact⟨rfl,by simpa using I5⟩
 ·right
  rw[Ad I5,e]
  obtain⟨a,b⟩:=yF h t hi iB ⟨hf.1,by omega⟩ (by omega)
  have N0:∀x∈(if t then s.queue q++[⟨key,f⟩]else⟨key,f⟩::s.queue q),0≤x.freq∧x.freq≤p.freq:=by
   intro x hx
   have:x∈s.queue q∨x=⟨key,f⟩:=by
    cases t
    ·simp at hx;exact hx.elim .inr .inl
    ·simp at hx;exact hx
   rcases this with h1|h1
   ·exact hs.queue q x h1
   ·subst h1;exact hf
  have hS:Hc p (s.setQueue q (if t then s.queue q++[⟨key,f⟩]else⟨key,f⟩::s.queue q)):=hs.set_queue N0
  refine⟨_,rfl,by simpa using I5,?_,?_,a,?_,?_⟩
  ·cases hr:Bl p.decls q with
   |true=>simp
   |false=>simp[IF]
  ·simp only[IF];split<;>rfl
  ·simp only[IF];split<;>exact b
  ·simp only[IF];split<;>exact hS
theorem PY (hs:Hc p s) {v:Int} (hv:Ix p.decls.length v):∃x,s.vars[v.toNat]?=some x∧s.var v=x∧0≤x∧x≤(Au p.decls v).max:=by
 have hl:v.toNat<s.vars.length:=by rw[hs.v];unfold Ix at hv;omega
 have h1:=Ah hl
 have h2:=hs.vr _ _ h1
 have e:((v.toNat:Nat):Int)=v:=by unfold Ix at hv;omega
 rw[e]at h2
 exact⟨_,h1,by unfold St.var;rw[h1];rfl,h2⟩
theorem Hc.set_var (hs:Hc p s) {v x:Int} (hv:Ix p.decls.length v) (hx:0≤x∧x≤(Au p.decls v).max):Hc p {s with vars:=s.vars.set v.toNat x}:=by
 refine⟨hs.q,by simpa using hs.v,hs.fr,fun j y hj=>?_⟩
 rcases Ga hj with⟨rfl,_,rfl⟩|⟨_,Mx⟩
 ·have e:((v.toNat:Nat):Int)=v:=by unfold Ix at hv;omega
  rw[e];exact hx
 ·exact hs.vr j y Mx
theorem ez (h:CM A ns s.q) (hs:Hc p s) (hp:EO p) (key:Int) (x:D9) (hx:J2 p.decls x) (out:List Int):
  match prim p key x ⟨s,out⟩with
  | .error e=>Jc p key x ⟨A,s.vars,out⟩= .error e
  | .ok r'=>∃A' Pc,Jc p key x ⟨A,s.vars,out⟩= .ok ⟨A',r'.s.vars,r'.gone⟩∧CM A' Pc r'.s.q∧Hc p r'.s:=by
 have Xo:=hp.freq
 cases x with
 |put q t=>
  obtain⟨_,o2,o3,o4⟩:=Ub h key
  unfold prim Jc
  dsimp only
  cases eQ:s.find key with
  |none=>
   rw[eQ]at o4
   obtain⟨e1,e2,e3⟩:=o4
   rw[e1]at o2 ⊢
   rw[e2,e3]
   obtain⟨_,c⟩:=Og (from_:= -1) h hs hp t out o2 hx.1 hx.2 ⟨Int.le_refl 0,Xo.1⟩
   rcases c with⟨c1,c2⟩|⟨r',c1,c2,c3,c4,c5,⟨Pc,c6⟩,c7⟩
   ·simp only[c1,c2,A0]
   ·simp only[c1,c2,An,A1]
    exact⟨_,Pc,by rw[c3,c4],c6,c7⟩
  |some ki=>
   obtain⟨k,i⟩:=ki
   dsimp only
   rw[eQ]at o4
   obtain⟨⟨xx,e0⟩,e2,e3,e4,l,e5,e6⟩:=o4
   have hm:Ey (s.queue (k:Int)) i∈s.queue (k:Int):=My (by rw[Mo,e5];exact e6)
   have Zx:=hs.queue (k:Int) _ hm
   rw[←e2]at Zx
   rw[qP _ e3 e2.symm,e4]
   obtain⟨_,c⟩:=Og (s:=s.out k i) (from_:=k) e0 (hs.out k i) hp t out o2 hx.1 hx.2 Zx
   rcases c with⟨c1,c2⟩|⟨r',c1,c2,c3,c4,c5,⟨Pc,c6⟩,c7⟩
   ·simp only[c1,c2,A0]
   ·simp only[c1,c2,An,A1]
    exact⟨_,Pc,by rw[c3,c4];rfl,c6,c7⟩
 |drop=>
  obtain⟨_,o2,o3,o4⟩:=Ub h key
  unfold prim Jc
  dsimp only
  cases eQ:s.find key with
  |none=>
   rw[eQ]at o4
   obtain⟨e1,e2,e3⟩:=o4
   rw[e1,e3]
   exact⟨A,ns,rfl,h,hs⟩
  |some ki=>
   obtain⟨k,i⟩:=ki
   dsimp only
   rw[eQ]at o4
   obtain⟨⟨xx,e0⟩,e2,e3,e4,_⟩:=o4
   rw[e4]
   simp only[IF]
   exact⟨_,xx,rfl,e0,hs.out k i⟩
 |inc v=>
  obtain⟨y,y1,y2,y3,y4⟩:=PY hs hx
  unfold prim Jc
  dsimp only
  simp only[y1,y2,Hs]
  have e:DO y 1 (Au p.decls v).max=if y<(Au p.decls v).max then y+1 else y:=by unfold DO;split<;>omega
  rw[e]
  split
  ·exact⟨A,ns,rfl,h,hs.set_var hx (by omega)⟩
  ·rw[Mm y1];exact⟨A,ns,rfl,h,hs⟩
 |dec v=>
  obtain⟨y,y1,y2,y3,y4⟩:=PY hs hx
  unfold prim Jc
  dsimp only
  simp only[y1,y2,Hs]
  have e:DO y (-1) (Au p.decls v).max=if 0<y then y-1 else y:=by unfold DO;split<;>omega
  rw[e]
  split
  ·exact⟨A,ns,rfl,h,hs.set_var hx (by omega)⟩
  ·rw[Mm y1];exact⟨A,ns,rfl,h,hs⟩
 |bump=>
  have tt:=dT h key 1 p.freq Xo hs.fr (.inl rfl)
  unfold prim Jc
  dsimp only
  cases eQ:s.find key with
  |none=>rw[eQ]at tt;rw[tt];exact⟨A,ns,rfl,h,hs⟩
  |some ki=>
   obtain⟨k,i⟩:=ki
   dsimp only
   rw[eQ]at tt
   obtain⟨l,t1,t2,Pc,t3⟩:=tt
   have hq:s.queue (k:Int)=l:=by rw[Mo,t1];rfl
   simp only[hq]
   have Zx:=hs.fr k l t1 _ (My t2)
   have e:DO (Ey l i).freq 1 p.freq=if(Ey l i).freq<p.freq then(Ey l i).freq+1 else(Ey l i).freq:=by unfold DO;split<;>omega
   rw[e]at t3
   split
   ·rename_i Cy
    rw[Ak Cy]at t3
    refine⟨_,Pc,rfl,t3,hs.set_queue (fun x hx=>?_)⟩
    rcases JO hx with hx|rfl
    ·exact hs.fr k l t1 x hx
    ·simp;omega
   ·rename_i Cy
    rw[Ad Cy]at t3
    have e2:setFreq l i (Ey l i).freq=l:=by unfold setFreq;exact Mm (by unfold Ey;rw[Ah t2];rfl)
    rw[e2,Mm t1]at t3
    exact⟨_,Pc,rfl,t3,hs⟩
 |cool q=>
  have iB:Ix s.q.length q:=by rw[hs.q];exact hx
  unfold prim Jc
  dsimp only
  rw[Na h iB]
  by_cases Cu:s.queue q=[]
  ·simp[Cu]
  ·have Vd:(s.queue q).length≠0:=fun e=>Cu (KC.1 e)
   rw[Ad Cu,Ad Vd]
   have eq:((q.toNat:Nat):Int)=q:=by have LT:Ix p.decls.length q:=hx;unfold Ix at LT;omega
   have hk:q.toNat<A.qs.length:=by rw[←h.qlen];unfold Ix at iB;omega
   have Vw:(⟨s.q,s.vars⟩:St).queue (q.toNat:Int)≠ []:=by rw[eq];exact Cu
   have Kv:=h.tail_ s.vars hk Vw
   have oN:=h.find_tail s.vars hk Vw
   rw[eq]at Kv oN
   have mj:A.tail q.toNat=(CA (s.queue q)).key:=Kv
   have mB:s.find (CA (s.queue q)).key=some (q.toNat,(s.queue q).length-1):=oN
   have tt:=dT h (CA (s.queue q)).key (-1) p.freq Xo hs.fr (.inr rfl)
   rw[mB]at tt
   obtain⟨l,t1,t2,Pc,t3⟩:=tt
   have hq:s.queue q=l:=by rw[NO,t1];rfl
   rw[mj]
   unfold GJ
   simp only[hq]at*
   have Zx:=hs.fr _ l t1 _ (My t2)
   have e:DO (Ey l (l.length-1)).freq (-1) p.freq=if 0<(Ey l (l.length-1)).freq then(Ey l (l.length-1)).freq-1 else(Ey l (l.length-1)).freq:=by unfold DO;split<;>omega
   rw[e]at t3
   have el:CA l=Ey l (l.length-1):=rfl
   split
   ·rename_i Cy
    rw[el]at Cy
    rw[Ak Cy]at t3
    refine⟨_,Pc,rfl,t3,hs.set_queue (fun x hx=>?_)⟩
    rcases JO hx with hx|rfl
    ·exact hs.fr _ l t1 x hx
    ·simp[el];omega
   ·rename_i Cy
    rw[el]at Cy
    rw[Ad Cy]at t3
    have e2:setFreq l (l.length-1) (Ey l (l.length-1)).freq=l:=by unfold setFreq;exact Mm (by unfold Ey;rw[Ah t2];rfl)
    rw[e2,Mm t1]at t3
    exact⟨_,Pc,rfl,t3,hs⟩
 |evict q=>
  have iB:Ix s.q.length q:=by rw[hs.q];exact hx
  unfold prim Jc
  dsimp only
  rw[Na h iB]
  by_cases Cu:s.queue q=[]
  ·simp[Cu]
  ·have Vd:(s.queue q).length≠0:=fun e=>Cu (KC.1 e)
   rw[Ad Cu,Ad Vd]
   have eq:((q.toNat:Nat):Int)=q:=by have LT:Ix p.decls.length q:=hx;unfold Ix at LT;omega
   have hk:q.toNat<A.qs.length:=by rw[←h.qlen];unfold Ix at iB;omega
   have Vw:(⟨s.q,s.vars⟩:St).queue (q.toNat:Int)≠ []:=by rw[eq];exact Cu
   have Kv:=h.tail_ s.vars hk Vw
   have oN:=h.find_tail s.vars hk Vw
   rw[eq]at Kv oN
   have mj:A.tail q.toNat=(CA (s.queue q)).key:=Kv
   have mB:s.find (CA (s.queue q)).key=some (q.toNat,(s.queue q).length-1):=oN
   obtain⟨_,o2,o3,o4⟩:=Ub h (CA (s.queue q)).key
   rw[mB]at o4
   obtain⟨⟨xx,e0⟩,e2,e3,e4,_⟩:=o4
   have eo:s.out q.toNat ((s.queue q).length-1)=s.setQueue q (s.queue q).dropLast:=by
    unfold St.out St.setQueue
    rw[←I7]
    rfl
   rw[eo]at e0
   rw[mj]
   unfold GJ
   simp only[IF]
   exact⟨_,xx,rfl,e0,by rw[←eo];exact hs.out _ _⟩
 |shift q t tl=>
  have iB:Ix s.q.length q:=by rw[hs.q];exact hx.1
  have RE:=hx.1
  unfold prim Jc
  dsimp only
  rw[Na h iB]
  by_cases Cu:s.queue q=[]
  ·simp[Cu]
  ·have Vd:(s.queue q).length≠0:=fun e=>Cu (KC.1 e)
   rw[Ad Cu,Ad Vd]
   have eq:((q.toNat:Nat):Int)=q:=by unfold Ix at RE;omega
   have hk:q.toNat<A.qs.length:=by rw[←h.qlen];unfold Ix at iB;omega
   have Vw:(⟨s.q,s.vars⟩:St).queue (q.toNat:Int)≠ []:=by rw[eq];exact Cu
   have Kv:=h.tail_ s.vars hk Vw
   have oN:=h.find_tail s.vars hk Vw
   rw[eq]at Kv oN
   have mj:A.tail q.toNat=(CA (s.queue q)).key:=Kv
   have mB:s.find (CA (s.queue q)).key=some (q.toNat,(s.queue q).length-1):=oN
   obtain⟨_,o2,o3,o4⟩:=Ub h (CA (s.queue q)).key
   rw[mB]at o4
   obtain⟨⟨xx,e0⟩,e2,e3,e4,_⟩:=o4
   have eo:s.out q.toNat ((s.queue q).length-1)=s.setQueue q (s.queue q).dropLast:=by
    unfold St.out St.setQueue
    rw[←I7]
    rfl
   have GG:Hc p (s.setQueue q (s.queue q).dropLast):=by rw[←eo];exact hs.out _ _
   rw[eo]at e0
   rw[eq]at e2 e3
   have hm:CA (s.queue q)∈s.queue q:=My (by omega)
   have Zx:=hs.queue q _ hm
   have tC:A.outFreq (CA (s.queue q)).key=(CA (s.queue q)).freq:=e2
   rw[mj]
   unfold GJ
   rw[tC]
   obtain⟨_,c⟩:=Og (s:=s.setQueue q (s.queue q).dropLast) (from_:=q) e0 GG hp tl out o2 hx.2.1 hx.2.2 Zx
   have ee:(⟨(CA (s.queue q)).key,(CA (s.queue q)).freq⟩:Lo)=CA (s.queue q):=rfl
   rw[ee]at c
   rcases c with⟨c1,c2⟩|⟨r',c1,c2,c3,c4,c5,⟨Pc,c6⟩,c7⟩
   ·simp only[c1,c2,A0]
   ·simp only[c1,c2,An,A1]
    exact⟨_,Pc,by rw[c3,c4];rfl,c6,c7⟩
end
def Pm (c:jy) (hit:Bool) (n:Nat):jy:=⟨c.hits+(if hit then 1 else 0),c.misses+(if hit then 0 else 1),c.evicted+n⟩
theorem MQ {l:List Bf}:∀(b:AC) (k:Nat),EG l b→b.nest≤k→b.most≤50^k*b.size
 | .nil,k,_,_=>Bn _
 | .prim x r,k,h,hn=>by
  have h1:=MQ r k h.2 hn
  have h2:1≤50^k:=Nat.one_le_pow _ _ (by omega)
  simp only[AC.most,AC.size,jY,Jm]
  omega
 | .ite c t o e r,k,h,hn=>by
  simp only[AC.nest]at hn
  have h1:=MQ t k h.2.1 (by omega)
  have h2:=MQ e k h.2.2.1 (by omega)
  have h3:=MQ r k h.2.2.2 (by omega)
  simp only[AC.most,AC.size,jY]
  omega
 | .rep n c b r,0,h,hn=>by
  simp only[AC.nest]at hn
  omega
 | .rep n c b r,k+1,h,hn=>by
  simp only[AC.nest]at hn
  have h1:=MQ b k h.2.1 (by omega)
  have h3:=MQ r (k+1) h.2.2.1 (by omega)
  have h4:=h.2.2.2
  have h5:n.toNat*b.most≤50*(50^k*b.size):=Nat.mul_le_mul (by omega) h1
  have e:50^(k+1)*b.size=50*(50^k*b.size):=by rw[Nat.pow_succ,Nat.mul_comm (50^k) 50,Nat.mul_assoc]
  simp only[AC.most,AC.size,jY]
  omega
theorem LG {r:List (Int×AC)} {k:Int} {b:AC} (h:AE r k=some b):(k,b)∈r:=by
 unfold AE at h
 rw[Bj]at h
 obtain⟨x,hx,rfl⟩:=h
 have h1:=nZ hx
 have h2:=PM hx
 have h3:x.1=k:=by simpa using h1
 rw[←h3]
 exact h2
theorem TN:∀{l:List (Int×AC)} {x:Int×AC},x∈l→x.2.size≤J4 l
 | [],x,h=>by cases h
 |y::l,x,h=>by
  have e:J4 (y::l)=y.2.size+J4 l:=by simp[J4]
  rcases Bt.1 h with rfl|h
  ·omega
  ·have:=TN h;omega
theorem Wb {p:AF} (hp:EO p) {k:Int} {b:AC} (h:AE p.rules k=some b):b.most≤1750000:=by
 have hm:=LG h
 have hW:=hp.rules.each _ hm
 have h1:=MQ b 2 hW.w hW.nest
 have h2:b.size≤J4 p.rules:=TN (x:=(k,b)) hm
 have h3:=hp.size
 have h4:(50:Nat)^2*b.size≤2500*700:=Nat.mul_le_mul (by decide) (by omega)
 omega
theorem dZ {p:AF} (hp:EO p) {k:Int} {b:AC} (h:AE p.rules k=some b):ME p.decls b:=by
 have hW:=hp.rules.each _ (LG h)
 exact EG.ok b hW.w hW.form
end Go.Proofs.YtemppijblfflgaaGreatDoor.Ev
namespace Go.Proofs.YtemppijblfflgaaGreatDoor.Ev
open Go Go.RowKit
def L6 (n:Int):Value:=.int .i64 n
def UJ (n:Int):Value:=.int .u64 n
structure oS (B:Nat) (w:World) (gg gp:Nat) (vd bmv bcv:Value) (lp:Nat) (p:AF):Prop where
 prog:AM w gg 94 [.pointer (some ⟨gp,0,none⟩),bcv,.int .i64 lp]
 pol:AM w gp 90 [vd,.int .i64 p.freq,bmv]
 decls:Sl (fun b=>b<B) w 86 3 vd p.decls.length (p.decls.flatMap D0)
 gg0:gg<B
 gp0:gp<B
structure RV where
 gr:Nat
 gg:Nat
 gp:Nat
 gs:Nat
 ga:Nat
 vd:Value
 bmv:Value
 bcv:Value
 lp:Nat
 vst:Value
 vlo:Value
 vou:Value
 vva:Value
def fy (u v:Value):Prop:=∀b,u.ownBlock=some b→v.ownBlock≠some b
structure Ci (B:Nat) (w:World) (x:RV) (SA:Nat→Prop) (p:AF) (key:Int) (A:Am) (v:VS):Prop where
 ro:oS B w x.gg x.gp x.vd x.bmv x.bcv x.lp p
 row:AM w x.gr 144 [.pointer (some ⟨x.gg,0,none⟩),.pointer (some ⟨x.gs,0,none⟩),.int .u64 key,x.vst,.bool v.yes,x.vlo,x.vou]
 srow:AM w x.gs 72 [.pointer (some ⟨x.ga,0,none⟩),x.vva]
 stack:Sl (fun b=>B≤b) w 3 1 x.vst v.stack.length (v.stack.reverse.map L6)
 loops:Sl (fun b=>B≤b) w 3 1 x.vlo v.loops.length (v.loops.map L6)
 out:Sl (fun b=>B≤b) w 27 1 x.vou v.r.gone.length (v.r.gone.map UJ)
 vars:Sl (fun b=>B≤b) w 3 1 x.vva v.r.s.vars.length (v.r.s.vars.map L6)
 ar:∃vl vf vq bm,BL SA w x.ga A vl vf vq bm
 gr0:B≤x.gr
 gs0:B≤x.gs
 sa:∀b,SA b→B≤b∧b<w.heap.size
 sr:¬SA x.gr
 ss:¬SA x.gs
 s1:∀b,x.vst.ownBlock=some b→¬SA b
 s2:∀b,x.vlo.ownBlock=some b→¬SA b
 s3:∀b,x.vou.ownBlock=some b→¬SA b
 s4:∀b,x.vva.ownBlock=some b→¬SA b
 a1:fy x.vst x.vlo
 a2:fy x.vst x.vva
 a3:fy x.vlo x.vva
theorem Sl.shrink {S:Nat→Prop} {w:World} {e:TypeId} {size n:Nat} {v:Value} {xs:List Value} (h:Sl S w e size v n xs):Sl (fun b=>S b∧b<w.heap.size) w e size v n xs:=⟨h.1,fun g hg=>⟨h.2 g hg,h.lt hg⟩⟩
theorem BL.shrink {S:Nat→Prop} {w:World} {g bm:Nat} {A:Am} {vl vf vq:Value} (h:BL S w g A vl vf vq bm):BL (fun b=>S b∧b<w.heap.size) w g A vl vf vq bm:=
 ⟨h.row,h.l.shrink,h.f.shrink,h.q.shrink,h.m,⟨h.sg,h.row.lt⟩,⟨h.sm,h.m.lt⟩⟩
theorem Sl.apart_ne {S S':Nat→Prop} {w:World} {e e':TypeId} {size kO n n':Nat} {v v':Value} {xs xs':List Value} (h:Sl S w e size v n xs) (h':Sl S' w e' kO v' n' xs') (Cu:e≠e'):fy v v':=fun _ hb Vf=>h.ne_sl h' Cu Vf hb
section
variable {B:Nat} {w w':World} {gg gp:Nat} {vd bmv bcv:Value} {lp:Nat} {p:AF}
theorem oS.kept (h:oS B w gg gp vd bmv bcv lp p) {S:Nat→Prop} (hk:Af S w w') (hS:∀b,S b→B≤b):oS B w' gg gp vd bmv bcv lp p:=
 ⟨h.prog.kept hk (fun hs=>by have:=hS _ hs;have:=h.gg0;omega),h.pol.kept hk (fun hs=>by have:=hS _ hs;have:=h.gp0;omega),
  h.decls.kept hk (fun b hb hs=>by have h1:=hS b hs;have h2:=h.decls.2 b hb;simp only at h2;omega),h.gg0,h.gp0⟩
end
section
variable {B:Nat} {w w':World} {x:RV} {SA:Nat→Prop} {p:AF} {key:Int} {A:Am} {v:VS}
theorem Ci.kept (h:Ci B w x SA p key A v) {T:Nat→Prop} (hk:Af T w w') (hB:∀b,T b→B≤b) (t1:¬T x.gr) (t2:¬T x.gs) (t3:∀b,x.vst.ownBlock=some b→¬T b) (t4:∀b,x.vlo.ownBlock=some b→¬T b)
  (t5:∀b,x.vou.ownBlock=some b→¬T b) (t6:∀b,x.vva.ownBlock=some b→¬T b) (t7:∀b,SA b→¬T b):Ci B w' x SA p key A v:=by
 obtain⟨vl,vf,vq,bm,ha⟩:=h.ar
 exact⟨h.ro.kept hk hB,h.row.kept hk t1,h.srow.kept hk t2,h.stack.kept hk t3,h.loops.kept hk t4,h.out.kept hk t5,h.vars.kept hk t6,⟨vl,vf,vq,bm,ha.kept hk t7⟩,h.gr0,h.gs0,
  fun b hb=>⟨(h.sa b hb).1,AD (h.sa b hb).2 hk.size⟩,h.sr,h.ss,h.s1,h.s2,h.s3,h.s4,h.a1,h.a2,h.a3⟩
theorem Ci.grown (h:Ci B w x SA p key A v) (hk:Af (fun b=>w.heap.size≤b) w w') (hB:B≤w.heap.size):Ci B w' x SA p key A v:=by
 have r1:=h.row.lt
 have r2:=h.srow.lt
 refine h.kept hk (fun b hb=>Ai hB hb) (by omega) (by omega) (fun b hb hs=>?_) (fun b hb hs=>?_) (fun b hb hs=>?_) (fun b hb hs=>?_) (fun b hb hs=>?_)
 ·have:=h.stack.lt hb;omega
 ·have:=h.loops.lt hb;omega
 ·have:=h.out.lt hb;omega
 ·have:=h.vars.lt hb;omega
 ·have:=(h.sa b hb).2;omega
theorem Ci.base (h:Ci B w x SA p key A v):B≤w.heap.size:=by
 have:=h.row.lt
 have:=h.gr0
 omega
theorem Ci.setStack (h:Ci B w x SA p key A v) {T:Nat→Prop} (hk:Af T w w') (hT:∀b,T b→x.vst.ownBlock=some b∨w.heap.size≤b) {u:Value} {st:List Int}
  (hs:Sl (fun b=>B≤b) w' 3 1 u st.length (st.reverse.map L6)) (hu:∀b,u.ownBlock=some b→x.vst.ownBlock=some b∨w.heap.size≤b):
  Ci B (w'.setCell ⟨x.gr,3,none⟩ u) {x with vst:=u} SA p key A {v with stack:=st}:=by
 have hB:=h.base
 have n1:x.vst.ownBlock≠some x.gr:=h.stack.ne_row h.row (by decide)
 have n2:x.vst.ownBlock≠some x.gs:=h.stack.ne_row h.srow (by decide)
 have r1:=h.row.lt
 have r2:=h.srow.lt
 have h1:=h.kept hk (fun b hb=>(hT b hb).elim (fun e=>h.stack.2 b e) (fun e=>Ai hB e)) (fun hb=>(hT _ hb).elim n1 (fun e=>by omega)) (fun hb=>(hT _ hb).elim n2 (fun e=>by omega))
 have o2:∀b,x.vlo.ownBlock=some b→¬T b:=fun b hb ht=>(hT b ht).elim (fun e=>h.a1 b e hb) (fun e=>by have:=h.loops.lt hb;omega)
 have o3:∀b,x.vou.ownBlock=some b→¬T b:=fun b hb ht=>(hT b ht).elim (fun e=>(h.stack.apart_ne h.out (by decide)) b e hb) (fun e=>by have:=h.out.lt hb;omega)
 have o4:∀b,x.vva.ownBlock=some b→¬T b:=fun b hb ht=>(hT b ht).elim (fun e=>h.a2 b e hb) (fun e=>by have:=h.vars.lt hb;omega)
 have o5:∀b,SA b→¬T b:=fun b hb ht=>(hT b ht).elim (fun e=>h.s1 b e hb) (fun e=>by have:=(h.sa b hb).2;omega)
 have Mj:=h.row.kept hk (fun hb=>(hT _ hb).elim n1 (fun e=>by omega))
 have SV:=h.srow.kept hk (fun hb=>(hT _ hb).elim n2 (fun e=>by omega))
 have k3:Af (fun b=>b=x.gr) w' (w'.setCell ⟨x.gr,3,none⟩ u):=Af.one w' ⟨x.gr,3,none⟩ u
 obtain⟨vl,vf,vq,bm,ha⟩:=h.ar
 have pE:=Mj.set_ 3 u
 refine⟨(h.ro.kept hk (fun b hb=>(hT b hb).elim (fun e=>h.stack.2 b e) (fun e=>Ai hB e))).kept k3 (fun b hb=>hb▸h.gr0),pE,SV.kept k3 (SV.ne_ Mj (by decide)),
  hs.kept k3 (fun b hb e=>hs.ne_row Mj (by decide) (e▸hb)),(h.loops.kept hk o2).kept k3 (fun b hb e=>(h.loops.kept hk o2).ne_row Mj (by decide) (e▸hb)),
  (h.out.kept hk o3).kept k3 (fun b hb e=>(h.out.kept hk o3).ne_row Mj (by decide) (e▸hb)),(h.vars.kept hk o4).kept k3 (fun b hb e=>(h.vars.kept hk o4).ne_row Mj (by decide) (e▸hb)),
  ⟨vl,vf,vq,bm,(ha.kept hk o5).kept k3 (fun b hb e=>h.sr (e▸hb))⟩,h.gr0,h.gs0,fun b hb=>⟨(h.sa b hb).1,AD (h.sa b hb).2 (Ai hk.size k3.size)⟩,h.sr,h.ss,?_,h.s2,h.s3,h.s4,?_,?_,h.a3⟩
 ·exact fun b hb hs=>(hu b hb).elim (fun e=>h.s1 b e hs) (fun e=>by have:=(h.sa b hs).2;omega)
 ·exact fun b hb hs=>(hu b hb).elim (fun e=>h.a1 b e hs) (fun e=>by have:=h.loops.lt hs;omega)
 ·exact fun b hb hs=>(hu b hb).elim (fun e=>h.a2 b e hs) (fun e=>by have:=h.vars.lt hs;omega)
theorem Ci.setOut (h:Ci B w x SA p key A v) {T:Nat→Prop} (hk:Af T w w') (hT:∀b,T b→x.vou.ownBlock=some b∨w.heap.size≤b) {u:Value} {l:List Int}
  (hs:Sl (fun b=>B≤b) w' 27 1 u l.length (l.map UJ)) (hu:∀b,u.ownBlock=some b→x.vou.ownBlock=some b∨w.heap.size≤b):
  Ci B (w'.setCell ⟨x.gr,6,none⟩ u) {x with vou:=u} SA p key A {v with r:={v.r with gone:=l}}:=by
 have hB:=h.base
 have n1:x.vou.ownBlock≠some x.gr:=h.out.ne_row h.row (by decide)
 have n2:x.vou.ownBlock≠some x.gs:=h.out.ne_row h.srow (by decide)
 have r1:=h.row.lt
 have r2:=h.srow.lt
 have o1:∀b,x.vst.ownBlock=some b→¬T b:=fun b hb ht=>(hT b ht).elim (fun e=>(h.stack.apart_ne h.out (by decide)) b hb e) (fun e=>by have:=h.stack.lt hb;omega)
 have o2:∀b,x.vlo.ownBlock=some b→¬T b:=fun b hb ht=>(hT b ht).elim (fun e=>(h.loops.apart_ne h.out (by decide)) b hb e) (fun e=>by have:=h.loops.lt hb;omega)
 have o4:∀b,x.vva.ownBlock=some b→¬T b:=fun b hb ht=>(hT b ht).elim (fun e=>(h.vars.apart_ne h.out (by decide)) b hb e) (fun e=>by have:=h.vars.lt hb;omega)
 have o5:∀b,SA b→¬T b:=fun b hb ht=>(hT b ht).elim (fun e=>h.s3 b e hb) (fun e=>by have:=(h.sa b hb).2;omega)
 have Mj:=h.row.kept hk (fun hb=>(hT _ hb).elim n1 (fun e=>by omega))
 have SV:=h.srow.kept hk (fun hb=>(hT _ hb).elim n2 (fun e=>by omega))
 have k3:Af (fun b=>b=x.gr) w' (w'.setCell ⟨x.gr,6,none⟩ u):=Af.one w' ⟨x.gr,6,none⟩ u
 obtain⟨vl,vf,vq,bm,ha⟩:=h.ar
 have pE:=Mj.set_ 6 u
 refine⟨(h.ro.kept hk (fun b hb=>(hT b hb).elim (fun e=>h.out.2 b e) (fun e=>Ai hB e))).kept k3 (fun b hb=>hb▸h.gr0),pE,SV.kept k3 (SV.ne_ Mj (by decide)),
  (h.stack.kept hk o1).kept k3 (fun b hb e=>(h.stack.kept hk o1).ne_row Mj (by decide) (e▸hb)),(h.loops.kept hk o2).kept k3 (fun b hb e=>(h.loops.kept hk o2).ne_row Mj (by decide) (e▸hb)),
  hs.kept k3 (fun b hb e=>hs.ne_row Mj (by decide) (e▸hb)),(h.vars.kept hk o4).kept k3 (fun b hb e=>(h.vars.kept hk o4).ne_row Mj (by decide) (e▸hb)),
  ⟨vl,vf,vq,bm,(ha.kept hk o5).kept k3 (fun b hb e=>h.sr (e▸hb))⟩,h.gr0,h.gs0,fun b hb=>⟨(h.sa b hb).1,AD (h.sa b hb).2 (Ai hk.size k3.size)⟩,h.sr,h.ss,h.s1,h.s2,?_,h.s4,h.a1,h.a2,h.a3⟩
 exact fun b hb hs=>(hu b hb).elim (fun e=>h.s3 b e hs) (fun e=>by have:=(h.sa b hs).2;omega)
theorem Ci.setArena (h:Ci B w x SA p key A v) (hk:Af (fun b=>SA b∨w.heap.size≤b) w w') {A':Am} (ha:∃vl vf vq bm,BL (fun b=>SA b∨w.heap.size≤b) w' x.ga A' vl vf vq bm):
  Ci B w' x (fun b=>(SA b∨w.heap.size≤b)∧b<w'.heap.size) p key A' v:=by
 have hB:=h.base
 have r1:=h.row.lt
 have r2:=h.srow.lt
 have o:∀b,¬SA b→b<w.heap.size→¬(SA b∨w.heap.size≤b):=fun b h1 h2 h3=>h3.elim h1 (fun e=>by omega)
 obtain⟨vl,vf,vq,bm,ha⟩:=ha
 refine⟨h.ro.kept hk (fun b hb=>hb.elim (fun e=>(h.sa b e).1) (fun e=>Ai hB e)),h.row.kept hk (o _ h.sr r1),h.srow.kept hk (o _ h.ss r2),h.stack.kept hk (fun b hb=>o _ (h.s1 b hb) (h.stack.lt hb)),h.loops.kept hk (fun b hb=>o _ (h.s2 b hb) (h.loops.lt hb)),
  h.out.kept hk (fun b hb=>o _ (h.s3 b hb) (h.out.lt hb)),h.vars.kept hk (fun b hb=>o _ (h.s4 b hb) (h.vars.lt hb)),⟨vl,vf,vq,bm,ha.shrink⟩,h.gr0,h.gs0,fun b hb=>⟨hb.1.elim (fun e=>(h.sa b e).1) (fun e=>Ai hB e),hb.2⟩,
  fun hb=>o _ h.sr r1 hb.1,fun hb=>o _ h.ss r2 hb.1,fun b hb hs=>o _ (h.s1 b hb) (h.stack.lt hb) hs.1,fun b hb hs=>o _ (h.s2 b hb) (h.loops.lt hb) hs.1,fun b hb hs=>o _ (h.s3 b hb) (h.out.lt hb) hs.1,fun b hb hs=>o _ (h.s4 b hb) (h.vars.lt hb) hs.1,h.a1,h.a2,h.a3⟩
theorem Ci.setYes (h:Ci B w x SA p key A v) (y:Bool):Ci B (w.setCell ⟨x.gr,4,none⟩ (.bool y)) x SA p key A {v with yes:=y}:=by
 have k3:Af (fun b=>b=x.gr) w (w.setCell ⟨x.gr,4,none⟩ (.bool y)):=Af.one w ⟨x.gr,4,none⟩ _
 obtain⟨vl,vf,vq,bm,ha⟩:=h.ar
 exact⟨h.ro.kept k3 (fun b hb=>hb▸h.gr0),h.row.set_ 4 _,h.srow.kept k3 (h.srow.ne_ h.row (by decide)),h.stack.kept k3 (fun b hb e=>h.stack.ne_row h.row (by decide) (e▸hb)),h.loops.kept k3 (fun b hb e=>h.loops.ne_row h.row (by decide) (e▸hb)),
  h.out.kept k3 (fun b hb e=>h.out.ne_row h.row (by decide) (e▸hb)),h.vars.kept k3 (fun b hb e=>h.vars.ne_row h.row (by decide) (e▸hb)),⟨vl,vf,vq,bm,ha.kept k3 (fun b hb e=>h.sr (e▸hb))⟩,h.gr0,h.gs0,
  fun b hb=>⟨(h.sa b hb).1,AD (h.sa b hb).2 k3.size⟩,h.sr,h.ss,h.s1,h.s2,h.s3,h.s4,h.a1,h.a2,h.a3⟩
theorem py {f:Int→Value} (l:List Int) (i:Nat) (n:Int):(l.map f).set i (f n)=(l.set i n).map f:=by rw[Om]
theorem Sl.set1 {S:Nat→Prop} {e:TypeId} {l:List Int} {u:Value} (f:Int→Value) (h:Sl S w e 1 u l.length (l.map f)) {i g cap:Nat} (hu:u= .slice (some ⟨g,0,none⟩) l.length cap) (n:Int):
  Sl S (w.setCell ⟨g,i,none⟩ (f n)) e 1 u (l.set i n).length ((l.set i n).map f):=by
 subst hu
 have hs:=h.1.stored i (f n)
 rw[py]at hs
 rw[BU]
 exact⟨hs.1,h.2⟩
end
end Go.Proofs.YtemppijblfflgaaGreatDoor.Ev
