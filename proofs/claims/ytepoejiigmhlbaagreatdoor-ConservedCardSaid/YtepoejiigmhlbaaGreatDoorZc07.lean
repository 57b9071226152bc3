/- Lemmas for a law's walk. Conditions: none. -/
import Derived.Deep.DeepCutAuto
import Derived.Deep.CutBlock
import Derived.Deep.DeepMust
import Derived.Maps.OwnSet
import Derived.Test.YtepoejiigmhlbaaGreatDoorZc01
import Derived.Test.YtepoejiigmhlbaaGreatDoorZc03
import Derived.Test.YtepoejiigmhlbaaGreatDoorZc06
set_option linter.all false
namespace Go.Proofs.YtepoejiigmhlbaaGreatDoor.Ev
open Go Go.RowKit
section
variable {B:Nat} {ea:Nat→Addr} {w:World} {g gp bm:Nat} {vd wp:Value} {s:Bytes} {st:PS}
theorem BlkV.later {N:Nat→Prop} {w w':World} {v:Value} {b:Blk} (h:BlkV N w v b) (hk:Kg g w w') {cs:List Value} (hr:Row w g 103 cs):BlkV N w' v b:=
 h.kept (fun k cs' _ hk'=>kg_at hk hk'.lt (hk'.ne_ hr (by decide)))
theorem BlkV.far {N:Nat→Prop} {w:World} {v:Value} {b:Blk} (h:BlkV N w v b) {C:Nat} (hC:¬N C) (i:Nat) (u:Value):BlkV N (w.setCell ⟨C,i,none⟩ u) v b:=
 h.kept (fun k cs' hk _=>(Kept.one w ⟨C,i,none⟩ u).block k (fun(e:k=C)=>hC (e▸hk)))
theorem BlkV.form_ {N:Nat→Prop} {w:World} {v:Value} {b:Blk} (h:BlkV N w v b):∃g n c,v= .slice (some ⟨g,0,none⟩) n c:=by
 obtain⟨cs,⟨_,g,c,hv⟩,_⟩:=h
 exact⟨g,_,c,hv⟩
theorem BlkV.copied {N:Nat→Prop} {w:World} {v:Value} {b:Blk} (h:BlkV N w v b) {R:Nat} (hR:¬N R) (d0 d1 d2 d3 d4 d5 d6 d7 d8 d9 d10 d11 d12:Value):BlkV N (copied w R d0 d1 d2 d3 d4 d5 d6 d7 d8 d9 d10 d11 d12) v b:=
 ((((((((((((h.far hR 0 d0).far hR 1 d1).far hR 2 d2).far hR 3 d3).far hR 4 d4).far hR 5 d5).far hR 6 d6).far hR 7 d7).far hR 8 d8).far hR 9 d9).far hR 10 d10).far hR 11 d11).far hR 12 d12
set_option maxRecDepth 100000 in
set_option maxHeartbeats 4000000 in
theorem stmt_none (h:RdR B ea w g gp bm vd wp s st) (h1:st.t.kind≠kPut) (h2:st.t.kind≠kEvict) (h3:st.t.kind≠kCool) (h4:st.t.kind≠kShift) (h5:st.t.kind≠kInc) (h6:st.t.kind≠kDec) (h7:st.t.kind≠kDrop)
  (h8:st.t.kind≠kBump) (h9:st.t.kind≠kIf) (h10:st.t.kind≠kRepeat):
  Calls Tryz.prog 109 #[.pointer (some ⟨g,0,none⟩)] w fun e w'=>OutR B ea w g gp bm s (fail eSyntax st) (StmtV w) e w':=by
 have hA:=h.alloc (.cells #[vs [],.int .i64 0,.int .i64 0,.bool false,vs [],.int .i64 0,vs [],.int .i64 0,vs [],.int .i64 0,.bool false,.slice none 0 0,.slice none 0 0] 203)
 obtain⟨_,_,c2,_⟩:=rd_cell hA.row
 have hA2:=hA.alloc (.cells #[vs st.t.kind,.int .i64 0,.int .i64 0,.bool false,vs [],.int .i64 0,vs [],.int .i64 0,vs [],.int .i64 0,.bool false,.slice none 0 0,.slice none 0 0] 203)
 have herr:((w.alloc (.cells #[vs [],.int .i64 0,.int .i64 0,.bool false,vs [],.int .i64 0,vs [],.int .i64 0,vs [],.int .i64 0,.bool false,.slice none 0 0,.slice none 0 0] 203)).alloc
   (.cells #[vs st.t.kind,.int .i64 0,.int .i64 0,.bool false,vs [],.int .i64 0,vs [],.int .i64 0,vs [],.int .i64 0,.bool false,.slice none 0 0,.slice none 0 0] 203)).cell? ⟨7,0,none⟩=some (.iface 307 (.pointer (some (ea 2)))):=hA2.env.err 2 (by omega) (by omega)
 have hf:=fail_any hA2 2
 have hB:=h.env.size
 have hg:=h.g0
 have kg:Kg g w ((w.alloc (.cells #[vs [],.int .i64 0,.int .i64 0,.bool false,vs [],.int .i64 0,vs [],.int .i64 0,vs [],.int .i64 0,.bool false,.slice none 0 0,.slice none 0 0] 203)).alloc
   (.cells #[vs st.t.kind,.int .i64 0,.int .i64 0,.bool false,vs [],.int .i64 0,vs [],.int .i64 0,vs [],.int .i64 0,.bool false,.slice none 0 0,.slice none 0 0] 203)):=
  ((Kept.refl _ w).alloc (.inr (Nat.le_refl _)) _).alloc (.inr (by simp)) _
 have e1:(st.t.kind==kPut)=false:=by simpa using h1
 have e2:(st.t.kind==kEvict)=false:=by simpa using h2
 have e3:(st.t.kind==kCool)=false:=by simpa using h3
 have e4:(st.t.kind==kShift)=false:=by simpa using h4
 have e5:(st.t.kind==kInc)=false:=by simpa using h5
 have e6:(st.t.kind==kDec)=false:=by simpa using h6
 have e7:(st.t.kind==kDrop)=false:=by simpa using h7
 have e8:(st.t.kind==kBump)=false:=by simpa using h8
 have e9:(st.t.kind==kIf)=false:=by simpa using h9
 have e10:(st.t.kind==kRepeat)=false:=by simpa using h10
 have HF:=Lib.hid hf
 have KG:=Lib.hid kg
 clear hf hA hA2 kg h h1 h2 h3 h4 h5 h6 h7 h8 h9 h10
 unfold vs errV at*
 go_enter Tryz.func109,Tryz.ntmps109
 go_wp2_with fail
 refine HF.out.mono ?_
 rintro e w1 ho
 obtain⟨gf,rfl,hF⟩:=fails_held hB hg KG.out ho
 go_wp2
 exact⟨rfl,gf,rfl,hF⟩
theorem ite_stmtV {w0 w':World} {c:Cond} {t e:Blk} {o:Bool} {vt ve:Value} (h1:BlkV (fun k=>w0.heap.size≤k) w' vt t) (h2:if o then BlkV (fun k=>w0.heap.size≤k) w' ve e else ve=vnil∧e= .nil):
  StmtV w0 w' (.ite c t o e .nil) (.agg (encIf c vt ve).toArray):=by
 obtain⟨b0,n1,b2,n3,hv⟩:=ckVals_form c.k
 have e0:encIf c vt ve=[vs kIf,.int .i64 0,.int .i64 0,.bool false,vs (ckWord c.k),.int .i64 (ckNum c.k),vs b0,.int .i64 n1,vs b2,.int .i64 n3,.bool (oddB c.nots),vt,ve]:=by unfold encIf encCond;rw[hv];rfl
 obtain⟨g1,n1',c1,hv1⟩:=h1.form_
 have hve:∃a n c,ve= .slice a n c:=by
  cases o with
  |true=>obtain⟨g2,n2,c2,h⟩:=BlkV.form_ h2;exact⟨_,_,_,h⟩
  |false=>exact⟨_,_,_,h2.1⟩
 obtain⟨a2,n2',c2,hv2⟩:=hve
 refine⟨encIf c vt ve,rfl,rfl,⟨_,_,_,_,_,_,_,_,_,_,_,_,_,_,_,_,_,by rw[e0,hv1,hv2]⟩,⟨vt,ve,[],by simp,h1,?_,rfl⟩⟩
 exact h2
theorem rep_stmtV {w0 w':World} {n:Int} {c:Cond} {b:Blk} {vt:Value} (h1:BlkV (fun k=>w0.heap.size≤k) w' vt b):StmtV w0 w' (.rep n c b .nil) (.agg (encRep n c vt).toArray):=by
 obtain⟨b0,n1,b2,n3,hv⟩:=ckVals_form c.k
 have e0:encRep n c vt=[vs kRepeat,.int .i64 n,.int .i64 0,.bool false,vs (ckWord c.k),.int .i64 (ckNum c.k),vs b0,.int .i64 n1,vs b2,.int .i64 n3,.bool (oddB c.nots),vt,vnil]:=by unfold encRep encCond;rw[hv];rfl
 obtain⟨g1,n1',c1,hv1⟩:=h1.form_
 exact⟨encRep n c vt,rfl,rfl,⟨_,_,_,_,_,_,_,_,_,_,_,_,_,_,_,_,_,by rw[e0,hv1];rfl⟩,⟨vt,[],by simp,h1,rfl⟩⟩
theorem if_fin {w w5:World} {c:Cond} {t e:Blk} {gt nt ct:Nat} {ve:Value} {b0:Bytes} {n1:Int} {b2:Bytes} {n3:Int} {o:Bool}
  (hv:encCond c=[.string ⟨(ckWord c.k).toArray⟩,.int .i64 (ckNum c.k),.string ⟨b0.toArray⟩,.int .i64 n1,.string ⟨b2.toArray⟩,.int .i64 n3,.bool (oddB c.nots)])
  (h1:BlkV (fun k=>w.heap.size+2≤k) w5 (.slice (some ⟨gt,0,none⟩) nt ct) t) (h2:if o then BlkV (fun k=>w.heap.size+2≤k) w5 ve e else ve=vnil∧e= .nil) (d0 d1 d2 d3 d4 d5 d6 d7 d8 d9 d10 d11 d12:Value):
  StmtV w (copied w5 w.heap.size d0 d1 d2 d3 d4 d5 d6 d7 d8 d9 d10 d11 d12) (.ite c t o e .nil)
   (.agg #[.string ⟨kIf.toArray⟩,.int .i64 0,.int .i64 0,.bool false,.string ⟨(ckWord c.k).toArray⟩,.int .i64 (ckNum c.k),.string ⟨b0.toArray⟩,.int .i64 n1,.string ⟨b2.toArray⟩,.int .i64 n3,.bool (oddB c.nots),.slice (some ⟨gt,0,none⟩) nt ct,ve]):=by
 have a1:BlkV (fun k=>w.heap.size≤k) (copied w5 w.heap.size d0 d1 d2 d3 d4 d5 d6 d7 d8 d9 d10 d11 d12) (.slice (some ⟨gt,0,none⟩) nt ct) t:=(h1.copied (R:=w.heap.size) (by omega) d0 d1 d2 d3 d4 d5 d6 d7 d8 d9 d10 d11 d12).mono (fun k _ hk=>Nat.le_trans (Nat.le_add_right _ 2) hk)
 have a2:if o then BlkV (fun k=>w.heap.size≤k) (copied w5 w.heap.size d0 d1 d2 d3 d4 d5 d6 d7 d8 d9 d10 d11 d12) ve e else ve=vnil∧e= .nil:=by
  cases o with
  |true=>
   rw[if_pos rfl]at h2 ⊢
   have a3:=BlkV.copied h2 (R:=w.heap.size) (by omega) d0 d1 d2 d3 d4 d5 d6 d7 d8 d9 d10 d11 d12
   exact a3.mono (fun k _ hk=>Nat.le_trans (Nat.le_add_right _ 2) hk)
  |false=>
   rw[if_neg Bool.false_ne_true]at h2 ⊢
   exact h2
 have hs:=ite_stmtV a1 a2 (c:=c)
 unfold encIf at hs
 rw[hv]at hs
 exact hs
theorem rep_fin {w w5:World} {c:Cond} {b:Blk} {n:Int} {gt nt ct:Nat} {b0:Bytes} {n1:Int} {b2:Bytes} {n3:Int}
  (hv:encCond c=[.string ⟨(ckWord c.k).toArray⟩,.int .i64 (ckNum c.k),.string ⟨b0.toArray⟩,.int .i64 n1,.string ⟨b2.toArray⟩,.int .i64 n3,.bool (oddB c.nots)])
  (h1:BlkV (fun k=>w.heap.size+2≤k) w5 (.slice (some ⟨gt,0,none⟩) nt ct) b) (d0 d1 d2 d3 d4 d5 d6 d7 d8 d9 d10 d11 d12:Value):
  StmtV w (copied w5 w.heap.size d0 d1 d2 d3 d4 d5 d6 d7 d8 d9 d10 d11 d12) (.rep n c b .nil)
   (.agg #[.string ⟨kRepeat.toArray⟩,.int .i64 n,.int .i64 0,.bool false,.string ⟨(ckWord c.k).toArray⟩,.int .i64 (ckNum c.k),.string ⟨b0.toArray⟩,.int .i64 n1,.string ⟨b2.toArray⟩,.int .i64 n3,.bool (oddB c.nots),.slice (some ⟨gt,0,none⟩) nt ct,.slice none 0 0]):=by
 have a1:BlkV (fun k=>w.heap.size≤k) (copied w5 w.heap.size d0 d1 d2 d3 d4 d5 d6 d7 d8 d9 d10 d11 d12) (.slice (some ⟨gt,0,none⟩) nt ct) b:=(h1.copied (R:=w.heap.size) (by omega) d0 d1 d2 d3 d4 d5 d6 d7 d8 d9 d10 d11 d12).mono (fun k _ hk=>Nat.le_trans (Nat.le_add_right _ 2) hk)
 have hs:=rep_stmtV (n:=n) a1 (c:=c)
 unfold encRep at hs
 rw[hv]at hs
 exact hs
set_option maxRecDepth 100000 in
set_option maxHeartbeats 8000000 in
theorem stmt_if (n:Nat) (hbl:BlockC B ea g gp bm s n) (h:RdR B ea w g gp bm vd wp s st) (ok:st.Ok s) (hd:st.depth≤8) (hl:st.loops≤2) (hn:2*left s st+1≤n+1) (hk:st.t.kind=kIf):
  Calls Tryz.prog 109 #[.pointer (some ⟨g,0,none⟩)] w fun e w'=>OutR B ea w g gp bm s
   ((cond s (n+1) (next s st)).bind fun c st=>(block s n st).bind fun t st=>
    if st.t.kind=kElse then(block s n (next s st)).bind fun e st=>.ok (.ite c t true e .nil) st
    else .ok (.ite c t false .nil .nil) st) (StmtV w) e w':=by
 have q0:=HeldS.start h [vs kIf,.int .i64 0,.int .i64 0,.bool false,vs [],.int .i64 0,vs [],.int .i64 0,vs [],.int .i64 0,.bool false,.slice none 0 0,.slice none 0 0]
 have hnx:=next_all q0.rd
 obtain⟨_,_,c2,_⟩:=rd_cell (h.alloc (.cells #[vs [],.int .i64 0,.int .i64 0,.bool false,vs [],.int .i64 0,vs [],.int .i64 0,vs [],.int .i64 0,.bool false,.slice none 0 0,.slice none 0 0] 203)).row
 have hB:=h.env.size
 have hg:=h.g0
 have hl1:=next_lt ok hk (by decide) (by decide)
 rw[hk]at c2
 have Q0:=Lib.hid q0
 have HN:=Lib.hid hnx
 have HOK:=Lib.hid (next_ok ok)
 have HBL:=Lib.hid hbl
 have HL1:=Lib.hid hl1
 have HNN:=Lib.hid hn
 clear q0 hnx h ok hk hbl hl1 hn
 unfold vs at*
 go_enter Tryz.func109,Tryz.ntmps109
 go_wp2_with fail
 refine HN.out.mono ?_
 rintro e w1 ⟨rfl,hk1,h1⟩
 have q1:=Q0.out.call hk1 h1 rfl rfl rfl
 have hc:=cond_any (n+1) (next s st) _ _ _ q1.rd HOK.out (by have:=HL1.out;have:=HNN.out;omega)
 obtain⟨e0,e1,e2,e3,e4,e5,e6,e7,e8,e9,e10,e11,e12⟩:=cells13 q1.rowC
 have z:=fun j=>q1.rowC.frozen j
 have Q1:=Lib.hid q1
 have HC:=Lib.hid hc
 clear hk1 h1 q1 hc
 unfold vs at*
 go_wp2_with fail
 refine HC.out.mono ?_
 rintro e w2 ho
 clear e0 e1 e2 e3 e4 e5 e6 e7 e8 e9 e10 e11 e12 z
 cases hxc:cond s (n+1) (next s st)with
 |bad k pos=>
  rw[hxc]at ho
  obtain⟨gf,rfl,hF⟩:=fails_held hB hg Q1.out.kg ho
  have HXC:=Lib.hid hxc
  clear hxc
  go_wp2
  refine⟨rfl,?_⟩
  rw[HXC.out]
  exact⟨gf,rfl,hF⟩
 |ok c st1=>
  rw[hxc]at ho
  obtain⟨v,rfl,rfl,hk2,vd2,wp2,h2⟩:=ho
  obtain⟨fw,lt,_⟩:=cond_ok HOK.out hxc
  obtain⟨b0,n1,b2,n3,hv⟩:=ckVals_form c.k
  have ec:encCond c=[.string ⟨(ckWord c.k).toArray⟩,.int .i64 (ckNum c.k),.string ⟨b0.toArray⟩,.int .i64 n1,.string ⟨b2.toArray⟩,.int .i64 n3,.bool (oddB c.nots)]:=by unfold encCond;rw[hv];rfl
  have p2:=Q1.out.call hk2 h2 fw.decls fw.freq fw.rules
  obtain⟨e0,e1,e2,e3,e4,e5,e6,e7,e8,e9,e10,e11,e12⟩:=cells13 p2.rowC
  have z:=fun j=>p2.rowC.frozen j
  have q2:=((((((p2.setC 4 (.string ⟨(ckWord c.k).toArray⟩)).setC 5 (.int .i64 (ckNum c.k))).setC 6 (.string ⟨b0.toArray⟩)).setC 7 (.int .i64 n1)).setC 8 (.string ⟨b2.toArray⟩)).setC 9 (.int .i64 n3)).setC 10 (.bool (oddB c.nots))
  have hb:=HBL.out st1 _ _ _ q2.rd fw.ok (by have:=fw.depth;simp only[next]at this;omega) (by have:=fw.loops;simp only[next]at this;omega) (by have:=HL1.out;have:=HNN.out;omega)
  have HXC:=Lib.hid hxc
  have HFW:=Lib.hid fw
  have HLT:=Lib.hid lt
  have Q2:=Lib.hid q2
  have HB:=Lib.hid hb
  have EC:=Lib.hid ec
  rw[ec]
  clear hk2 h2 p2 q2 hb hxc fw lt hv ec
  unfold vs at*
  go_wp2_with fail
  refine HB.out.mono ?_
  rintro e w3 ho
  clear e0 e1 e2 e3 e4 e5 e6 e7 e8 e9 e10 e11 e12 z
  cases hxt:block s n st1 with
  |bad k pos=>
   rw[hxt]at ho
   obtain⟨gf,rfl,hF⟩:=fails_held hB hg Q2.out.kg ho
   have HXT:=Lib.hid hxt
   clear hxt
   go_wp2
   refine⟨rfl,?_⟩
   rw[HXC.out]
   show OutR _ _ _ _ _ _ _ ((block s n st1).bind _) _ _ _
   rw[HXT.out]
   exact⟨gf,rfl,hF⟩
  |ok t st2=>
   rw[hxt]at ho
   obtain⟨vt,rfl,hvt,hk3,vd3,wp3,h3⟩:=ho
   have hbk:=block_ok HFW.out.ok (by have:=HFW.out.depth;simp only[next]at this;omega) (by have:=HFW.out.loops;simp only[next]at this;omega) hxt
   have fw:=hbk.1
   have hlt2:=hbk.2.2.2.2.2
   obtain⟨gt,nt,ct,rfl⟩:=hvt.form_
   have p3:=Q2.out.call hk3 h3 fw.decls fw.freq fw.rules
   obtain⟨e0,e1,e2,e3,e4,e5,e6,e7,e8,e9,e10,e11,e12⟩:=cells13 p3.rowC
   have z:=fun j=>p3.rowC.frozen j
   have q3:=p3.setC 11 (.slice (some ⟨gt,0,none⟩) nt ct)
   have ht:=take_any q3.rd kElse
   have hsz2:=Q2.out.kg.size
   have hCC:=Q2.out.rowC.lt
   have hvt3:BlkV (fun k=>w.heap.size+2≤k) (w3.setCell ⟨w.heap.size+1,11,none⟩ (.slice (some ⟨gt,0,none⟩) nt ct)) (.slice (some ⟨gt,0,none⟩) nt ct) t:=
    (hvt.far (by omega) 11 _).mono (fun k _ hk=>by omega)
   have hok2:=fw.ok
   have hd2:st2.depth≤8:=by have h1:=HFW.out.depth;have h2:=fw.depth;simp only[next]at h1;omega
   have hl2:st2.loops≤2:=by have h1:=HFW.out.loops;have h2:=fw.loops;simp only[next]at h1;omega
   have HXT:=Lib.hid hxt
   have HVT:=Lib.hid hvt3
   have Q3:=Lib.hid q3
   have HT:=Lib.hid ht
   have HOK2:=Lib.hid hok2
   have HL3:=Lib.hid hlt2
   clear hk3 h3 p3 q3 ht hxt hvt hvt3 hbk fw hlt2 hsz2 hCC hok2
   unfold vs at*
   go_wp2_with fail
   refine HT.out.mono ?_
   rintro e w4 ⟨rfl,hk4,h4⟩
   clear e0 e1 e2 e3 e4 e5 e6 e7 e8 e9 e10 e11 e12 z
   by_cases hel:st2.t.kind=kElse
   ·rw[take_yes hel]at h4
    have q4:=Q3.out.call hk4 h4 rfl rfl rfl
    have hl4:=next_lt HOK2.out hel (by decide) (by decide)
    have hb:=HBL.out (next s st2) _ _ _ q4.rd (next_ok HOK2.out) hd2 hl2 (by have:=HL1.out;have:=HNN.out;have:=HLT.out;have:=HL3.out;omega)
    obtain⟨e0,e1,e2,e3,e4,e5,e6,e7,e8,e9,e10,e11,e12⟩:=cells13 q4.rowC
    have z:=fun j=>q4.rowC.frozen j
    have hvt4:=HVT.out.later hk4 Q3.out.row
    have HVT4:=Lib.hid hvt4
    have Q4:=Lib.hid q4
    have HB4:=Lib.hid hb
    have HEL:=Lib.hid hel
    have et:(take s kElse st2).1=true:=by rw[take_yes hel]
    rw[et]
    clear hk4 h4 q4 hb hvt4 hel hl4 et
    unfold vs at*
    go_wp2_with fail
    refine HB4.out.mono ?_
    rintro e w5 ho
    clear e0 e1 e2 e3 e4 e5 e6 e7 e8 e9 e10 e11 e12 z
    cases hxe:block s n (next s st2)with
    |bad k pos=>
     rw[hxe]at ho
     obtain⟨gf,rfl,hF⟩:=fails_held hB hg Q4.out.kg ho
     have HXE:=Lib.hid hxe
     clear hxe
     go_wp2
     refine⟨rfl,?_⟩
     rw[HXC.out]
     show OutR _ _ _ _ _ _ _ ((block s n st1).bind _) _ _ _
     rw[HXT.out]
     show OutR _ _ _ _ _ _ _ (if st2.t.kind=kElse then _ else _) _ _ _
     rw[if_pos HEL.out,HXE.out]
     exact⟨gf,rfl,hF⟩
    |ok el st3=>
     rw[hxe]at ho
     obtain⟨ve,rfl,hve,hk5,vd5,wp5,h5⟩:=ho
     have fw:=(block_ok (next_ok HOK2.out) hd2 hl2 hxe).1
     obtain⟨ge,ne,ce,rfl⟩:=hve.form_
     have p5:=Q4.out.call hk5 h5 fw.decls fw.freq fw.rules
     obtain⟨e0,e1,e2,e3,e4,e5,e6,e7,e8,e9,e10,e11,e12⟩:=cells13 p5.rowC
     obtain⟨f0,f1,f2,f3,f4,f5,f6,f7,f8,f9,f10,f11,f12⟩:=cells13 p5.rowR
     have z:=fun j=>p5.rowC.frozen j
     have y:=fun j=>p5.rowR.frozen j
     have q5:=p5.setC 12 (.slice (some ⟨ge,0,none⟩) ne ce)
     have q6:=q5.copy (.string ⟨kIf.toArray⟩) (.int .i64 0) (.int .i64 0) (.bool false) (.string ⟨(ckWord c.k).toArray⟩) (.int .i64 (ckNum c.k)) (.string ⟨b0.toArray⟩) (.int .i64 n1) (.string ⟨b2.toArray⟩) (.int .i64 n3) (.bool (oddB c.nots)) (.slice (some ⟨gt,0,none⟩) nt ct) (.slice (some ⟨ge,0,none⟩) ne ce)
     have hsz4:=Q4.out.kg.size
     have hvt5:=HVT4.out.later hk5 Q4.out.row
     have hCC4:=Q4.out.rowC.lt
     have hve5:BlkV (fun k=>w.heap.size+2≤k) w5 (.slice (some ⟨ge,0,none⟩) ne ce) el:=hve.mono (fun k _ hk=>by omega)
     have HXE:=Lib.hid hxe
     have Q6:=Lib.hid q6
     have HVE:=Lib.hid hve5
     have HVT5:=Lib.hid hvt5
     clear hk5 h5 p5 q5 q6 hxe hve hve5 hvt5 fw hsz4 hCC4
     unfold vs at*
     go_wp2
     refine bodyPost_ret (results_cell (cs:=[.string ⟨kIf.toArray⟩,.int .i64 0,.int .i64 0,.bool false,.string ⟨(ckWord c.k).toArray⟩,.int .i64 (ckNum c.k),.string ⟨b0.toArray⟩,.int .i64 n1,.string ⟨b2.toArray⟩,.int .i64 n3,.bool (oddB c.nots),.slice (some ⟨gt,0,none⟩) nt ct,.slice (some ⟨ge,0,none⟩) ne ce]) Tryz.results109 aggStmt sizeStmt rfl Q6.out.rowR) rfl ?_
     rw[HXC.out]
     show OutR _ _ _ _ _ _ _ ((block s n st1).bind _) _ _ _
     rw[HXT.out]
     show OutR _ _ _ _ _ _ _ (if st2.t.kind=kElse then _ else _) _ _ _
     rw[if_pos HEL.out,HXE.out]
     exact⟨_,rfl,if_fin (o:=true) (e:=el) (ve:=.slice (some ⟨ge,0,none⟩) ne ce) EC.out (HVT5.out.far (C:=w.heap.size+1) (by omega) 12 (.slice (some ⟨ge,0,none⟩) ne ce)) (by rw[if_pos rfl];exact HVE.out.far (C:=w.heap.size+1) (by omega) 12 _) _ _ _ _ _ _ _ _ _ _ _ _ _,Q6.out.kg,_,_,Q6.out.rd⟩
   ·rw[take_no hel]at h4
    have p4:=Q3.out.call hk4 h4 rfl rfl rfl
    obtain⟨e0,e1,e2,e3,e4,e5,e6,e7,e8,e9,e10,e11,e12⟩:=cells13 p4.rowC
    obtain⟨f0,f1,f2,f3,f4,f5,f6,f7,f8,f9,f10,f11,f12⟩:=cells13 p4.rowR
    have z:=fun j=>p4.rowC.frozen j
    have y:=fun j=>p4.rowR.frozen j
    have q6:=p4.copy (.string ⟨kIf.toArray⟩) (.int .i64 0) (.int .i64 0) (.bool false) (.string ⟨(ckWord c.k).toArray⟩) (.int .i64 (ckNum c.k)) (.string ⟨b0.toArray⟩) (.int .i64 n1) (.string ⟨b2.toArray⟩) (.int .i64 n3) (.bool (oddB c.nots)) (.slice (some ⟨gt,0,none⟩) nt ct) (.slice none 0 0)
    have hvt4:=HVT.out.later hk4 Q3.out.row
    have HVT5:=Lib.hid hvt4
    have HEL:=Lib.hid hel
    have Q6:=Lib.hid q6
    have et:(take s kElse st2).1=false:=by rw[take_no hel]
    rw[et]
    clear hk4 h4 p4 q6 hvt4 hel et
    unfold vs at*
    go_wp2
    refine bodyPost_ret (results_cell (cs:=[.string ⟨kIf.toArray⟩,.int .i64 0,.int .i64 0,.bool false,.string ⟨(ckWord c.k).toArray⟩,.int .i64 (ckNum c.k),.string ⟨b0.toArray⟩,.int .i64 n1,.string ⟨b2.toArray⟩,.int .i64 n3,.bool (oddB c.nots),.slice (some ⟨gt,0,none⟩) nt ct,.slice none 0 0]) Tryz.results109 aggStmt sizeStmt rfl Q6.out.rowR) rfl ?_
    rw[HXC.out]
    show OutR _ _ _ _ _ _ _ ((block s n st1).bind _) _ _ _
    rw[HXT.out]
    show OutR _ _ _ _ _ _ _ (if st2.t.kind=kElse then _ else _) _ _ _
    rw[if_neg HEL.out]
    exact⟨_,rfl,if_fin (o:=false) (e:=.nil) (ve:=.slice none 0 0) EC.out HVT5.out (by rw[if_neg Bool.false_ne_true];exact⟨rfl,rfl⟩) _ _ _ _ _ _ _ _ _ _ _ _ _,Q6.out.kg,_,_,Q6.out.rd⟩
theorem HeldS.loops {w0:World} {wp0:Value} {st0:PS} {R C:Nat} {cs ds:List Value} (h:HeldS B ea g gp bm vd s st0 w0 wp0 st w wp R C cs ds) (n:Nat) {i:Int} (hi:i=n):
  HeldS B ea g gp bm vd s st0 w0 wp0 {st with loops:=n} (w.setCell ⟨g,8,none⟩ (.int .i64 i)) wp R C cs ds:=h.call (Kg.cell g w 8 _) (h.rd.setLoops n hi) rfl rfl rfl
set_option maxRecDepth 100000 in
set_option maxHeartbeats 4000000 in
theorem stmt_rep_deep (h:RdR B ea w g gp bm vd wp s st) (hk:st.t.kind=kRepeat) (h2:st.loops=2):
  Calls Tryz.prog 109 #[.pointer (some ⟨g,0,none⟩)] w fun e w'=>OutR B ea w g gp bm s (fail eDeep st) (StmtV w) e w':=by
 have q0:=HeldS.start h [vs kRepeat,.int .i64 0,.int .i64 0,.bool false,vs [],.int .i64 0,vs [],.int .i64 0,vs [],.int .i64 0,.bool false,.slice none 0 0,.slice none 0 0]
 obtain⟨_,_,c2,_⟩:=rd_cell (h.alloc (.cells #[vs [],.int .i64 0,.int .i64 0,.bool false,vs [],.int .i64 0,vs [],.int .i64 0,vs [],.int .i64 0,.bool false,.slice none 0 0,.slice none 0 0] 203)).row
 obtain⟨_,_,_,_,_,_,_,_,c8,_⟩:=rd_cell q0.rd.row
 have herr:=q0.rd.env.err 3 (by omega) (by omega)
 have hf:=fail_any q0.rd 3
 have hB:=h.env.size
 have hg:=h.g0
 rw[hk]at c2
 rw[h2]at c8
 rw[show errGlobal 3=8 from rfl]at herr
 have HF:=Lib.hid hf
 have Q0:=Lib.hid q0
 clear hf q0 h hk h2
 unfold vs errV at*
 go_enter Tryz.func109,Tryz.ntmps109
 go_wp2_with fail
 refine HF.out.mono ?_
 rintro e w1 ho
 obtain⟨gf,rfl,hF⟩:=fails_held hB hg Q0.out.kg ho
 go_wp2
 exact⟨rfl,gf,rfl,hF⟩
set_option maxRecDepth 100000 in
set_option maxHeartbeats 8000000 in
theorem stmt_rep (n:Nat) (hbl:BlockC B ea g gp bm s n) (h:RdR B ea w g gp bm vd wp s st) (ok:st.Ok s) (hd:st.depth≤8) (hl:st.loops<2) (hn:2*left s st+1≤n+1) (hk:st.t.kind=kRepeat):
  Calls Tryz.prog 109 #[.pointer (some ⟨g,0,none⟩)] w fun e w'=>OutR B ea w g gp bm s
   ((number s 1 50 (next s st)).bind fun k st=>(want s kWhile st).bind fun _ st=>(cond s (n+1) st).bind fun c st=>
    (block s n {st with loops:=st.loops+1}).bind fun b st=>.ok (.rep k c b .nil) {st with loops:=st.loops-1}) (StmtV w) e w':=by
 have q0:=HeldS.start h [vs kRepeat,.int .i64 0,.int .i64 0,.bool false,vs [],.int .i64 0,vs [],.int .i64 0,vs [],.int .i64 0,.bool false,.slice none 0 0,.slice none 0 0]
 have hnx:=next_all q0.rd
 obtain⟨_,_,c2,_⟩:=rd_cell (h.alloc (.cells #[vs [],.int .i64 0,.int .i64 0,.bool false,vs [],.int .i64 0,vs [],.int .i64 0,vs [],.int .i64 0,.bool false,.slice none 0 0,.slice none 0 0] 203)).row
 obtain⟨_,_,_,_,_,_,_,_,c8,_⟩:=rd_cell q0.rd.row
 have hB:=h.env.size
 have hg:=h.g0
 have hl1:=next_lt ok hk (by decide) (by decide)
 rw[hk]at c2
 have b8:((st.loops:Int)==2)=false:=by simp;omega
 have b9:(st.loops:Int)<2:=by omega
 have b10:(0:Int)≤(st.loops:Int):=by omega
 have Q0:=Lib.hid q0
 have HN:=Lib.hid hnx
 have HOK:=Lib.hid (next_ok ok)
 have HBL:=Lib.hid hbl
 have HL1:=Lib.hid hl1
 have HNN:=Lib.hid hn
 clear q0 hnx h ok hk hbl hl1 hn
 unfold vs at*
 go_enter Tryz.func109,Tryz.ntmps109
 go_wp2_with fail
 refine HN.out.mono ?_
 rintro e w1 ⟨rfl,hk1,h1⟩
 have q1:=Q0.out.call hk1 h1 rfl rfl rfl
 have hm:=number_any q1.rd HOK.out 1 50
 obtain⟨e0,e1,e2,e3,e4,e5,e6,e7,e8,e9,e10,e11,e12⟩:=cells13 q1.rowC
 have z:=fun j=>q1.rowC.frozen j
 have Q1:=Lib.hid q1
 have HM:=Lib.hid hm
 clear hk1 h1 q1 hm c8
 unfold vs at*
 go_wp2_with fail
 refine HM.out.mono ?_
 rintro e w2 ho
 clear e0 e1 e2 e3 e4 e5 e6 e7 e8 e9 e10 e11 e12 z
 cases hxn:number s 1 50 (next s st)with
 |bad k pos=>
  rw[hxn]at ho
  obtain⟨gf,rfl,hF⟩:=fails_held hB hg Q1.out.kg ho
  have HXN:=Lib.hid hxn
  clear hxn
  go_wp2
  refine⟨rfl,?_⟩
  rw[HXN.out]
  exact⟨gf,rfl,hF⟩
 |ok m st1=>
  rw[hxn]at ho
  obtain⟨v,rfl,rfl,hk2,vd2,wp2,h2⟩:=ho
  obtain⟨fw,lt,_⟩:=number_ok HOK.out hxn
  have p2:=Q1.out.call hk2 h2 fw.decls fw.freq fw.rules
  obtain⟨e0,e1,e2,e3,e4,e5,e6,e7,e8,e9,e10,e11,e12⟩:=cells13 p2.rowC
  have z:=fun j=>p2.rowC.frozen j
  have q2:=p2.setC 1 (.int .i64 m)
  have hw:=want_any q2.rd kWhile
  have HXN:=Lib.hid hxn
  have HFW:=Lib.hid fw
  have HLT:=Lib.hid lt
  have Q2:=Lib.hid q2
  have HW:=Lib.hid hw
  clear hk2 h2 p2 q2 hw hxn fw lt
  unfold vs at*
  go_wp2_with fail
  refine HW.out.mono ?_
  rintro e w3 ho
  clear e0 e1 e2 e3 e4 e5 e6 e7 e8 e9 e10 e11 e12 z
  cases hxw:want s kWhile st1 with
  |bad k pos=>
   rw[hxw]at ho
   obtain⟨gf,rfl,hF⟩:=fails_held hB hg Q2.out.kg ho
   have HXW:=Lib.hid hxw
   clear hxw
   go_wp2
   refine⟨rfl,?_⟩
   rw[HXN.out]
   show OutR _ _ _ _ _ _ _ ((want s kWhile st1).bind _) _ _ _
   rw[HXW.out]
   exact⟨gf,rfl,hF⟩
  |ok tw st2=>
   rw[hxw]at ho
   obtain⟨v,rfl,rfl,hk3,vd3,wp3,h3⟩:=ho
   have hst2:=(want_ok hxw).2.2
   have fw2:Fwd s st1 st2:=by rw[hst2];exact Fwd.next HFW.out.ok
   have q3:=Q2.out.call hk3 h3 fw2.decls fw2.freq fw2.rules
   have hc:=cond_any (n+1) st2 _ _ _ q3.rd fw2.ok (by have:=HL1.out;have:=HNN.out;have:=HLT.out;have:=fw2.left;omega)
   obtain⟨e0,e1,e2,e3,e4,e5,e6,e7,e8,e9,e10,e11,e12⟩:=cells13 q3.rowC
   have z:=fun j=>q3.rowC.frozen j
   have HXW:=Lib.hid hxw
   have HFW2:=Lib.hid (HFW.out.trans fw2)
   have HOK2:=Lib.hid fw2.ok
   have HLE2:=Lib.hid fw2.left
   have Q3:=Lib.hid q3
   have HC:=Lib.hid hc
   clear hk3 h3 q3 hc hxw hst2 fw2
   unfold encTok vs at*
   go_wp2_with fail
   refine HC.out.mono ?_
   rintro e w4 ho
   clear e0 e1 e2 e3 e4 e5 e6 e7 e8 e9 e10 e11 e12 z
   cases hxc:cond s (n+1) st2 with
   |bad k pos=>
    rw[hxc]at ho
    obtain⟨gf,rfl,hF⟩:=fails_held hB hg Q3.out.kg ho
    have HXC:=Lib.hid hxc
    clear hxc
    go_wp2
    refine⟨rfl,?_⟩
    rw[HXN.out]
    show OutR _ _ _ _ _ _ _ ((want s kWhile st1).bind _) _ _ _
    rw[HXW.out]
    show OutR _ _ _ _ _ _ _ ((cond s (n+1) st2).bind _) _ _ _
    rw[HXC.out]
    exact⟨gf,rfl,hF⟩
   |ok c st3=>
    rw[hxc]at ho
    obtain⟨v,rfl,rfl,hk4,vd4,wp4,h4⟩:=ho
    obtain⟨fw3,lt3,_⟩:=cond_ok HOK2.out hxc
    obtain⟨b0,n1,b2,n3,hv⟩:=ckVals_form c.k
    have ec:encCond c=[.string ⟨(ckWord c.k).toArray⟩,.int .i64 (ckNum c.k),.string ⟨b0.toArray⟩,.int .i64 n1,.string ⟨b2.toArray⟩,.int .i64 n3,.bool (oddB c.nots)]:=by unfold encCond;rw[hv];rfl
    have F3:=HFW2.out.trans fw3
    have hlo:st3.loops=st.loops:=F3.loops
    have hde:st3.depth=st.depth:=F3.depth
    have p4:=Q3.out.call hk4 h4 fw3.decls fw3.freq fw3.rules
    obtain⟨e0,e1,e2,e3,e4,e5,e6,e7,e8,e9,e10,e11,e12⟩:=cells13 p4.rowC
    have z:=fun j=>p4.rowC.frozen j
    obtain⟨_,_,_,_,_,_,_,_,c8,_⟩:=rd_cell p4.row
    have fr8:=p4.row.frozen 8
    have hgC:¬w.heap.size+1=g:=p4.rowC.ne_ p4.row (by decide)
    have hgC':¬g=w.heap.size+1:=fun e=>hgC e.symm
    have hgR:¬w.heap.size=g:=p4.rowR.ne_ p4.row (by decide)
    have hgR':¬g=w.heap.size:=fun e=>hgR e.symm
    rw[hlo]at c8
    have q4:=(((((((p4.setC 4 (.string ⟨(ckWord c.k).toArray⟩)).setC 5 (.int .i64 (ckNum c.k))).setC 6 (.string ⟨b0.toArray⟩)).setC 7 (.int .i64 n1)).setC 8 (.string ⟨b2.toArray⟩)).setC 9 (.int .i64 n3)).setC 10 (.bool (oddB c.nots))).loops (st.loops+1) (i:=(st.loops:Int)+1) rfl
    have hb:=HBL.out {st3 with loops:=st.loops+1} _ _ _ q4.rd ⟨fw3.ok.i,fw3.ok.pos,fw3.ok.more,fw3.ok.num,fw3.ok.name⟩ (by show st3.depth≤8;omega) (by show st.loops+1≤2;omega)
     (by have h1:=HL1.out;have h2:=HNN.out;have h3:=HLT.out;have h4:=HLE2.out;show 2*left s st3+1≤n;omega)
    have HXC:=Lib.hid hxc
    have HF3:=Lib.hid F3
    have Q4:=Lib.hid q4
    have HB:=Lib.hid hb
    have EC:=Lib.hid ec
    have HLO:=Lib.hid hlo
    have HOK3:=Lib.hid fw3.ok
    rw[ec]
    clear hk4 h4 p4 q4 hb hxc fw3 lt3 hv ec F3 hlo hde
    unfold vs at*
    go_wp2_with fail
    refine HB.out.mono ?_
    rintro e w5 ho
    clear e0 e1 e2 e3 e4 e5 e6 e7 e8 e9 e10 e11 e12 z c8 fr8
    cases hxb:block s n {st3 with loops:=st.loops+1}with
    |bad k pos=>
     rw[hxb]at ho
     obtain⟨gf,rfl,hF⟩:=fails_held hB hg Q4.out.kg ho
     have HXB:=Lib.hid hxb
     clear hxb
     go_wp2
     refine⟨rfl,?_⟩
     rw[HXN.out]
     show OutR _ _ _ _ _ _ _ ((want s kWhile st1).bind _) _ _ _
     rw[HXW.out]
     show OutR _ _ _ _ _ _ _ ((cond s (n+1) st2).bind _) _ _ _
     rw[HXC.out]
     show OutR _ _ _ _ _ _ _ ((block s n {st3 with loops:=st3.loops+1}).bind _) _ _ _
     rw[HLO.out,HXB.out]
     exact⟨gf,rfl,hF⟩
    |ok bb st4=>
     rw[hxb]at ho
     obtain⟨vt,rfl,hvt,hk5,vd5,wp5,h5⟩:=ho
     have fw4:=(block_ok (st:={st3 with loops:=st.loops+1}) ⟨HOK3.out.i,HOK3.out.pos,HOK3.out.more,HOK3.out.num,HOK3.out.name⟩ (by have:=HF3.out.depth;simp only[next]at this;show st3.depth≤8;omega) (by show st.loops+1≤2;omega) hxb).1
     have hlo4:st4.loops=st.loops+1:=fw4.loops
     obtain⟨gt,nt,ct,rfl⟩:=hvt.form_
     have p5:=Q4.out.call hk5 h5 fw4.decls fw4.freq fw4.rules
     obtain⟨e0,e1,e2,e3,e4,e5,e6,e7,e8,e9,e10,e11,e12⟩:=cells13 p5.rowC
     obtain⟨f0,f1,f2,f3,f4,f5,f6,f7,f8,f9,f10,f11,f12⟩:=cells13 p5.rowR
     have z:=fun j=>p5.rowC.frozen j
     have y:=fun j=>p5.rowR.frozen j
     obtain⟨_,_,_,_,_,_,_,_,c8,_⟩:=rd_cell p5.row
     have fr8:=p5.row.frozen 8
     rw[hlo4]at c8
     have q5:=(p5.setC 11 (.slice (some ⟨gt,0,none⟩) nt ct)).loops st.loops (i:=(st.loops:Int)) rfl
     have q6:=q5.copy (.string ⟨kRepeat.toArray⟩) (.int .i64 m) (.int .i64 0) (.bool false) (.string ⟨(ckWord c.k).toArray⟩) (.int .i64 (ckNum c.k)) (.string ⟨b0.toArray⟩) (.int .i64 n1) (.string ⟨b2.toArray⟩) (.int .i64 n3) (.bool (oddB c.nots)) (.slice (some ⟨gt,0,none⟩) nt ct) (.slice none 0 0)
     have hCC:=Q4.out.rowC.lt
     have hgg:=Q4.out.row.lt
     have hvt5:BlkV (fun k=>w.heap.size+2≤k) ((w5.setCell ⟨w.heap.size+1,11,none⟩ (.slice (some ⟨gt,0,none⟩) nt ct)).setCell ⟨g,8,none⟩ (.int .i64 (st.loops:Int))) (.slice (some ⟨gt,0,none⟩) nt ct) bb:=
      ((hvt.far (C:=w.heap.size+1) (by omega) 11 (.slice (some ⟨gt,0,none⟩) nt ct)).far (C:=g) (by omega) 8 (.int .i64 (st.loops:Int))).mono (fun k _ hk=>Nat.le_trans hCC hk)
     have ec1:(((st.loops+1:Nat):Int)-1)=(st.loops:Int):=by omega
     have EC1:=Lib.hid ec1
     have HXB:=Lib.hid hxb
     have Q6:=Lib.hid q6
     have HVT:=Lib.hid hvt5
     have HL4:=Lib.hid hlo4
     clear hk5 h5 p5 q5 q6 hxb hvt hvt5 fw4 hCC hgg ec1 hlo4
     unfold vs at*
     go_wp2
     refine bodyPost_ret (results_cell (cs:=[.string ⟨kRepeat.toArray⟩,.int .i64 m,.int .i64 0,.bool false,.string ⟨(ckWord c.k).toArray⟩,.int .i64 (ckNum c.k),.string ⟨b0.toArray⟩,.int .i64 n1,.string ⟨b2.toArray⟩,.int .i64 n3,.bool (oddB c.nots),.slice (some ⟨gt,0,none⟩) nt ct,.slice none 0 0]) Tryz.results109 aggStmt sizeStmt rfl Q6.out.rowR) rfl ?_
     rw[HXN.out]
     show OutR _ _ _ _ _ _ _ ((want s kWhile st1).bind _) _ _ _
     rw[HXW.out]
     show OutR _ _ _ _ _ _ _ ((cond s (n+1) st2).bind _) _ _ _
     rw[HXC.out]
     show OutR _ _ _ _ _ _ _ ((block s n {st3 with loops:=st3.loops+1}).bind _) _ _ _
     rw[HLO.out,HXB.out]
     refine⟨_,rfl,rep_fin EC.out HVT.out _ _ _ _ _ _ _ _ _ _ _ _ _,Q6.out.kg,vd,wp5,?_⟩
     have hr:=Q6.out.rd
     rw[show st4.loops-1=st.loops by rw[HL4.out];rfl]
     exact hr
end
end Go.Proofs.YtepoejiigmhlbaaGreatDoor.Ev
namespace Go.Proofs.YtepoejiigmhlbaaGreatDoor.Ev
open Go Go.RowKit
section
variable {B:Nat} {ea:Nat→Addr} {w:World} {g gp bm:Nat} {vd wp:Value} {s:Bytes} {st:PS}
theorem stmt_step (n:Nat) (hbl:BlockC B ea g gp bm s n):StmtC B ea g gp bm s (n+1):=by
 intro st w vd wp h ok hd hl hn
 rw[stmt]
 by_cases h1:st.t.kind=kPut
 ·rw[if_pos h1];exact stmt_put h ok h1
 rw[if_neg h1]
 by_cases h2:st.t.kind=kEvict
 ·rw[if_pos h2];exact stmt_evict_ (.inl ⟨rfl,rfl⟩) h ok h2
 rw[if_neg h2]
 by_cases h3:st.t.kind=kCool
 ·rw[if_pos h3];exact stmt_evict_ (.inr ⟨rfl,rfl⟩) h ok h3
 rw[if_neg h3]
 by_cases h4:st.t.kind=kShift
 ·rw[if_pos h4];exact stmt_shift h ok h4
 rw[if_neg h4]
 by_cases h5:st.t.kind=kInc
 ·rw[if_pos h5];exact stmt_inc_ (.inl ⟨rfl,rfl⟩) h ok h5
 rw[if_neg h5]
 by_cases h6:st.t.kind=kDec
 ·rw[if_pos h6];exact stmt_inc_ (.inr ⟨rfl,rfl⟩) h ok h6
 rw[if_neg h6]
 by_cases h7:st.t.kind=kDrop
 ·rw[if_pos h7];exact stmt_drop_ (.inl ⟨rfl,rfl⟩) h ok h7
 rw[if_neg h7]
 by_cases h8:st.t.kind=kBump
 ·rw[if_pos h8];exact stmt_drop_ (.inr ⟨rfl,rfl⟩) h ok h8
 rw[if_neg h8]
 by_cases h9:st.t.kind=kIf
 ·rw[if_pos h9];exact stmt_if n hbl h ok hd hl hn h9
 rw[if_neg h9]
 by_cases h10:st.t.kind=kRepeat
 ·rw[if_pos h10]
  by_cases h11:st.loops=2
  ·rw[if_pos h11];exact stmt_rep_deep h h10 h11
  ·rw[if_neg h11];exact stmt_rep n hbl h ok hd (by omega) hn h10
 rw[if_neg h10]
 exact stmt_none h h1 h2 h3 h4 h5 h6 h7 h8 h9 h10
theorem both_any (n:Nat):BlockC B ea g gp bm s n∧StmtC B ea g gp bm s n:=by
 induction n using Nat.strongRecOn with
 |ind n ih=>
  cases n with
  |zero=>exact⟨fun st w vd wp h ok hd hl hn=>by omega,fun st w vd wp h ok hd hl hn=>by omega⟩
  |succ n=>exact⟨block_step n (fun m hm=>(ih m hm).2),stmt_step n (ih n (by omega)).1⟩
theorem block_any (h:RdR B ea w g gp bm vd wp s st) (ok:st.Ok s) (hd:st.depth≤8) (hl:st.loops≤2) {n:Nat} (hn:2*left s st+1≤n):
  Calls Tryz.prog 75 #[.pointer (some ⟨g,0,none⟩)] w fun e w'=>OutR B ea w g gp bm s (block s n st) (fun w' b v=>BlkV (fun k=>w.heap.size≤k) w' v b) e w':=
 (both_any n).1 st w vd wp h ok hd hl hn
end
end Go.Proofs.YtepoejiigmhlbaaGreatDoor.Ev
namespace Go.Proofs.YtepoejiigmhlbaaGreatDoor.Ev
open Go Go.RowKit
theorem zeroStmts (w:World):(zeroValue 105).run Tryz.prog w= .ok (.slice none 0 0) w:=by kernel_rfl
def OutD (B:Nat) (ea:Nat→Addr) (w:World) (g gp bm:Nat) (s:Bytes) (x:Out Unit) (e:Ending) (w':World):Prop:=
 match x with
 | .ok _ st'=>e= .returned (.tuple #[])∧Kept (fun b=>B≤b) w w'∧∃vd wp,RdR B ea w' g gp bm vd wp s st'
 | .bad k pos=>Fails B ea w e w' k pos
section
variable {B:Nat} {ea:Nat→Addr} {w:World} {g gp bm:Nat} {vd wp:Value} {s:Bytes} {st:PS}
theorem look_pair {N:Nat→Prop}:∀(M:IMap) (rules:List (Int×Blk)),M.map (·.1)=rules.map (·.1)→(∀(i:Nat) (x:Int×Value) (y:Int×Blk),M[i]?=some x→rules[i]?=some y→BlkV N w x.2 y.2)→∀k:Int,
  match ruleOf rules k with
  |some b=>∃v,mget M k=some v∧BlkV N w v b
  |none=>mget M k=none
 | [],[],_,_,k=>rfl
 | [],_::_,h,_,_=>by simp at h
 |_::_,[],h,_,_=>by simp at h
 |x::M,y::rules,h,hv,k=>by
  simp only[List.map_cons,List.cons.injEq]at h
  unfold ruleOf mget
  by_cases hk:y.1=k
  ·have hk':x.1=k:=h.1.trans hk
   rw[List.find?_cons_of_pos (by simpa using hk),List.find?_cons_of_pos (by simpa using hk')]
   exact⟨x.2,rfl,hv 0 x y rfl rfl⟩
  ·have hk':¬x.1=k:=by rw[h.1];exact hk
   rw[List.find?_cons_of_neg (by simpa using hk),List.find?_cons_of_neg (by simpa using hk')]
   exact look_pair M rules h.2 (fun i a b ha hb=>hv (i+1) a b (by simpa using ha) (by simpa using hb)) k
theorem RulesR.look {N:Nat→Prop} {rules:List (Int×Blk)} (h:RulesR N w bm rules) (k:Int):∃v,(∀c,(Instr.lookup 61 (.map (some bm)) (.int .i64 k) c).run Tryz.prog w=
  .ok (if c then .tuple #[v,.bool (ruleOf rules k).isSome]else v) w)∧(match ruleOf rules k with|some b=>BlkV N w v b|none=>v= .slice none 0 0):=by
 obtain⟨M,h1,h2,h3⟩:=h
 have hp:=look_pair M rules h2 h3 k
 cases hr:ruleOf rules k with
 |none=>
  rw[hr]at hp
  refine⟨.slice none 0 0,fun c=>?_,rfl⟩
  rw[h1.lookup (P:=Tryz.prog) Tryz.underlying61 Tryz.underlying3 zeroStmts k c,show mget M k=none from hp]
  rfl
 |some b=>
  rw[hr]at hp
  obtain⟨v,hv,hb⟩:=hp
  refine⟨v,fun c=>?_,hb⟩
  rw[h1.lookup (P:=Tryz.prog) Tryz.underlying61 Tryz.underlying3 zeroStmts k c,hv]
  rfl
theorem mput_new {M:IMap} {x:Int} (v:Value) (h:x∉M.map (·.1)):mput M x v=M++[(x,v)]:=by
 unfold mput
 have:mget M x=none:=by
  unfold mget
  rw[Option.map_eq_none_iff,List.find?_eq_none]
  intro y hy he
  exact h (List.mem_map.2 ⟨y,hy,by simpa using he⟩)
 rw[this]
 rfl
theorem RdR.setRule (h:RdR B ea w g gp bm vd wp s st) {w':World} {k:Int} {v:Value} {b:Blk} (hk:Kept (fun i=>i=bm) w w') {M:IMap} (hM:IsMap w bm .i64 M) (hM':IsMap w' bm .i64 (M++[(k,v)]))
  (h2:M.map (·.1)=st.rules.map (·.1)) (h3:∀(i:Nat) (x:Int×Value) (y:Int×Blk),M[i]?=some x→st.rules[i]?=some y→BlkV (fun b=>B≤b∧b≠g) w x.2 y.2) (hb:BlkV (fun b=>B≤b∧b≠g) w v b):
  RdR B ea w' g gp bm vd wp s {st with rules:=st.rules++[(k,b)]}:=by
 have hrow:∀(b:Nat) t cs,Row w b t cs→¬(b=bm):=fun b t cs hr e=>hM.ne_row (e▸hr) rfl
 have keep:∀{v b},BlkV (fun b=>B≤b∧b≠g) w v b→BlkV (fun b=>B≤b∧b≠g) w' v b:=fun hv=>hv.kept (fun k cs _ hr=>hk.block k (hrow k _ cs hr))
 refine⟨h.env.kept hk (fun b hb=>by rw[hb];exact h.bm0),h.row.kept hk (hrow _ _ _ h.row),h.pol.kept hk (hrow _ _ _ h.pol),h.decls.kept hk (fun b hb e=>h.decls.ne_map hM (by rw[hb,e])),⟨M++[(k,v)],hM',?_,?_⟩,h.wrong.row_kept hk (fun b cs hr=>hrow b _ cs hr),h.g0,h.gp0,h.bm0,h.i,h.s,h.dl⟩
 ·show(M++[(k,v)]).map (·.1)=(st.rules++[(k,b)]).map (·.1)
  rw[List.map_append,List.map_append,h2]
  rfl
 ·intro i x y hx hy
  have hlen:M.length=st.rules.length:=by have:=congrArg List.length h2;simpa using this
  rcases Nat.lt_or_ge i M.length with hi|hi
  ·rw[List.getElem?_append_left hi]at hx
   have hy':(st.rules++[(k,b)])[i]?=some y:=hy
   rw[List.getElem?_append_left (by omega)]at hy'
   exact keep (h3 i x y hx hy')
  ·rw[List.getElem?_append_right hi]at hx
   have hy':(st.rules++[(k,b)])[i]?=some y:=hy
   rw[List.getElem?_append_right (by omega),←hlen]at hy'
   cases hj:i-M.length with
   |zero=>
    rw[hj]at hx hy'
    simp at hx hy'
    subst hx hy'
    exact keep hb
   |succ j=>rw[hj]at hx;simp at hx
def headX (s:Bytes) (st:PS):Out Int:=if(next s st).t.kind=kMiss then .ok (-1) (next s (next s st))else name s false (next s st)
theorem wrong_form {x:Option (Nat×Nat)} (h:WrongR B ea w wp x):(x=none∧wp= .pointer none)∨(∃y gf,x=some y∧wp= .pointer (some ⟨gf,0,none⟩)):=by
 cases x with
 |none=>exact .inl ⟨rfl,h⟩
 |some y=>obtain⟨gf,h1,_⟩:=h;exact .inr ⟨y,gf,rfl,h1⟩
def noted (at_:Nat) (k:Int) (st:PS):PS:=if(ruleOf st.rules k).isSome&&st.wrong.isNone then note eRule at_ st else st
theorem rule_eq (s:Bytes) (n:Nat) (st:PS):rule s n st=(headX s st).bind fun k st1=>(block s n (noted st.t.pos k st1)).bind fun b st=>.ok () (if st.wrong.isNone then {st with rules:=st.rules++[(k,b)]}else st):=by
 unfold rule ruleHead headX
 simp only
 split
 ·rfl
 ·cases name s false (next s st)<;>rfl
theorem headX_ok {k:Int} {st1:PS} (ok:st.Ok s) (h:headX s st= .ok k st1):Fwd s (next s st) st1:=by
 unfold headX at h
 split at h
 ·injection h with _ h;subst h;exact Fwd.next (next_ok ok)
 ·exact(name_ok (next_ok ok) h).1
set_option maxRecDepth 100000 in
set_option maxHeartbeats 4000000 in
theorem rule_any (h:RdR B ea w g gp bm vd wp s st) (ok:st.Ok s) (hd:st.depth=0) (hl:st.loops=0) (hk:st.t.kind=kOn) {n:Nat} (hn:2*left s st+1≤n):
  Calls Tryz.prog 38 #[.pointer (some ⟨g,0,none⟩)] w fun e w'=>OutD B ea w g gp bm s (rule s n st) e w':=by
 have hnx:=next_all h
 obtain⟨_,_,_,_,c4,_⟩:=rd_cell h.row
 have hB:=h.env.size
 have hg:=h.g0
 have hl1:=next_lt ok hk (by decide) (by decide)
 have HN:=Lib.hid hnx
 have HOK:=Lib.hid ok
 have HK:=Lib.hid hk
 have HD:=Lib.hid hd
 have HL:=Lib.hid hl
 have HL1:=Lib.hid hl1
 have HNN:=Lib.hid hn
 have H0:=Lib.hid h
 clear hnx h ok hk hd hl hl1 hn
 unfold vs at*
 go_enter Tryz.func38,Tryz.ntmps38
 go_wp2_with fail
 refine HN.out.mono ?_
 rintro e w1 ⟨rfl,hk1,h1⟩
 have ht:=take_any h1 kMiss
 have H1:=Lib.hid h1
 have K1:=Lib.hid hk1
 have HT:=Lib.hid ht
 clear h1 hk1 ht
 go_upto_if 16 with(refine HT.out.mono ?_;rintro e w2 ⟨rfl,hk2,h2⟩;have H2:=Lib.hid h2;have K2:=Lib.hid hk2;clear hk2 h2)
 go_cut [3] (fun s3 wx=>∃k st1 vd1 wp1,s3= .int .i64 k∧headX s st= .ok k st1∧RdR B ea wx g gp bm vd1 wp1 s st1∧Kg g w wx)
 case first=>
  by_cases hm:(next s st).t.kind=kMiss
  ·have h2:=H2.out
   rw[take_yes hm]at h2
   have et:(take s kMiss (next s st)).1=true:=by rw[take_yes hm]
   have HX:headX s st= .ok (-1) (next s (next s st)):=by unfold headX;rw[if_pos hm]
   have F:=Lib.hid (And.intro h2 HX)
   rw[et]
   clear h2 HX hm et
   go_wp2_with fail
   go_meet
   exact⟨_,_,_,_,rfl,F.out.2,F.out.1,Kg.trans K1.out K2.out⟩
  ·have h2:=H2.out
   rw[take_no hm]at h2
   have et:(take s kMiss (next s st)).1=false:=by rw[take_no hm]
   have HX:headX s st=name s false (next s st):=by unfold headX;rw[if_neg hm]
   have hn:=name_any h2 false
   have F:=Lib.hid HX
   have HNM:=Lib.hid hn
   have H2':=Lib.hid h2
   rw[et]
   clear h2 HX hm hn et
   go_wp2_with fail
   refine HNM.out.mono ?_
   rintro e w3 ho
   cases hx:name s false (next s st)with
   |bad k pos=>
    rw[hx]at ho
    obtain⟨gf,rfl,hF⟩:=fails_held hB hg (Kg.trans K1.out K2.out) ho
    have HXX:=Lib.hid hx
    clear hx
    go_wp2
    refine⟨rfl,?_⟩
    rw[rule_eq,F.out,HXX.out]
    exact⟨gf,rfl,hF⟩
   |ok k st1=>
    rw[hx]at ho
    obtain⟨v,rfl,rfl,hk3,vd3,wp3,h3⟩:=ho
    have G:=Lib.hid (And.intro hx (And.intro hk3 h3))
    clear hx hk3 h3
    go_wp2_with fail
    go_meet
    exact⟨_,_,_,_,rfl,F.out.trans G.out.1,G.out.2.2,Kg.trans (Kg.trans K1.out K2.out) G.out.2.1⟩
 case rest=>
  obtain⟨k,st1,vd1,wp1,rfl,hx,h1,k1⟩:=hcut
  have fw:=headX_ok HOK.out hx
  have hle:=fw.left
  obtain⟨_,_,_,_,_,c5,_,_,_,c9⟩:=rd_cell h1.row
  have p2:=h1.pol.cell 2
  simp at p2
  obtain⟨v,hlook,_⟩:=h1.rules.look k
  have hlk:=hlook true
  simp only[if_true]at hlk
  have herr:wc.cell? ⟨6,0,none⟩=some (.iface 307 (.pointer (some (ea 8)))):=h1.env.err 8 (by omega) (by omega)
  have hnote:=note_any h1 8 st.t.pos
  have hwf:=wrong_form h1.wrong
  have hB':B≤w.heap.size:=hB
  have hcases:((ruleOf st1.rules k).isSome=false)∨((ruleOf st1.rules k).isSome=true∧st1.wrong=none∧wp1= .pointer none)∨((ruleOf st1.rules k).isSome=true∧∃y gf,st1.wrong=some y∧wp1= .pointer (some ⟨gf,0,none⟩)):=by
   cases (ruleOf st1.rules k).isSome with
   |false=>exact .inl rfl
   |true=>
    rcases hwf with⟨a,b⟩|⟨y,gf,a,b⟩
    ·exact .inr (.inl ⟨rfl,a,b⟩)
    ·exact .inr (.inr ⟨rfl,y,gf,a,b⟩)
  have FW:=Lib.hid fw
  have HX:=Lib.hid hx
  have H1':=Lib.hid h1
  have K1':=Lib.hid k1
  have HNO:=Lib.hid hnote
  clear hx h1 k1 hnote hlook fw hle hwf
  have hN2:∃st2,st2=noted st.t.pos k st1:=⟨_,rfl⟩
  obtain⟨st2,hst2⟩:=hN2
  have hbl:∀W vd wp,RdR B ea W g gp bm vd wp s st2→Calls Tryz.prog 75 #[.pointer (some ⟨g,0,none⟩)] W fun e w'=>OutR B ea W g gp bm s (block s n st2) (fun w' b v=>BlkV (fun k=>W.heap.size≤k) w' v b) e w':=by
   intro W vd wp hr
   have hfw2:Fwd s st1 st2:=by
    rw[hst2];unfold noted
    split
    ·exact Fwd.note FW.out.ok _ _
    ·exact Fwd.refl FW.out.ok
   have F:=FW.out.trans hfw2
   have hd:st2.depth=0:=F.depth.trans HD.out
   have hl:st2.loops=0:=F.loops.trans HL.out
   exact block_any hr F.ok (by omega) (by omega) (by have h1:=HL1.out;have h2:=F.left;have h3:=HNN.out;omega)
  have HBL:=Lib.hid hbl
  have HST2:=Lib.hid hst2
  clear hbl hst2
  rcases hcases with hb|⟨hb,hw,rfl⟩|⟨hb,y,gf,hw,rfl⟩
  rotate_left
  ·rw[hb]at hlk
   have hn2:st2=note eRule st.t.pos st1:=by rw[HST2.out];unfold noted;rw[hb,hw];rfl
   have HN2:=Lib.hid hn2
   clear hb hw hn2
   unfold errV at*
   go_wp2_with fail
   refine HNO.out.mono ?_
   rintro e w4 ⟨rfl,hk4,wp4,h4⟩
   have h4':RdR B ea w4 g gp bm vd1 wp4 s st2:=by rw[HN2.out];exact h4
   have H2':=Lib.hid h4'
   have K2':=Lib.hid (Kg.trans K1'.out hk4)
   clear h4 h4' hk4
   go_wp2_with fail
   refine(HBL.out _ _ _ H2'.out).mono ?_
   rintro e w5 ho
   cases hb2:block s n st2 with
   |bad k2 pos=>
    rw[hb2]at ho
    obtain⟨gf,rfl,hF⟩:=fails_held hB hg K2'.out ho
    have HB2:=Lib.hid hb2
    clear hb2
    go_wp2
    refine⟨rfl,?_⟩
    rw[rule_eq,HX.out]
    show OutD _ _ _ _ _ _ _ ((block s n (noted st.t.pos k st1)).bind _) _ _
    rw[←HST2.out,HB2.out]
    exact⟨gf,rfl,hF⟩
   |ok b st3=>
    rw[hb2]at ho
    obtain⟨vb,rfl,hvb,hk5,vd5,wp5,h5⟩:=ho
    have hk5':=Kg.trans K2'.out hk5
    have hkk:Kept (fun b=>B≤b) w w5:=hk5'.mono (fun b hb=>hb.elim (fun e=>e▸hg) (fun hb=>Nat.le_trans hB hb))
    have hspec:rule s n st= .ok () (if st3.wrong.isNone then {st3 with rules:=st3.rules++[(k,b)]}else st3):=by
     rw[rule_eq,HX.out]
     show(block s n (noted st.t.pos k st1)).bind _=_
     rw[←HST2.out,hb2]
     rfl
    have hhead:ruleHead s st= .ok k st2:=by
     have h:=HX.out
     unfold headX at h
     unfold ruleHead
     simp only
     rw[h,HST2.out]
     rfl
    have hmid:=ruleHead_mid HOK.out HK.out hhead
    have hF2:=hmid.1
    have hblk:=block_ok hF2.ok (by rw[hF2.depth,HD.out];omega) (by rw[hF2.loops,HL.out];omega) hb2
    have hru3:st3.rules=st.rules:=hblk.1.rules.trans hF2.rules
    have hwr3:st3.wrong=none→k∉st.rules.map (·.1):=fun hw=>(hmid.2.2 (hblk.1.wrong hw)).2
    obtain⟨_,_,_,_,_,c5',_,_,_,c9'⟩:=rd_cell h5.row
    have p2':=h5.pol.cell 2
    have hgW:=H2'.out.row.lt
    have hBW:=H2'.out.env.size
    have hvb2:BlkV (fun b=>B≤b∧b≠g) w5 vb b:=hvb.mono (fun k _ hk=>⟨by omega,by omega⟩)
    have H5:=Lib.hid h5
    have HKK:=Lib.hid hkk
    have HSP:=Lib.hid hspec
    have HVB:=Lib.hid hvb2
    have HRU:=Lib.hid hru3
    have HWR:=Lib.hid hwr3
    simp at p2'
    rcases wrong_form h5.wrong with⟨hw3,rfl⟩|⟨y3,gf3,hw3,rfl⟩
    ·obtain⟨M,hM,hM2,hM3⟩:=h5.rules
     have hnew:k∉M.map (·.1):=by rw[hM2,hru3];exact hwr3 hw3
     have HM:=Lib.hid hM
     have HM2:=Lib.hid hM2
     have HM3:=Lib.hid hM3
     have HNEW:=Lib.hid hnew
     have HSP2:Hid (rule s n st= .ok () {st3 with rules:=st3.rules++[(k,b)]}):=Lib.hid (by rw[hspec,if_pos (by rw[hw3];rfl)])
     clear hb2 h5 hk5 hk5' hkk hspec hhead hmid hF2 hblk hru3 hwr3 hvb hvb2 hw3 hM hM2 hM3 hnew hgW hBW
     go_wp2_with (at_mapUpdate;go_must (refine wp_mapUpdate Tryz.underlying61 Tryz.underlying3 HM.out rfl _ _ _ rfl rfl k rfl vb rfl ?_;intro w6 hm6 hk6;have Hm6:=Lib.hid hm6;have Hk6:=Lib.hid hk6;clear hm6 hk6))
     go_end0
     have hm6:=Hm6.out
     rw[mput_new _ HNEW.out]at hm6
     have hr6:=H5.out.setRule (b:=b) Hk6.out HM.out hm6 HM2.out HM3.out HVB.out
     rw[HSP2.out]
     exact⟨rfl,HKK.out.trans (Hk6.out.mono (fun b hb=>by rw[hb];exact H5.out.bm0)),_,_,hr6⟩
    ·have HSP2:Hid (rule s n st= .ok () st3):=Lib.hid (by rw[hspec,if_neg (by rw[hw3];simp)])
     clear hb2 h5 hk5 hk5' hkk hspec hhead hmid hF2 hblk hru3 hwr3 hvb hvb2 hw3 hgW hBW
     go_wp2
     go_end0
     rw[HSP2.out]
     exact⟨rfl,HKK.out,_,_,H5.out⟩
  ·rw[hb]at hlk
   have hn2:st2=st1:=by rw[HST2.out];unfold noted;rw[hb,hw];rfl
   have H2':Hid (RdR B ea wc g gp bm vd1 (.pointer (some ⟨gf,0,none⟩)) s st2):=Lib.hid (by rw[hn2];exact H1'.out)
   have K2':=Lib.hid K1'.out
   clear hb hw hn2
   go_wp2_with fail
   refine(HBL.out _ _ _ H2'.out).mono ?_
   rintro e w5 ho
   cases hb2:block s n st2 with
   |bad k2 pos=>
    rw[hb2]at ho
    obtain⟨gf,rfl,hF⟩:=fails_held hB hg K2'.out ho
    have HB2:=Lib.hid hb2
    clear hb2
    go_wp2
    refine⟨rfl,?_⟩
    rw[rule_eq,HX.out]
    show OutD _ _ _ _ _ _ _ ((block s n (noted st.t.pos k st1)).bind _) _ _
    rw[←HST2.out,HB2.out]
    exact⟨gf,rfl,hF⟩
   |ok b st3=>
    rw[hb2]at ho
    obtain⟨vb,rfl,hvb,hk5,vd5,wp5,h5⟩:=ho
    have hk5':=Kg.trans K2'.out hk5
    have hkk:Kept (fun b=>B≤b) w w5:=hk5'.mono (fun b hb=>hb.elim (fun e=>e▸hg) (fun hb=>Nat.le_trans hB hb))
    have hspec:rule s n st= .ok () (if st3.wrong.isNone then {st3 with rules:=st3.rules++[(k,b)]}else st3):=by
     rw[rule_eq,HX.out]
     show(block s n (noted st.t.pos k st1)).bind _=_
     rw[←HST2.out,hb2]
     rfl
    have hhead:ruleHead s st= .ok k st2:=by
     have h:=HX.out
     unfold headX at h
     unfold ruleHead
     simp only
     rw[h,HST2.out]
     rfl
    have hmid:=ruleHead_mid HOK.out HK.out hhead
    have hF2:=hmid.1
    have hblk:=block_ok hF2.ok (by rw[hF2.depth,HD.out];omega) (by rw[hF2.loops,HL.out];omega) hb2
    have hru3:st3.rules=st.rules:=hblk.1.rules.trans hF2.rules
    have hwr3:st3.wrong=none→k∉st.rules.map (·.1):=fun hw=>(hmid.2.2 (hblk.1.wrong hw)).2
    obtain⟨_,_,_,_,_,c5',_,_,_,c9'⟩:=rd_cell h5.row
    have p2':=h5.pol.cell 2
    have hgW:=H2'.out.row.lt
    have hBW:=H2'.out.env.size
    have hvb2:BlkV (fun b=>B≤b∧b≠g) w5 vb b:=hvb.mono (fun k _ hk=>⟨by omega,by omega⟩)
    have H5:=Lib.hid h5
    have HKK:=Lib.hid hkk
    have HSP:=Lib.hid hspec
    have HVB:=Lib.hid hvb2
    have HRU:=Lib.hid hru3
    have HWR:=Lib.hid hwr3
    simp at p2'
    rcases wrong_form h5.wrong with⟨hw3,rfl⟩|⟨y3,gf3,hw3,rfl⟩
    ·obtain⟨M,hM,hM2,hM3⟩:=h5.rules
     have hnew:k∉M.map (·.1):=by rw[hM2,hru3];exact hwr3 hw3
     have HM:=Lib.hid hM
     have HM2:=Lib.hid hM2
     have HM3:=Lib.hid hM3
     have HNEW:=Lib.hid hnew
     have HSP2:Hid (rule s n st= .ok () {st3 with rules:=st3.rules++[(k,b)]}):=Lib.hid (by rw[hspec,if_pos (by rw[hw3];rfl)])
     clear hb2 h5 hk5 hk5' hkk hspec hhead hmid hF2 hblk hru3 hwr3 hvb hvb2 hw3 hM hM2 hM3 hnew hgW hBW
     go_wp2_with (at_mapUpdate;go_must (refine wp_mapUpdate Tryz.underlying61 Tryz.underlying3 HM.out rfl _ _ _ rfl rfl k rfl vb rfl ?_;intro w6 hm6 hk6;have Hm6:=Lib.hid hm6;have Hk6:=Lib.hid hk6;clear hm6 hk6))
     go_end0
     have hm6:=Hm6.out
     rw[mput_new _ HNEW.out]at hm6
     have hr6:=H5.out.setRule (b:=b) Hk6.out HM.out hm6 HM2.out HM3.out HVB.out
     rw[HSP2.out]
     exact⟨rfl,HKK.out.trans (Hk6.out.mono (fun b hb=>by rw[hb];exact H5.out.bm0)),_,_,hr6⟩
    ·have HSP2:Hid (rule s n st= .ok () st3):=Lib.hid (by rw[hspec,if_neg (by rw[hw3];simp)])
     clear hb2 h5 hk5 hk5' hkk hspec hhead hmid hF2 hblk hru3 hwr3 hvb hvb2 hw3 hgW hBW
     go_wp2
     go_end0
     rw[HSP2.out]
     exact⟨rfl,HKK.out,_,_,H5.out⟩
  ·rw[hb]at hlk
   have hn2:st2=st1:=by rw[HST2.out];unfold noted;rw[hb];rfl
   have H2':Hid (RdR B ea wc g gp bm vd1 wp1 s st2):=Lib.hid (by rw[hn2];exact H1'.out)
   have K2':=Lib.hid K1'.out
   clear hb hn2
   go_wp2_with fail
   refine(HBL.out _ _ _ H2'.out).mono ?_
   rintro e w5 ho
   cases hb2:block s n st2 with
   |bad k2 pos=>
    rw[hb2]at ho
    obtain⟨gf,rfl,hF⟩:=fails_held hB hg K2'.out ho
    have HB2:=Lib.hid hb2
    clear hb2
    go_wp2
    refine⟨rfl,?_⟩
    rw[rule_eq,HX.out]
    show OutD _ _ _ _ _ _ _ ((block s n (noted st.t.pos k st1)).bind _) _ _
    rw[←HST2.out,HB2.out]
    exact⟨gf,rfl,hF⟩
   |ok b st3=>
    rw[hb2]at ho
    obtain⟨vb,rfl,hvb,hk5,vd5,wp5,h5⟩:=ho
    have hk5':=Kg.trans K2'.out hk5
    have hkk:Kept (fun b=>B≤b) w w5:=hk5'.mono (fun b hb=>hb.elim (fun e=>e▸hg) (fun hb=>Nat.le_trans hB hb))
    have hspec:rule s n st= .ok () (if st3.wrong.isNone then {st3 with rules:=st3.rules++[(k,b)]}else st3):=by
     rw[rule_eq,HX.out]
     show(block s n (noted st.t.pos k st1)).bind _=_
     rw[←HST2.out,hb2]
     rfl
    have hhead:ruleHead s st= .ok k st2:=by
     have h:=HX.out
     unfold headX at h
     unfold ruleHead
     simp only
     rw[h,HST2.out]
     rfl
    have hmid:=ruleHead_mid HOK.out HK.out hhead
    have hF2:=hmid.1
    have hblk:=block_ok hF2.ok (by rw[hF2.depth,HD.out];omega) (by rw[hF2.loops,HL.out];omega) hb2
    have hru3:st3.rules=st.rules:=hblk.1.rules.trans hF2.rules
    have hwr3:st3.wrong=none→k∉st.rules.map (·.1):=fun hw=>(hmid.2.2 (hblk.1.wrong hw)).2
    obtain⟨_,_,_,_,_,c5',_,_,_,c9'⟩:=rd_cell h5.row
    have p2':=h5.pol.cell 2
    have hgW:=H2'.out.row.lt
    have hBW:=H2'.out.env.size
    have hvb2:BlkV (fun b=>B≤b∧b≠g) w5 vb b:=hvb.mono (fun k _ hk=>⟨by omega,by omega⟩)
    have H5:=Lib.hid h5
    have HKK:=Lib.hid hkk
    have HSP:=Lib.hid hspec
    have HVB:=Lib.hid hvb2
    have HRU:=Lib.hid hru3
    have HWR:=Lib.hid hwr3
    simp at p2'
    rcases wrong_form h5.wrong with⟨hw3,rfl⟩|⟨y3,gf3,hw3,rfl⟩
    ·obtain⟨M,hM,hM2,hM3⟩:=h5.rules
     have hnew:k∉M.map (·.1):=by rw[hM2,hru3];exact hwr3 hw3
     have HM:=Lib.hid hM
     have HM2:=Lib.hid hM2
     have HM3:=Lib.hid hM3
     have HNEW:=Lib.hid hnew
     have HSP2:Hid (rule s n st= .ok () {st3 with rules:=st3.rules++[(k,b)]}):=Lib.hid (by rw[hspec,if_pos (by rw[hw3];rfl)])
     clear hb2 h5 hk5 hk5' hkk hspec hhead hmid hF2 hblk hru3 hwr3 hvb hvb2 hw3 hM hM2 hM3 hnew hgW hBW
     go_wp2_with (at_mapUpdate;go_must (refine wp_mapUpdate Tryz.underlying61 Tryz.underlying3 HM.out rfl _ _ _ rfl rfl k rfl vb rfl ?_;intro w6 hm6 hk6;have Hm6:=Lib.hid hm6;have Hk6:=Lib.hid hk6;clear hm6 hk6))
     go_end0
     have hm6:=Hm6.out
     rw[mput_new _ HNEW.out]at hm6
     have hr6:=H5.out.setRule (b:=b) Hk6.out HM.out hm6 HM2.out HM3.out HVB.out
     rw[HSP2.out]
     exact⟨rfl,HKK.out.trans (Hk6.out.mono (fun b hb=>by rw[hb];exact H5.out.bm0)),_,_,hr6⟩
    ·have HSP2:Hid (rule s n st= .ok () st3):=Lib.hid (by rw[hspec,if_neg (by rw[hw3];simp)])
     clear hb2 h5 hk5 hk5' hkk hspec hhead hmid hF2 hblk hru3 hwr3 hvb hvb2 hw3 hgW hBW
     go_wp2
     go_end0
     rw[HSP2.out]
     exact⟨rfl,HKK.out,_,_,H5.out⟩
end
end Go.Proofs.YtepoejiigmhlbaaGreatDoor.Ev
