/- Parts of a proof that a law's walk returns true. Conditions: none. -/
import Derived.Test.YtemppijblfflgaaGreatDoorZa00
import Derived.Test.YtemppijblfflgaaGreatDoorZa10
set_option linter.all false
set_option maxRecDepth 100000
set_option maxHeartbeats 8000000
namespace Go.Proofs.YtemppijblfflgaaGreatDoor.Ev
open Go Go.RowKit
section
variable {B:Nat} {ea:Nat→Addr} {w w0:World} {g gp bm D:Nat} {vd wp OL:Value} {s:Ae} {st E5:PS} {t:TypeId} {ds:List Value}
theorem cF (h:DG B ea w g gp bm vd wp s st) (ok:st.Ok s) (hk:st.t.kind=G1) (LW:st.decls.length≤900):
  Calls Tryz.prog 74 #[.pointer (some ⟨g,0,none⟩)] w fun e w'=>Jl B ea w g gp bm s (decl s st) e w':=by
 have Cu:st.t.kind≠BX:=by rw[hk];decide
 rw[decl_eq s st Cu]
 obtain⟨av,cv,rfl⟩:=h.decls.shape
 have q0:=(Fy.start h).alloc (.cells #[vs st.t.kind,vs st.t.text,.int .i64 st.t.pos] 170)
 have r0:AM (w.alloc (.cells #[vs st.t.kind,vs st.t.text,.int .i64 st.t.pos] 170)) w.heap.size 170 [vs st.t.kind,vs st.t.text,.int .i64 st.t.pos]:=AM.new w _ _
 have FF:=Dy q0.rd
 obtain⟨_,_,c2,c3,c4,_⟩:=AV h.row
 have hB:=h.env.size
 have hg:=h.g0
 have hgp:=h.gp0
 have e1:(st.t.kind==BX)=false:=by simpa using Cu
 have Q0:=Aa q0
 have R0:=Aa r0
 have HN:=Aa FF
 have IL:=Aa (BF ok)
 have HK:=Aa hk
 clear q0 r0 FF h ok hk Cu
 unfold vs at*
 go_enter jS,dh
 go_wp2_with fail
 refine HN.out.mono ?_
 rintro e w1 ⟨rfl,Bi,h1⟩
 have q1:=Q0.out.call Bi h1 rfl rfl rfl
 have r1:=Q0.out.rowAt R0.out (by decide) Bi
 have d0:=r1.cell 0
 have hw:=CD q1.rd BG
 have Q1:=Aa q1
 have R1:=Aa r1
 have HW:=Aa hw
 clear q1 r1 hw Bi h1
 simp at d0
 unfold vs at*
 go_wp2_with fail
 refine HW.out.mono ?_
 rintro e w2 ho
 cases DU:want s BG (next s st)with
 |bad k pos=>
  rw[DU]at ho
  obtain⟨gf,rfl,hF⟩:=Fk Q1.out ho
  have PP:=Aa DU
  clear DU
  go_wp2
  refine⟨rfl,?_⟩
  rw[PP.out]
  exact⟨gf,rfl,hF⟩
 |ok nt st1=>
  rw[DU]at ho
  obtain⟨v,rfl,rfl,A4,oG,jA,h2⟩:=ho
  have G6:=(Bw DU).2.2
  have Mg:st1.Ok s:=by rw[G6];exact BF IL.out
  have q2:=(Q1.out.call A4 h2 (by rw[G6];rfl) (by rw[G6];rfl) (by rw[G6];rfl)).alloc (.cells #[vs nt.kind,vs nt.text,.int .i64 nt.pos] 170)
  have r2:=(Q1.out.rowAt R1.out (by decide) A4).alloc (.cells #[vs nt.kind,vs nt.text,.int .i64 nt.pos] 170)
  have x2:AM (w2.alloc (.cells #[vs nt.kind,vs nt.text,.int .i64 nt.pos] 170)) w2.heap.size 170 [vs nt.kind,vs nt.text,.int .i64 nt.pos]:=AM.new w2 _ _
  have Gi:st1.decls=st.decls:=by rw[G6];rfl
  have mG:st1.decls.length≤1000:=by rw[Gi];omega
  have YV:=q2.drew
  have G8:=QJ nt.text gp st1.decls (.slice av st.decls.length cv) _ YV.rd.decls mG YV.rd.pol.lt (YV.rd.pol.cell 0)
  obtain⟨_,_,_,_,_,c5,_⟩:=AV q2.row
  have rX:=x2.cell 1
  simp at rX
  have mF:st1.rules=st.rules:=by rw[G6];rfl
  have PP:=Aa DU
  have VT:=Aa Mg
  have aH:=Aa Gi
  have Q2:=Aa YV
  have R2:=Aa r2
  have X2:=Aa x2
  have VU:=Aa G8
  clear A4 h2 q2 YV r2 x2 DU G6 Mg Gi mF G8 d0
  unfold GB vs at*
  go_wp2_with fail
  (refine DM 6 (by kernel_rfl) (by kernel_rfl) ?_;simp only[Aw,AO,Ax,AK];repeat still_step)
  refine Cf ?_
  go_wp2_with fail
  refine VU.out.mono ?_
  rintro e w3 ⟨rfl,Xq⟩
  have k3:Kg g ((w2.alloc (.cells #[vs nt.kind,vs nt.text,.int .i64 nt.pos] 170)).drew) w3:=IX Xq
  have q3:=Q2.out.call k3 (Q2.out.rd.below Xq) rfl rfl rfl
  have r3:=Q2.out.rowAt (R2.out.drew) (by decide) k3
  have x3:=Q2.out.rowAt (X2.out.drew) (by decide) k3
  have Q3:=Aa q3
  have R3:=Aa r3
  have X3:=Aa x3
  have sL:=GZ q3.rd 4 nt.pos
  have HN4:=Aa sL
  have Ty:=x3.cell 1
  have Yj:=x3.cell 2
  have Ki:w3.cell? ⟨8,0,none⟩=some (.iface 315 (.pointer (some (ea 4)))):=q3.rd.env.err 4 (by omega) (by omega)
  simp at Ty Yj
  clear k3 q3 r3 x3 Xq sL c5 rX
  go_upto_if 46 with fail
  go_cut [] (fun wx=>∃Yk,Fy B ea g gp bm (.slice av st.decls.length cv) s st w wp (Np nt st1) wx Yk∧AM wx w.heap.size 170 [vs st.t.kind,vs st.t.text,.int .i64 st.t.pos]∧AM wx w2.heap.size 170 [vs nt.kind,vs nt.text,.int .i64 nt.pos])
  case first=>
   by_cases hf:0≤find st1.decls nt.text
   ·have jM:decide (0≤find st1.decls nt.text)=true:=by simpa using hf
    have hd:Np nt st1=note CG nt.pos st1:=by unfold Np;rw[Ak hf]
    have HD:=Aa hd
    clear hd
    unfold Dn at*
    go_wp2_with fail
    refine HN4.out.mono ?_
    rintro e w4 ⟨rfl,CU,XS,h4⟩
    have QH:DG B ea w4 g gp bm (.slice av st.decls.length cv) XS s (Np nt st1):=by rw[HD.out];exact h4
    obtain⟨a1,a2,a3⟩:=Gy nt st1
    have F:=Aa (And.intro (Q3.out.call CU QH a1 a2 a3) (And.intro (Q3.out.rowAt R3.out (by decide) CU) (Q3.out.rowAt X3.out (by decide) CU)))
    clear h4 QH CU a1 a2 a3
    go_wp2_with fail
    go_meet
    exact⟨_,F.out⟩
   ·have jM:decide (0≤find st1.decls nt.text)=false:=by simpa using hf
    have hd:Np nt st1=st1:=by unfold Np;rw[Ad hf]
    have HD:=Aa hd
    clear hd
    go_wp2_with fail
    go_meet
    exact⟨_,by rw[HD.out];exact Q3.out,R3.out,X3.out⟩
  case rest=>
   obtain⟨Yk,q4,r4,x4⟩:=hcut
   clear Ty Yj Ki
   have Fz:(Np nt st1).decls.length=st.decls.length:=by rw[(Gy nt st1).1,aH.out]
   have sK:=GZ q4.rd 9 nt.pos
   have Ty:=x4.cell 1
   have Yj:=x4.cell 2
   have Ki:wc.cell? ⟨13,0,none⟩=some (.iface 315 (.pointer (some (ea 9)))):=q4.rd.env.err 9 (by omega) (by omega)
   obtain⟨_,_,_,_,_,c5,_⟩:=AV q4.row
   have p0:=q4.rd.pol.cell 0
   have Q4:=Aa q4
   have R4:=Aa r4
   have X4:=Aa x4
   have HN5:=Aa sK
   have Vi:=Aa Fz
   clear q4 r4 x4 sK Fz
   simp at Ty Yj p0
   go_upto_if 60 with fail
   go_cut [] (fun wx=>∃Yk,Fy B ea g gp bm (.slice av st.decls.length cv) s st w wp (Ba nt st1) wx Yk∧AM wx w.heap.size 170 [vs st.t.kind,vs st.t.text,.int .i64 st.t.pos]∧AM wx w2.heap.size 170 [vs nt.kind,vs nt.text,.int .i64 nt.pos])
   case first=>
    by_cases hf:st.decls.length=8
    ·have jM:((st.decls.length:Int)==8)=true:=by simp;omega
     have hd:Ba nt st1=note Nl nt.pos (Np nt st1):=by rw[FY,Vi.out,Ak hf]
     have HD:=Aa hd
     clear hd
     unfold Dn at*
     go_wp2_with fail
     refine HN5.out.mono ?_
     rintro e w4 ⟨rfl,CU,XS,h4⟩
     have QH:DG B ea w4 g gp bm (.slice av st.decls.length cv) XS s (Ba nt st1):=by rw[HD.out];exact h4
     obtain⟨a1,a2,a3⟩:=Gy nt st1
     obtain⟨b1,b2,b3⟩:=JN nt st1
     have F:=Aa (And.intro (Q4.out.call CU QH (b1.trans a1.symm) (b2.trans a2.symm) (b3.trans a3.symm)) (And.intro (Q4.out.rowAt R4.out (by decide) CU) (Q4.out.rowAt X4.out (by decide) CU)))
     clear h4 QH CU a1 a2 a3 b1 b2 b3
     go_wp2_with fail
     go_meet
     exact⟨_,F.out⟩
    ·have jM:((st.decls.length:Int)==8)=false:=by simp;omega
     have hd:Ba nt st1=Np nt st1:=by rw[FY,Vi.out,Ad hf]
     have HD:=Aa hd
     clear hd
     go_wp2_with fail
     go_meet
     exact⟨_,by rw[HD.out];exact Q4.out,R4.out,X4.out⟩
   case rest=>
    obtain⟨Yk,q5,r5,x5⟩:=hcut
    clear Ty Yj Ki c5 p0
    have d0:=r5.cell 0
    have Ty:=x5.cell 1
    have Q5:=Aa q5
    have R5:=Aa r5
    clear q5 r5 x5
    simp at d0 Ty
    have l5:=Q5.out.row.lt
    have l6:w.heap.size<wc.heap.size:=R5.out.lt
    have hk:=HK.out
    have sM:BZ st.t.kind=50:=by rw[hk];decide
    have OE:((D2 st.t.kind:Nat):Int)=0:=by rw[hk];decide
    rw[hk]at d0
    have q6:=Q5.out.alloc (.cells #[.int .i64 0,vs nt.text,.int .i64 0] 86)
    have r6:AM (wc.alloc (.cells #[.int .i64 0,vs nt.text,.int .i64 0] 86)) wc.heap.size 86 [.int .i64 0,vs nt.text,.int .i64 0]:=AM.new wc _ _
    have _m:w.heap.size≤wc.heap.size:=Q5.out.kg.size
    have Kh:=Iu q6.rd (IH nt VT.out) 1 50
    have Q6:=Aa q6
    have R6:=Aa r6
    have NC:=Aa Kh
    have ov:=Aa sM
    have Ye:=Aa OE
    clear q6 r6 Kh sM OE hk
    unfold vs at*
    go_wp2_with fail
    refine NC.out.mono ?_
    rintro e w6 ho
    cases hx:number s 1 50 (Ba nt st1)with
    |bad k pos=>
     rw[hx]at ho
     obtain⟨gf,rfl,hF⟩:=Fk Q6.out ho
     have HX:=Aa hx
     clear hx
     go_wp2
     refine⟨rfl,?_⟩
     rw[PP.out]
     show Jl _ _ _ _ _ _ _ ((number s 1 (BZ st.t.kind) (Ba nt st1)).bind _) _ _
     rw[ov.out,HX.out]
     exact⟨gf,rfl,hF⟩
    |ok m Cb=>
     rw[hx]at ho
     obtain⟨v,rfl,rfl,Rk,vd7,wp7,h7⟩:=ho
     have Wt:=(Gw (IH nt VT.out) hx).1
     have q7:=Q6.out.call Rk h7 Wt.decls Wt.freq Wt.rules
     have r7:=Q6.out.rowAt R6.out (by decide) Rk
     have q8:=q7.set_ r7 _m (by decide) 2 (.int .i64 m)
     have r8:=r7.set_ 2 (.int .i64 m)
     have d7:=r7.cell 2
     have f7:=r7.frozen 2
     have su:=CD q8.rd Ar
     have W5:=Wt.ok
     have Gx:Cb.decls=st.decls:=q7.decls
     have HX:=Aa hx
     have Q8:=Aa q8
     have R8:=Aa r8
     have _2:=Aa su
     have an:=Aa W5
     have XM:=Aa Gx
     clear hx Rk h7 Wt q7 r7 q8 r8 su W5 Gx
     simp at d7
     go_wp2_with fail
     refine _2.out.mono ?_
     rintro e w9 ho
     cases MF:want s Ar Cb with
     |bad k pos=>
      rw[MF]at ho
      obtain⟨gf,rfl,hF⟩:=Fk Q8.out ho
      have oe:=Aa MF
      clear MF
      go_wp2
      refine⟨rfl,?_⟩
      rw[PP.out]
      show Jl _ _ _ _ _ _ _ ((number s 1 (BZ st.t.kind) (Ba nt st1)).bind _) _ _
      rw[ov.out,HX.out]
      show Jl _ _ _ _ _ _ _ ((want s Ar Cb).bind _) _ _
      rw[oe.out]
      exact⟨gf,rfl,hF⟩
     |ok tw Io=>
      rw[MF]at ho
      obtain⟨v,rfl,rfl,iH,vd9,wp9,h9⟩:=ho
      have QC:=(Bw MF).2.2
      have Fz:Io.decls=Cb.decls:=by rw[QC];rfl
      have sV:Io.freq=Cb.freq:=by rw[QC];rfl
      have Mw:Io.rules=Cb.rules:=by rw[QC];rfl
      have q9:=Q8.out.call iH h9 Fz sV Mw
      have r9:=Q8.out.rowAt R8.out (by decide) iH
      have oe:=Aa MF
      have Vi:=Aa Fz
      clear iH h9 QC Fz sV Mw MF
      obtain⟨_,_,_,_,_,c5,_⟩:=AV q9.row
      have p0:=q9.rd.pol.cell 0
      have pf:=q9.rd.pol.frozen 0
      have x0:=r9.cell 0
      have x1:=r9.cell 1
      have x2:=r9.cell 2
      have l0:=q9.row.lt
      have l1:=q9.rd.pol.lt
      have l2:=r9.lt
      simp at p0 x0 x1 x2
      have Q9:=Aa q9
      have R9:=Aa r9
      clear q9 r9
      go_wp2_with fail
      have wA:World:=w9
      obtain⟨i0,Lt,KX,Ls,Lr⟩:=Cj Un
      have It:=(Q9.out.alloc (.cells #[.int .i64 0,vs nt.text,.int .i64 m] 86)).drew
      have s1:=It.rd.decls
      have Fz:Io.decls=st.decls:=Vi.out.trans XM.out
      rw[Fz]at s1
      have S1:=Aa s1
      have _r:wc.heap.size≠g:=R9.out.ne_ Q9.out.row (by decide)
      have eJ:B≤((w9.alloc (.cells #[.int .i64 0,vs nt.text,.int .i64 m] 86)).drew).heap.size∧((w9.alloc (.cells #[.int .i64 0,vs nt.text,.int .i64 m] 86)).drew).heap.size≠g:=⟨It.rd.env.size,fun e=>by have:=It.row.lt;omega⟩
      have rJ:=Aa eJ
      have ln:=FN w9 [.int .i64 0,vs nt.text,.int .i64 m] 86
      have wF:=Aa ln
      have lm:∀u∈ [Value.int .i64 0,vs nt.text,.int .i64 m],u.oneCell'=true:=by intro u hu;simp at hu;rcases hu with rfl|rfl|rfl<;>rfl
      have wE:=Aa lm
      have uA:st.decls.length+1≤maxLen:=by unfold maxLen;omega
      have uz:(st.decls.length+1)*32≤140737488355328:=by omega
      have uB:(w9.alloc (.cells #[.int .i64 0,vs nt.text,.int .i64 m] 86)).drew.frozen? ⟨gp,0,none⟩=false:=It.rd.pol.frozen 0
      have pn:¬((Value.slice av st.decls.length cv).ownBlock=some gp∨((w9.alloc (.cells #[.int .i64 0,vs nt.text,.int .i64 m] 86)).drew).heap.size≤gp):=by
       rintro(hb|hb)
       ·exact It.rd.decls.ne_row It.rd.pol (by decide) hb
       ·exact absurd It.rd.pol.lt (GO.2 hb)
      have PN:=Aa pn
      have gn:¬((Value.slice av st.decls.length cv).ownBlock=some g∨((w9.alloc (.cells #[.int .i64 0,vs nt.text,.int .i64 m] 86)).drew).heap.size≤g):=by
       rintro(hb|hb)
       ·exact(It.rd.decls.2 g hb).2 rfl
       ·exact absurd It.row.lt (GO.2 hb)
      have GN:=Aa gn
      have b5:=(AV It.row).2.2.2.2.2.1
      have b0:=It.rd.pol.cell 0
      simp only[Bm]at b0
      have oT:=Aa It
      clear It s1 eJ ln lm pn gn _r
      unfold vs at*
      go_region_law (first
       |(refine F9 dc Lt KX Ls Lr rfl (by decide) S1.out rJ.out rfl _ _ (by rfl) (by rfl) ⟨w9.heap.size,0,none⟩ 1 1 [.int .i64 0,.string ⟨nt.text.toArray⟩,.int .i64 m] (by rfl) (by rfl) wF.out wE.out uA uz (by omega) ?_;intro g2 Er w11 Cp A4 EE;have e1:=(A4.cell (p:=⟨g,5,none⟩) GN.out).trans b5;have e0:=(A4.cell (p:=⟨gp,0,none⟩) PN.out).trans b0;have e2:=(A4.frozen (p:=⟨gp,0,none⟩) PN.out).trans uB;have U3:=Aa Cp;have Rp:=Aa A4;clear Cp A4 EE))
      all_goals
       go_wp2
       go_end0
       rw[PP.out]
       show Jl _ _ _ _ _ _ _ ((number s 1 (BZ st.t.kind) (Ba nt st1)).bind _) _ _
       rw[ov.out,HX.out]
       show Jl _ _ _ _ _ _ _ ((want s Ar Cb).bind _) _ _
       rw[oe.out]
       have hf:=oT.out.rd.plusDecl ⟨D2 st.t.kind,nt.text,m⟩ (AL List.length Fz) (AL (fun l=>l.flatMap D0) Fz) (by unfold D0;rw[Ye.out]) U3.out Rp.out (by rw[Fz];omega)
       exact⟨rfl,(LJ hB hg oT.out.kg).trans hf.1,_,_,hf.2⟩
end
end Go.Proofs.YtemppijblfflgaaGreatDoor.Ev
