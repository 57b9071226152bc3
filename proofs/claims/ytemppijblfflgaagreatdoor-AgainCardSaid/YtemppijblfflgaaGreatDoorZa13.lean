/- Parts of a proof that a law's walk returns true. Conditions: none. -/
import Derived.Test.YtemppijblfflgaaGreatDoorZa00
import Derived.Test.YtemppijblfflgaaGreatDoorZa02
import Derived.Test.YtemppijblfflgaaGreatDoorZa06
import Derived.Test.YtemppijblfflgaaGreatDoorZa08
import Derived.Test.YtemppijblfflgaaGreatDoorZa10
import Derived.Test.YtemppijblfflgaaGreatDoorZa11
import Derived.Test.YtemppijblfflgaaGreatDoorZa12
set_option linter.all false
set_option maxRecDepth 100000
set_option maxHeartbeats 8000000
namespace Go.Proofs.YtemppijblfflgaaGreatDoor.Ev
open Go Go.RowKit
section
variable {B:Nat} {ea:Nat→Addr} {w w0:World} {g gp bm D:Nat} {vd wp OL:Value} {s:Ae} {st E5:PS} {t:TypeId} {ds:List Value}
theorem nl (h:DG B ea w g gp bm vd wp s st) (ok:st.Ok s) (hk:st.t.kind=IY) (LW:st.decls.length≤900):
  Calls Tryz.prog 74 #[.pointer (some ⟨g,0,none⟩)] w fun e w'=>Jl B ea w g gp bm s (decl s st) e w':=by
 have Cu:st.t.kind≠BX:=by rw[hk];decide
 rw[decl_eq s st Cu]
 obtain⟨av,cv,rfl⟩:=h.decls.shape
 have q0:=(Fy.start h).alloc (.cells #[vs st.t.kind,vs st.t.text,.int .i64 st.t.pos] 170)
 have r0:AM (w.alloc (.cells #[vs st.t.kind,vs st.t.text,.int .i64 st.t.pos] 170)) w.heap.size 170 [vs st.t.kind,vs st.t.text,.int .i64 st.t.pos]:=AM.new w _ _
 have FF:=Dy q0.rd
 obtain⟨_,_,c2,c3,c4,_⟩:=AV h.row
 have hB:=h.env.size
 have hg:=h.g0
 have hgp:=h.gp0
 have e1:(st.t.kind==BX)=false:=by simpa using Cu
 have Q0:=Aa q0
 have R0:=Aa r0
 have HN:=Aa FF
 have IL:=Aa (BF ok)
 have HK:=Aa hk
 clear q0 r0 FF h ok hk Cu
 unfold vs at*
 go_enter jS,dh
 go_wp2_with fail
 refine HN.out.mono ?_
 rintro e w1 ⟨rfl,Bi,h1⟩
 have q1:=Q0.out.call Bi h1 rfl rfl rfl
 have r1:=Q0.out.rowAt R0.out (by decide) Bi
 have d0:=r1.cell 0
 have hw:=CD q1.rd BG
 have Q1:=Aa q1
 have R1:=Aa r1
 have HW:=Aa hw
 clear q1 r1 hw Bi h1
 simp at d0
 unfold vs at*
 go_wp2_with fail
 refine HW.out.mono ?_
 rintro e w2 ho
 cases DU:want s BG (next s st)with
 |bad k pos=>
  rw[DU]at ho
  obtain⟨gf,rfl,hF⟩:=Fk Q1.out ho
  have PP:=Aa DU
  clear DU
  go_wp2
  refine⟨rfl,?_⟩
  rw[PP.out]
  exact⟨gf,rfl,hF⟩
 |ok nt st1=>
  rw[DU]at ho
  obtain⟨v,rfl,rfl,A4,oG,jA,h2⟩:=ho
  have G6:=(Bw DU).2.2
  have Mg:st1.Ok s:=by rw[G6];exact BF IL.out
  have q2:=(Q1.out.call A4 h2 (by rw[G6];rfl) (by rw[G6];rfl) (by rw[G6];rfl)).alloc (.cells #[vs nt.kind,vs nt.text,.int .i64 nt.pos] 170)
  have r2:=(Q1.out.rowAt R1.out (by decide) A4).alloc (.cells #[vs nt.kind,vs nt.text,.int .i64 nt.pos] 170)
  have x2:AM (w2.alloc (.cells #[vs nt.kind,vs nt.text,.int .i64 nt.pos] 170)) w2.heap.size 170 [vs nt.kind,vs nt.text,.int .i64 nt.pos]:=AM.new w2 _ _
  have Gi:st1.decls=st.decls:=by rw[G6];rfl
  have mG:st1.decls.length≤1000:=by rw[Gi];omega
  have YV:=q2.drew
  have G8:=QJ nt.text gp st1.decls (.slice av st.decls.length cv) _ YV.rd.decls mG YV.rd.pol.lt (YV.rd.pol.cell 0)
  obtain⟨_,_,_,_,_,c5,_⟩:=AV q2.row
  have rX:=x2.cell 1
  simp at rX
  have mF:st1.rules=st.rules:=by rw[G6];rfl
  have PP:=Aa DU
  have VT:=Aa Mg
  have aH:=Aa Gi
  have Q2:=Aa YV
  have R2:=Aa r2
  have X2:=Aa x2
  have VU:=Aa G8
  clear A4 h2 q2 YV r2 x2 DU G6 Mg Gi mF G8 d0
  unfold GB vs at*
  go_wp2_with fail
  (refine DM 6 (by kernel_rfl) (by kernel_rfl) ?_;simp only[Aw,AO,Ax,AK];repeat still_step)
  refine Cf ?_
  go_wp2_with fail
  refine VU.out.mono ?_
  rintro e w3 ⟨rfl,Xq⟩
  have k3:Kg g ((w2.alloc (.cells #[vs nt.kind,vs nt.text,.int .i64 nt.pos] 170)).drew) w3:=IX Xq
  have q3:=Q2.out.call k3 (Q2.out.rd.below Xq) rfl rfl rfl
  have r3:=Q2.out.rowAt (R2.out.drew) (by decide) k3
  have x3:=Q2.out.rowAt (X2.out.drew) (by decide) k3
  have Q3:=Aa q3
  have R3:=Aa r3
  have X3:=Aa x3
  have sL:=GZ q3.rd 4 nt.pos
  have HN4:=Aa sL
  have Ty:=x3.cell 1
  have Yj:=x3.cell 2
  have Ki:w3.cell? ⟨8,0,none⟩=some (.iface 315 (.pointer (some (ea 4)))):=q3.rd.env.err 4 (by omega) (by omega)
  simp at Ty Yj
  clear k3 q3 r3 x3 Xq sL c5 rX
  go_upto_if 46 with fail
  go_cut [] (fun wx=>∃Yk,Fy B ea g gp bm (.slice av st.decls.length cv) s st w wp (Np nt st1) wx Yk∧AM wx w.heap.size 170 [vs st.t.kind,vs st.t.text,.int .i64 st.t.pos]∧AM wx w2.heap.size 170 [vs nt.kind,vs nt.text,.int .i64 nt.pos])
  case first=>
   by_cases hf:0≤find st1.decls nt.text
   ·have jM:decide (0≤find st1.decls nt.text)=true:=by simpa using hf
    have hd:Np nt st1=note CG nt.pos st1:=by unfold Np;rw[Ak hf]
    have HD:=Aa hd
    clear hd
    unfold Dn at*
    go_wp2_with fail
    refine HN4.out.mono ?_
    rintro e w4 ⟨rfl,CU,XS,h4⟩
    have QH:DG B ea w4 g gp bm (.slice av st.decls.length cv) XS s (Np nt st1):=by rw[HD.out];exact h4
    obtain⟨a1,a2,a3⟩:=Gy nt st1
    have F:=Aa (And.intro (Q3.out.call CU QH a1 a2 a3) (And.intro (Q3.out.rowAt R3.out (by decide) CU) (Q3.out.rowAt X3.out (by decide) CU)))
    clear h4 QH CU a1 a2 a3
    go_wp2_with fail
    go_meet
    exact⟨_,F.out⟩
   ·have jM:decide (0≤find st1.decls nt.text)=false:=by simpa using hf
    have hd:Np nt st1=st1:=by unfold Np;rw[Ad hf]
    have HD:=Aa hd
    clear hd
    go_wp2_with fail
    go_meet
    exact⟨_,by rw[HD.out];exact Q3.out,R3.out,X3.out⟩
  case rest=>
   obtain⟨Yk,q4,r4,x4⟩:=hcut
   clear Ty Yj Ki
   have Fz:(Np nt st1).decls.length=st.decls.length:=by rw[(Gy nt st1).1,aH.out]
   have sK:=GZ q4.rd 9 nt.pos
   have Ty:=x4.cell 1
   have Yj:=x4.cell 2
   have Ki:wc.cell? ⟨13,0,none⟩=some (.iface 315 (.pointer (some (ea 9)))):=q4.rd.env.err 9 (by omega) (by omega)
   obtain⟨_,_,_,_,_,c5,_⟩:=AV q4.row
   have p0:=q4.rd.pol.cell 0
   have Q4:=Aa q4
   have R4:=Aa r4
   have X4:=Aa x4
   have HN5:=Aa sK
   have Vi:=Aa Fz
   clear q4 r4 x4 sK Fz
   simp at Ty Yj p0
   go_upto_if 60 with fail
   go_cut [] (fun wx=>∃Yk,Fy B ea g gp bm (.slice av st.decls.length cv) s st w wp (Ba nt st1) wx Yk∧AM wx w.heap.size 170 [vs st.t.kind,vs st.t.text,.int .i64 st.t.pos]∧AM wx w2.heap.size 170 [vs nt.kind,vs nt.text,.int .i64 nt.pos])
   case first=>
    by_cases hf:st.decls.length=8
    ·have jM:((st.decls.length:Int)==8)=true:=by simp;omega
     have hd:Ba nt st1=note Nl nt.pos (Np nt st1):=by rw[FY,Vi.out,Ak hf]
     have HD:=Aa hd
     clear hd
     unfold Dn at*
     go_wp2_with fail
     refine HN5.out.mono ?_
     rintro e w4 ⟨rfl,CU,XS,h4⟩
     have QH:DG B ea w4 g gp bm (.slice av st.decls.length cv) XS s (Ba nt st1):=by rw[HD.out];exact h4
     obtain⟨a1,a2,a3⟩:=Gy nt st1
     obtain⟨b1,b2,b3⟩:=JN nt st1
     have F:=Aa (And.intro (Q4.out.call CU QH (b1.trans a1.symm) (b2.trans a2.symm) (b3.trans a3.symm)) (And.intro (Q4.out.rowAt R4.out (by decide) CU) (Q4.out.rowAt X4.out (by decide) CU)))
     clear h4 QH CU a1 a2 a3 b1 b2 b3
     go_wp2_with fail
     go_meet
     exact⟨_,F.out⟩
    ·have jM:((st.decls.length:Int)==8)=false:=by simp;omega
     have hd:Ba nt st1=Np nt st1:=by rw[FY,Vi.out,Ad hf]
     have HD:=Aa hd
     clear hd
     go_wp2_with fail
     go_meet
     exact⟨_,by rw[HD.out];exact Q4.out,R4.out,X4.out⟩
   case rest=>
    obtain⟨Yk,q5,r5,x5⟩:=hcut
    clear Ty Yj Ki c5 p0
    have d0:=r5.cell 0
    have Ty:=x5.cell 1
    have Q5:=Aa q5
    have R5:=Aa r5
    clear q5 r5 x5
    simp at d0 Ty
    have l5:=Q5.out.row.lt
    have l6:w.heap.size<wc.heap.size:=R5.out.lt
    have hk:=HK.out
    have sM:BZ st.t.kind=99:=by rw[hk];decide
    have OE:((D2 st.t.kind:Nat):Int)=2:=by rw[hk];decide
    rw[hk]at d0
    have q6:=Q5.out.alloc (.cells #[.int .i64 2,vs nt.text,.int .i64 0] 86)
    have r6:AM (wc.alloc (.cells #[.int .i64 2,vs nt.text,.int .i64 0] 86)) wc.heap.size 86 [.int .i64 2,vs nt.text,.int .i64 0]:=AM.new wc _ _
    have _m:w.heap.size≤wc.heap.size:=Q5.out.kg.size
    have Kh:=Iu q6.rd (IH nt VT.out) 1 99
    have Q6:=Aa q6
    have R6:=Aa r6
    have NC:=Aa Kh
    have ov:=Aa sM
    have Ye:=Aa OE
    clear q6 r6 Kh sM OE hk
    unfold vs at*
    go_wp2_with fail
    refine NC.out.mono ?_
    rintro e w6 ho
    cases hx:number s 1 99 (Ba nt st1)with
    |bad k pos=>
     rw[hx]at ho
     obtain⟨gf,rfl,hF⟩:=Fk Q6.out ho
     have HX:=Aa hx
     clear hx
     go_wp2
     refine⟨rfl,?_⟩
     rw[PP.out]
     show Jl _ _ _ _ _ _ _ ((number s 1 (BZ st.t.kind) (Ba nt st1)).bind _) _ _
     rw[ov.out,HX.out]
     exact⟨gf,rfl,hF⟩
    |ok m Cb=>
     rw[hx]at ho
     obtain⟨v,rfl,rfl,Rk,vd7,wp7,h7⟩:=ho
     have Wt:=(Gw (IH nt VT.out) hx).1
     have q7:=Q6.out.call Rk h7 Wt.decls Wt.freq Wt.rules
     have r7:=Q6.out.rowAt R6.out (by decide) Rk
     have q8:=q7.set_ r7 _m (by decide) 2 (.int .i64 m)
     have r8:=r7.set_ 2 (.int .i64 m)
     have d7:=r7.cell 2
     have f7:=r7.frozen 2
     have su:=CD q8.rd Ar
     have W5:=Wt.ok
     have Gx:Cb.decls=st.decls:=q7.decls
     have HX:=Aa hx
     have Q8:=Aa q8
     have R8:=Aa r8
     have _2:=Aa su
     have an:=Aa W5
     have XM:=Aa Gx
     clear hx Rk h7 Wt q7 r7 q8 r8 su W5 Gx
     simp at d7
     go_wp2_with fail
     refine _2.out.mono ?_
     rintro e w9 ho
     cases MF:want s Ar Cb with
     |bad k pos=>
      rw[MF]at ho
      obtain⟨gf,rfl,hF⟩:=Fk Q8.out ho
      have oe:=Aa MF
      clear MF
      go_wp2
      refine⟨rfl,?_⟩
      rw[PP.out]
      show Jl _ _ _ _ _ _ _ ((number s 1 (BZ st.t.kind) (Ba nt st1)).bind _) _ _
      rw[ov.out,HX.out]
      show Jl _ _ _ _ _ _ _ ((want s Ar Cb).bind _) _ _
      rw[oe.out]
      exact⟨gf,rfl,hF⟩
     |ok tw Io=>
      rw[MF]at ho
      obtain⟨v,rfl,rfl,iH,vd9,wp9,h9⟩:=ho
      have QC:=(Bw MF).2.2
      have Fz:Io.decls=Cb.decls:=by rw[QC];rfl
      have sV:Io.freq=Cb.freq:=by rw[QC];rfl
      have Mw:Io.rules=Cb.rules:=by rw[QC];rfl
      have q9:=Q8.out.call iH h9 Fz sV Mw
      have r9:=Q8.out.rowAt R8.out (by decide) iH
      have oe:=Aa MF
      have Vi:=Aa Fz
      clear iH h9 QC Fz sV Mw MF
      obtain⟨_,_,_,_,_,c5,_⟩:=AV q9.row
      have p0:=q9.rd.pol.cell 0
      have pf:=q9.rd.pol.frozen 0
      have x0:=r9.cell 0
      have x1:=r9.cell 1
      have x2:=r9.cell 2
      have l0:=q9.row.lt
      have l1:=q9.rd.pol.lt
      have l2:=r9.lt
      simp at p0 x0 x1 x2
      have Q9:=Aa q9
      have R9:=Aa r9
      clear q9 r9
      go_wp2_with fail
      have wA:World:=w9
      obtain⟨i0,Lt,KX,Ls,Lr⟩:=Cj Un
      have It:=(Q9.out.alloc (.cells #[.int .i64 2,vs nt.text,.int .i64 m] 86)).drew
      have s1:=It.rd.decls
      have Fz:Io.decls=st.decls:=Vi.out.trans XM.out
      rw[Fz]at s1
      have S1:=Aa s1
      have _r:wc.heap.size≠g:=R9.out.ne_ Q9.out.row (by decide)
      have eJ:B≤((w9.alloc (.cells #[.int .i64 2,vs nt.text,.int .i64 m] 86)).drew).heap.size∧((w9.alloc (.cells #[.int .i64 2,vs nt.text,.int .i64 m] 86)).drew).heap.size≠g:=⟨It.rd.env.size,fun e=>by have:=It.row.lt;omega⟩
      have rJ:=Aa eJ
      have ln:=FN w9 [.int .i64 2,vs nt.text,.int .i64 m] 86
      have wF:=Aa ln
      have lm:∀u∈ [Value.int .i64 2,vs nt.text,.int .i64 m],u.oneCell'=true:=by intro u hu;simp at hu;rcases hu with rfl|rfl|rfl<;>rfl
      have wE:=Aa lm
      have uA:st.decls.length+1≤maxLen:=by unfold maxLen;omega
      have uz:(st.decls.length+1)*32≤140737488355328:=by omega
      have uB:(w9.alloc (.cells #[.int .i64 2,vs nt.text,.int .i64 m] 86)).drew.frozen? ⟨gp,0,none⟩=false:=It.rd.pol.frozen 0
      have pn:¬((Value.slice av st.decls.length cv).ownBlock=some gp∨((w9.alloc (.cells #[.int .i64 2,vs nt.text,.int .i64 m] 86)).drew).heap.size≤gp):=by
       rintro(hb|hb)
       ·exact It.rd.decls.ne_row It.rd.pol (by decide) hb
       ·exact absurd It.rd.pol.lt (GO.2 hb)
      have PN:=Aa pn
      have gn:¬((Value.slice av st.decls.length cv).ownBlock=some g∨((w9.alloc (.cells #[.int .i64 2,vs nt.text,.int .i64 m] 86)).drew).heap.size≤g):=by
       rintro(hb|hb)
       ·exact(It.rd.decls.2 g hb).2 rfl
       ·exact absurd It.row.lt (GO.2 hb)
      have GN:=Aa gn
      have b5:=(AV It.row).2.2.2.2.2.1
      have b0:=It.rd.pol.cell 0
      simp only[Bm]at b0
      have oT:=Aa It
      clear It s1 eJ ln lm pn gn _r
      unfold vs at*
      go_region_law (first
       |(refine F9 dc Lt KX Ls Lr rfl (by decide) S1.out rJ.out rfl _ _ (by rfl) (by rfl) ⟨w9.heap.size,0,none⟩ 1 1 [.int .i64 2,.string ⟨nt.text.toArray⟩,.int .i64 m] (by rfl) (by rfl) wF.out wE.out uA uz (by omega) ?_;intro g2 Er w11 Cp A4 EE;have e1:=(A4.cell (p:=⟨g,5,none⟩) GN.out).trans b5;have e0:=(A4.cell (p:=⟨gp,0,none⟩) PN.out).trans b0;have e2:=(A4.frozen (p:=⟨gp,0,none⟩) PN.out).trans uB;have U3:=Aa Cp;have Rp:=Aa A4;clear Cp A4 EE))
      all_goals
       go_wp2
       go_end0
       rw[PP.out]
       show Jl _ _ _ _ _ _ _ ((number s 1 (BZ st.t.kind) (Ba nt st1)).bind _) _ _
       rw[ov.out,HX.out]
       show Jl _ _ _ _ _ _ _ ((want s Ar Cb).bind _) _ _
       rw[oe.out]
       have hf:=oT.out.rd.plusDecl ⟨D2 st.t.kind,nt.text,m⟩ (AL List.length Fz) (AL (fun l=>l.flatMap D0) Fz) (by unfold D0;rw[Ye.out]) U3.out Rp.out (by rw[Fz];omega)
       exact⟨rfl,(LJ hB hg oT.out.kg).trans hf.1,_,_,hf.2⟩
end
section
variable {B:Nat} {ea:Nat→Addr} {w:World} {g gp bm:Nat} {vd wp:Value} {s:Ae} {st:PS}
theorem nr (h:DG B ea w g gp bm vd wp s st) (ok:st.Ok s) (hk:isDecl st.t.kind=true) (LW:st.decls.length≤900):
  Calls Tryz.prog 74 #[.pointer (some ⟨g,0,none⟩)] w fun e w'=>Jl B ea w g gp bm s (decl s st) e w':=by
 simp only[isDecl,Tw,OY]at hk
 rcases hk with((hk|hk)|hk)|hk
 ·exact cF h ok hk LW
 ·exact cH h ok hk LW
 ·exact nl h ok hk LW
 ·exact iU h ok hk
end
@[go_sem] theorem Abq (v:Value) (w:World):(Instr.typeAssert (.iface 106 v) 20 106 true).run Tryz.prog w= .ok (.tuple #[v,.bool true]) w:=by kernel_rfl
theorem ZS (P Q:Nat) (gf:Nat) (sj:List PanicEntry) (w:World) (hp:w.cell? ⟨P,0,none⟩=some (.pointer none)) (hzp:w.frozen? ⟨P,0,none⟩=false) (hq:w.cell? ⟨Q,0,none⟩=some .nilIface) (hzq:w.frozen? ⟨Q,0,none⟩=false) (qp:¬P=Q) (iA:¬Q=P):
  CallsD Tryz.prog 72 #[.pointer (some ⟨P,0,none⟩),.pointer (some ⟨Q,0,none⟩)] (.panicking ({v:=.iface 106 (.pointer (some ⟨gf,0,none⟩)),recovered:=false}::sj)) w fun e u' w'=>
   e= .returned (.tuple #[])∧u'= .panicking ({v:=.iface 106 (.pointer (some ⟨gf,0,none⟩)),recovered:=true}::sj)∧
    w'=(w.setCell ⟨P,0,none⟩ (.pointer none)).setCell ⟨Q,0,none⟩ (.iface 106 (.pointer (some ⟨gf,0,none⟩))):=by
 refine callsD_of_wpS Tryz.func72 rfl fun c₀ cs hu=>?_
 have e0:(#[Value.pointer (some ⟨P,0,none⟩),.pointer (some ⟨Q,0,none⟩)]:Array Value)++Array.replicate (Tryz.f72.ntmps-(#[Value.pointer (some ⟨P,0,none⟩),.pointer (some ⟨Q,0,none⟩)]:Array Value).size) undef=#[.pointer (some ⟨P,0,none⟩),.pointer (some ⟨Q,0,none⟩),undef,undef,undef,undef,undef,undef,undef,undef,undef,undef,undef]:=by kernel_rfl
 rw[e0]
 apply wpS_seq
 apply wpS_region
 simp[wpOpsS,go_sem,recoverD,hu,Exit.thenS]
 refine wpS_of_wp ?_
 go_wp2
 cases c₀
 simp_all [bodyPostS,results,Tryz.results72]
theorem cM (P Q:Nat) (w:World):
  CallsD Tryz.prog 72 #[.pointer (some ⟨P,0,none⟩),.pointer (some ⟨Q,0,none⟩)] .returning w fun e u' w'=>e= .returned (.tuple #[])∧u'= .returning∧w'=w:=by
 refine callsD_of_wpS Tryz.func72 rfl fun c₀ cs hu=>?_
 have e0:(#[Value.pointer (some ⟨P,0,none⟩),.pointer (some ⟨Q,0,none⟩)]:Array Value)++Array.replicate (Tryz.f72.ntmps-(#[Value.pointer (some ⟨P,0,none⟩),.pointer (some ⟨Q,0,none⟩)]:Array Value).size) undef=#[.pointer (some ⟨P,0,none⟩),.pointer (some ⟨Q,0,none⟩),undef,undef,undef,undef,undef,undef,undef,undef,undef,undef,undef]:=by kernel_rfl
 rw[e0]
 apply wpS_seq
 apply wpS_region
 simp[wpOpsS,go_sem,recoverD,hu,Exit.thenS]
 refine wpS_of_wp ?_
 go_wp2
 cases c₀
 simp_all [bodyPostS,results,Tryz.results72]
theorem Qf {tmps:Array Value} {w:World} {P Q:Nat} {a b:Value} (h2:tmps[2]?=some (.pointer (some ⟨P,0,none⟩))) (h3:tmps[3]?=some (.pointer (some ⟨Q,0,none⟩)))
  (hp:w.cell? ⟨P,0,none⟩=some a) (hq:w.cell? ⟨Q,0,none⟩=some b):(results Tryz.f45 tmps).run Tryz.prog w= .ok (.tuple #[a,b]) w:=by
 simp[results,Tryz.results45,go_sem,h2,h3,hp,hq]
theorem IS {R:Ending→World→Prop} {tmps:Array Value} {w:World} {P Q gf:Nat} (h2:tmps[2]?=some (.pointer (some ⟨P,0,none⟩))) (h3:tmps[3]?=some (.pointer (some ⟨Q,0,none⟩)))
  (hp:w.cell? ⟨P,0,none⟩=some (.pointer none)) (hzp:w.frozen? ⟨P,0,none⟩=false) (hq:w.cell? ⟨Q,0,none⟩=some .nilIface) (hzq:w.frozen? ⟨Q,0,none⟩=false) (qp:¬P=Q)
  (h:R (.returned (.tuple #[.pointer none,.iface 106 (.pointer (some ⟨gf,0,none⟩))])) ((w.setCell ⟨P,0,none⟩ (.pointer none)).setCell ⟨Q,0,none⟩ (.iface 106 (.pointer (some ⟨gf,0,none⟩))))):
  Leaves Tryz.prog Tryz.f45 tmps R [{target:=.fn (.func 72) #[.pointer (some ⟨P,0,none⟩),.pointer (some ⟨Q,0,none⟩)],args:=#[]}]
   (.panicking [{v:=.iface 106 (.pointer (some ⟨gf,0,none⟩)),recovered:=false}]) w:=by
 have iA:¬Q=P:=fun e=>qp e.symm
 refine leaves_cons (f:=72) (args:=#[.pointer (some ⟨P,0,none⟩),.pointer (some ⟨Q,0,none⟩)]) (by simp) (by simp[go_sem]) ?_
 refine(ZS P Q gf [] w hp hzp hq hzq qp iA).mono ?_
 rintro e u' w' ⟨rfl,rfl,rfl⟩
 have hr:=Qf (a:=.pointer none) (b:=.iface 106 (.pointer (some ⟨gf,0,none⟩))) (w:=(w.setCell ⟨P,0,none⟩ (.pointer none)).setCell ⟨Q,0,none⟩ (.iface 106 (.pointer (some ⟨gf,0,none⟩)))) h2 h3 (by simp[go_sem,hp,hq,qp,iA]) (by simp[go_sem,hp,hq,qp,iA])
 exact⟨_,hr,h⟩
theorem JY {R:Ending→World→Prop} {tmps:Array Value} {w:World} {P Q:Nat} {a b:Value} (h2:tmps[2]?=some (.pointer (some ⟨P,0,none⟩))) (h3:tmps[3]?=some (.pointer (some ⟨Q,0,none⟩)))
  (hp:w.cell? ⟨P,0,none⟩=some a) (hq:w.cell? ⟨Q,0,none⟩=some b) (h:R (.returned (.tuple #[a,b])) w):
  Leaves Tryz.prog Tryz.f45 tmps R [{target:=.fn (.func 72) #[.pointer (some ⟨P,0,none⟩),.pointer (some ⟨Q,0,none⟩)],args:=#[]}] .returning w:=by
 refine leaves_cons (f:=72) (args:=#[.pointer (some ⟨P,0,none⟩),.pointer (some ⟨Q,0,none⟩)]) (by simp) (by simp[go_sem]) ?_
 refine(cM P Q w).mono ?_
 rintro e u' w' ⟨rfl,rfl,rfl⟩
 exact⟨_,Qf h2 h3 hp hq,h⟩
def Ip (ea:Nat→Addr) (w:World) (s:Ae) (e:Ending) (w':World):Prop:=
 Af (fun b=>w.heap.size≤b) w w'∧match read s with
  | .error (k,pos)=>∃gf,e= .returned (.tuple #[.pointer none,.iface 106 (.pointer (some ⟨gf,0,none⟩))])∧AM w' gf 110 [Dn ea k,.int .i64 pos]∧w.heap.size≤gf
  | .ok p=>∃gp bm vd,e= .returned (.tuple #[.pointer (some ⟨gp,0,none⟩),.nilIface])∧nQ w.heap.size w' gp bm vd p
section
variable {B:Nat} {ea:Nat→Addr} {w:World} {s:Ae}
theorem gR (h:VW B ea w) (hl:700<s.length):
  Calls Tryz.prog 45 #[vs s] w fun e w'=>Ip ea w s e w':=by
 have Ki:w.cell? ⟨0,0,none⟩=some (.iface 315 (.pointer (some (ea 1)))):=h.err 1 (by omega) (by omega)
 have SX:0<w.heap.size:=AD (h.lt 1 (by omega) (by omega)) h.size
 have h1:decide ((s.length:Int)>700)=true:=by simp;omega
 have hr:read s= .error (eX,0):=by unfold read;rw[Ak hl]
 have hmf:∀(fn:Fn) (first cap:Array Value) (w:World),(Instr.makeFunc fn first cap).run Tryz.prog w= .ok (.func fn first cap) w:=fun _ _ _ _=>rfl
 have HR:=Aa hr
 clear hr h
 unfold vs at*
 go_enter_defers Tryz.func45,Tryz.ntmps45
 go_wp2_with fail
 go_region
 all_goals go_wp2
 all_goals
  refine⟨_,by simp[results,Tryz.results45,go_sem];rfl,?_⟩
  unfold Ip
  rw[HR.out]
  have LU:=AM.new ((w.alloc (.cells #[.pointer none] 91)).alloc (.cells #[.iface 106 (.pointer (some ⟨w.heap.size+1+1,0,none⟩))] 80)) 110 [Dn ea 1,.int .i64 0]
  have e2:((w.alloc (.cells #[.pointer none] 91)).alloc (.cells #[.iface 106 (.pointer (some ⟨w.heap.size+1+1,0,none⟩))] 80)).heap.size=w.heap.size+1+1:=by simp
  rw[e2]at LU
  exact⟨((((Af.refl _ w).alloc (Ab _) _).alloc (by simp) _).alloc (by rw[e2];omega) _).drew,_,rfl,LU.drew,by omega⟩
def yw:PS:=⟨⟨[],[],0⟩,0,[],0,false,[],0,0,none⟩
theorem hQ (s:Ae):next s yw=start s:=rfl
abbrev Ez (w:World):World:=(w.alloc (.cells #[.pointer none] 91)).alloc (.cells #[.nilIface] 80)
abbrev dR (w:World) (s:Ae):World:=(((Ez w).alloc (.map #[] 0)).alloc (.cells #[.slice none 0 0,.int .i64 0,.map (some (w.heap.size+1+1))] 90)).alloc
 (.cells #[vs s,.int .i64 0,vs [],vs [],.int .i64 0,.pointer (some ⟨w.heap.size+1+1+1,0,none⟩),.bool false,.int .i64 0,.int .i64 0,.pointer none] 172)
theorem kN (h:VW B ea w) (hl:s.length≤700):DG (w.heap.size+1+1) ea (dR w s) (w.heap.size+1+1+1+1) (w.heap.size+1+1+1) (w.heap.size+1+1) (.slice none 0 0) (.pointer none) s yw:=by
 have e1:(Ez w).heap.size=w.heap.size+1+1:=by simp
 have e2:((Ez w).alloc (.map #[] 0)).heap.size=w.heap.size+1+1+1:=by simp
 have e3:(((Ez w).alloc (.map #[] 0)).alloc (.cells #[.slice none 0 0,.int .i64 0,.map (some (w.heap.size+1+1))] 90)).heap.size=w.heap.size+1+1+1+1:=by simp
 have hk:Af (fun b=>w.heap.size≤b) w (dR w s):=(((((Af.refl _ w).alloc (Ab _) _).alloc (by simp) _).alloc (by rw[e1];omega) _).alloc (by rw[e2];omega) _).alloc (by rw[e3];omega) _
 have hE:=h.kept hk (fun b hb=>Ai h.size hb)
 have hm:=BV.new (Ez w) .i64
 have hp:=AM.new ((Ez w).alloc (.map #[] 0)) 90 [.slice none 0 0,.int .i64 0,.map (some (w.heap.size+1+1))]
 have hr:=AM.new (((Ez w).alloc (.map #[] 0)).alloc (.cells #[.slice none 0 0,.int .i64 0,.map (some (w.heap.size+1+1))] 90)) 172 [vs s,.int .i64 0,vs [],vs [],.int .i64 0,.pointer (some ⟨w.heap.size+1+1+1,0,none⟩),.bool false,.int .i64 0,.int .i64 0,.pointer none]
 rw[e1]at hm
 rw[e2]at hp
 rw[e3]at hr
 have Fw:w.heap.size+1+1≤(dR w s).heap.size:=by simp
 refine⟨⟨Fw,hE.err,fun k h1 h2=>AD (h.lt k h1 h2) (Ai h.size (by omega)),hE.kw,AD h.kwlt (Ai h.size (by omega))⟩,hr,hp.alloc _,⟨Cz _ _ _ _,fun b hb=>by cases hb⟩,⟨[],(hm.alloc _).alloc _,rfl,fun i x y hx=>by simp at hx⟩,rfl,by omega,by omega,by omega,Bn _,hl,Bn _⟩
theorem Ql {least most n:Int} {st st':PS} (e:number s least most st= .ok n st'):st'.decls=st.decls:=by
 unfold number at e
 obtain⟨t,st1,e1,e2⟩:=AA e
 obtain⟨_,_,rfl⟩:=Bw e1
 injection e2 with _ e2
 subst e2
 split
 ·exact(Ju (s:=[]) Kn _ _).1
 ·rfl
theorem no {st AP:PS} {u:Unit} (hd:decl s st= .ok u AP):AP.decls.length≤st.decls.length+1:=by
 by_cases hk:st.t.kind=BX
 ·unfold decl at hd
  simp only at hd
  rw[Ak hk]at hd
  obtain⟨n,st1,e1,e2⟩:=AA hd
  obtain⟨t,Cb,e3,e4⟩:=AA e2
  injection e4 with _ e4
  subst e4
  obtain⟨_,_,rfl⟩:=Bw e3
  have h1:=Ql e1
  show st1.decls.length≤_
  rw[h1]
  show(if _ then _ else _:PS).decls.length≤_
  split
  ·rw[(Ju (s:=[]) CG _ _).1];exact Es _
  ·exact Es _
 ·rw[decl_eq s st hk]at hd
  obtain⟨n,st1,e1,e2⟩:=AA hd
  obtain⟨m,Cb,e3,e4⟩:=AA e2
  obtain⟨t,Io,e5,e6⟩:=AA e4
  injection e6 with _ e6
  subst e6
  obtain⟨_,_,rfl⟩:=Bw e5
  obtain⟨_,_,rfl⟩:=Bw e1
  have h1:=Ql e3
  rw[(JN _ _).1]at h1
  show(Cb.decls++[_]).length≤_
  rw[h1]
  simp[next]
structure nP (B:Nat) (ea:Nat→Addr) (g gp bm:Nat) (s:Ae) (w0:World) (st:PS) (w:World):Prop where
 rd:∃vd wp,DG B ea w g gp bm vd wp s st
 mid:jo s st
 kept:Af (fun b=>B≤b) w0 w
theorem pT (w:World):(Ez w).cell? ⟨w.heap.size,0,none⟩=some (.pointer none)∧(Ez w).frozen? ⟨w.heap.size,0,none⟩=false∧(Ez w).cell? ⟨w.heap.size+1,0,none⟩=some .nilIface∧(Ez w).frozen? ⟨w.heap.size+1,0,none⟩=false:=by
 have r1:=(AM.new w 91 [.pointer none]).alloc (.cells #[.nilIface] 80)
 have r2:=AM.new (w.alloc (.cells #[.pointer none] 91)) 80 [.nilIface]
 have e:(w.alloc (.cells #[.pointer none] 91)).heap.size=w.heap.size+1:=by simp
 rw[e]at r2
 exact⟨r1.cell 0,r1.frozen 0,r2.cell 0,r2.frozen 0⟩
theorem MP {w w1:World} (hk:Af (fun b=>w.heap.size+1+1≤b) (Ez w) w1):w1.cell? ⟨w.heap.size,0,none⟩=some (.pointer none)∧w1.frozen? ⟨w.heap.size,0,none⟩=false∧w1.cell? ⟨w.heap.size+1,0,none⟩=some .nilIface∧w1.frozen? ⟨w.heap.size+1,0,none⟩=false:=by
 obtain⟨a,b,c,d⟩:=pT w
 have n1:¬(w.heap.size+1+1≤w.heap.size):=by omega
 have n2:¬(w.heap.size+1+1≤w.heap.size+1):=by omega
 exact⟨(hk.cell (p:=⟨w.heap.size,0,none⟩) n1).trans a,(hk.frozen (p:=⟨w.heap.size,0,none⟩) n1).trans b,(hk.cell (p:=⟨w.heap.size+1,0,none⟩) n2).trans c,(hk.frozen (p:=⟨w.heap.size+1,0,none⟩) n2).trans d⟩
theorem Oz {w w1:World} {a b:Value} (hk:Af (fun b=>w.heap.size+1+1≤b) (Ez w) w1):Af (fun b=>w.heap.size≤b) w ((w1.setCell ⟨w.heap.size,0,none⟩ a).setCell ⟨w.heap.size+1,0,none⟩ b):=by
 have k0:Af (fun b=>w.heap.size≤b) w (Ez w):=((Af.refl _ w).alloc (Ab _) _).alloc (by simp) _
 have k1:Af (fun b=>w.heap.size≤b) w w1:=k0.trans (hk.mono (fun b (hb:w.heap.size+1+1≤b)=>by omega))
 exact(k1.setCell (p:=⟨w.heap.size,0,none⟩) (Ab _) a).setCell (p:=⟨w.heap.size+1,0,none⟩) (Es _) b
theorem RL {w w1 w2:World} {gf k pos:Nat} (hk:Af (fun b=>w.heap.size+1+1≤b) (Ez w) w1) (hF:Af (fun b=>w.heap.size+1+1≤b) w1 w2) (hr:AM w2 gf 110 [Dn ea k,.int .i64 pos]) (hg:w.heap.size+1+1≤gf) (he:read s= .error (k,pos)) (a b:Value):
  Ip ea w s (.returned (.tuple #[.pointer none,.iface 106 (.pointer (some ⟨gf,0,none⟩))])) ((w2.setCell ⟨w.heap.size,0,none⟩ a).setCell ⟨w.heap.size+1,0,none⟩ b):=by
 unfold Ip
 rw[he]
 exact⟨Oz (hk.trans hF),gf,rfl,(hr.far (by omega:gf≠w.heap.size) a).far (by omega:gf≠w.heap.size+1) b,by omega⟩
theorem FP.mono {N N':Nat→Prop} {w:World} {bm:Nat} {rules:List (Int×AC)} (h:FP N w bm rules) (hn:∀b,N b→N' b):FP N' w bm rules:=by
 obtain⟨M,h1,h2,h3⟩:=h
 refine⟨M,h1,h2,fun i x y hx hy=>?_⟩
 obtain⟨cs,⟨⟨ha,hb⟩,hc⟩,h4⟩:=h3 i x y hx hy
 exact⟨cs,⟨⟨ha,fun g hg=>hn g (hb g hg)⟩,hc⟩,A5.mono (fun k _ hk=>hn k hk) _ _ h4⟩
theorem uD {w w3:World} {g gp bm:Nat} {vd wp:Value} {Cb:PS} (hk:Af (fun b=>w.heap.size+1+1≤b) (Ez w) w3) (h3:DG (w.heap.size+1+1) ea w3 g gp bm vd wp s Cb) (he:read s= .ok ⟨Cb.decls,Cb.freq,Cb.rules⟩) (a b:Value):
  Ip ea w s (.returned (.tuple #[.pointer (some ⟨gp,0,none⟩),.nilIface])) ((w3.setCell ⟨w.heap.size,0,none⟩ a).setCell ⟨w.heap.size+1,0,none⟩ b):=by
 unfold Ip
 rw[he]
 have k:Af (fun b=>b=w.heap.size∨b=w.heap.size+1) w3 ((w3.setCell ⟨w.heap.size,0,none⟩ a).setCell ⟨w.heap.size+1,0,none⟩ b):=((Af.refl _ w3).setCell (p:=⟨w.heap.size,0,none⟩) (.inl rfl) a).setCell (p:=⟨w.heap.size+1,0,none⟩) (.inr rfl) b
 have far:∀b,w.heap.size+1+1≤b→¬(b=w.heap.size∨b=w.heap.size+1):=fun b hb=>by omega
 refine⟨Oz hk,gp,bm,vd,rfl,h3.pol.kept k (far _ h3.gp0),?_,?_,Ai (by omega) h3.gp0,Ai (by omega) h3.bm0⟩
 ·have hs:=h3.decls.kept k (fun b hb=>far b (h3.decls.2 b hb).1)
  exact⟨hs.1,fun b hb=>Ai (by omega) (hs.2 b hb).1⟩
 ·exact(h3.rules.kept (k.block bm (far _ h3.bm0)) (fun b cs hb _=>k.block b (far _ hb.1))).mono (fun b hb=>Ai (by omega) hb.1)
theorem cx {w w1 w2:World} {gf k pos:Nat} (hk:Af (fun b=>w.heap.size+1+1≤b) (Ez w) w1) (hF:Af (fun b=>w.heap.size+1+1≤b) w1 w2) (hr:AM w2 gf 110 [Dn ea k,.int .i64 pos]) (hg:w.heap.size+1+1≤gf) (he:read s= .error (k,pos)) (a b:Value):
  Ip ea w s (.returned (.tuple #[.pointer none,.iface 106 (.pointer (some ⟨gf,0,none⟩))])) (((w2.setCell ⟨w.heap.size,0,none⟩ a).setCell ⟨w.heap.size+1,0,none⟩ b).drew):=by
 unfold Ip
 rw[he]
 exact⟨(Oz (hk.trans hF)).drew,gf,rfl,((hr.far (by omega:gf≠w.heap.size) a).far (by omega:gf≠w.heap.size+1) b).drew,by omega⟩
theorem lB {w w3:World} (hk:Af (fun b=>w.heap.size+1+1≤b) (Ez w) w3) (he:read s= .error (Pk,0)) (a b:Value):
  Ip ea w s (.returned (.tuple #[.pointer none,.iface 106 (.pointer (some ⟨w3.heap.size,0,none⟩))])) ((((w3.setCell ⟨w.heap.size,0,none⟩ a).setCell ⟨w.heap.size+1,0,none⟩ b).alloc (.cells #[Dn ea Pk,.int .i64 0] 110)).drew):=by
 unfold Ip
 rw[he]
 have hs:((w3.setCell ⟨w.heap.size,0,none⟩ a).setCell ⟨w.heap.size+1,0,none⟩ b).heap.size=w3.heap.size:=by simp
 have hr:=AM.new ((w3.setCell ⟨w.heap.size,0,none⟩ a).setCell ⟨w.heap.size+1,0,none⟩ b) 110 [Dn ea Pk,.int .i64 0]
 rw[hs]at hr
 have h0:w.heap.size≤w3.heap.size:=Ai (by simp;omega) hk.size
 exact⟨((Oz hk).alloc (by rw[hs];exact h0) _).drew,w3.heap.size,rfl,hr.drew,h0⟩
theorem ZJ {st AP:PS} {n:Nat} (e1:Cw s 702 (start s)=Cw s (n+1) st) (hk:isDecl st.t.kind=true) (hd:decl s st= .ok () AP):Cw s 702 (start s)=Cw s n AP:=by
 rw[e1,Cw,Ak hk,hd]
 rfl
theorem cC {st:PS} {n:Nat} (e1:Cw s 702 (start s)=Cw s (n+1) st) (hk:¬isDecl st.t.kind=true):Cw s 702 (start s)= .ok () st:=by
 rw[e1,Cw,Ad hk]
theorem YF {m:Nat} {E5 st AP:PS} {n:Nat} (e1:CR s m 702 E5=CR s m (n+1) st) (hk:st.t.kind=Mv) (hd:Gc s m st= .ok () AP):CR s m 702 E5=CR s m n AP:=by
 rw[e1,CR,Ak hk,hd]
 rfl
theorem aY {m:Nat} {E5 st:PS} {n:Nat} (e1:CR s m 702 E5=CR s m (n+1) st) (hk:st.t.kind≠Mv):CR s m 702 E5= .ok () st:=by
 rw[e1,CR,Ad hk]
theorem T7 {E5:PS} (e0:Cw s 702 (start s)= .ok () E5):EA s=(CR s 1500 702 E5).bind fun _ st=>want s DJ st:=by
 unfold EA
 rw[e0]
 rfl
theorem YS (hl:s.length≤700):read s=match EA s with
  | .bad e p=>.error (e,p)
  | .ok _ st=>match st.wrong with
   |some x=>.error x
   |none=>if(Cm st.rules).isNone then .error (Pk,0)else .ok ⟨st.decls,st.freq,st.rules⟩:=by
 unfold read
 rw[Ad (by omega)]
 cases EA s<;>rfl
theorem aZ {E5 st:PS} {n k pos:Nat} (e0:Cw s 702 (start s)= .ok () E5) (e1:CR s 1500 702 E5=CR s 1500 (n+1) st) (hk:st.t.kind=Mv) (hd:Gc s 1500 st= .bad k pos) (hl:s.length≤700):read s= .error (k,pos):=by
 rw[YS hl,T7 e0,e1,CR,Ak hk,hd]
 rfl
theorem pI {E5 st:PS} (e0:Cw s 702 (start s)= .ok () E5) (e1:CR s 1500 702 E5= .ok () st) (hl:s.length≤700):read s=match want s DJ st with
  | .bad e p=>.error (e,p)
  | .ok _ st=>match st.wrong with
   |some x=>.error x
   |none=>if(Cm st.rules).isNone then .error (Pk,0)else .ok ⟨st.decls,st.freq,st.rules⟩:=by
 rw[YS hl,T7 e0,e1]
 rfl
theorem cD {st:PS} {n k pos:Nat} (e1:Cw s 702 (start s)=Cw s (n+1) st) (hk:isDecl st.t.kind=true) (hd:decl s st= .bad k pos) (hl:s.length≤700):read s= .error (k,pos):=by
 unfold read EA
 rw[Ad (by omega),e1]
 rw[Cw,Ak hk,hd]
 rfl
theorem gQ (h:VW B ea w) (hl:s.length≤700):
  Calls Tryz.prog 45 #[vs s] w fun e w'=>Ip ea w s e w':=by
 have h1:decide ((s.length:Int)>700)=false:=by simp;omega
 have hmf:∀(fn:Fn) (first cap:Array Value) (w:World),(Instr.makeFunc fn first cap).run Tryz.prog w= .ok (.func fn first cap) w:=fun _ _ _ _=>rfl
 have xD:=@jD Tryz.prog
 have oK:∀w,(binOp .eql 174 (.slice none 0 0) (.slice none 0 0)).run Tryz.prog w= .ok (.bool true) w:=fun _=>rfl
 have Vc:∀(a:Addr) (n c:Nat) w,(binOp .eql 174 (.slice (some a) n c) (.slice none 0 0)).run Tryz.prog w= .ok (.bool false) w:=fun _ _ _ _=>rfl
 have CP:=kN (s:=s) h hl
 have FF:=Dy CP
 rw[hQ]at FF
 have HS:=Aa CP
 have HN:=Aa FF
 have HE:=Aa h
 have HL:=Aa hl
 clear CP FF h
 unfold dR Ez vs at*
 go_enter_defers Tryz.func45,Tryz.ntmps45
 go_wp2_with fail
 refine HN.out.mono ?_
 rintro e w1 ⟨rfl,Bi,h1⟩
 have hR0:nP (w.heap.size+1+1) ea (w.heap.size+1+1+1+1) (w.heap.size+1+1+1) (w.heap.size+1+1) s (Ez w) (start s) w1:=by
  refine⟨⟨_,_,h1⟩,Rw s HL.out,Af.trans ?_ (Bi.mono ?_)⟩
  ·exact(((Af.refl _ (Ez w)).alloc (by simp) _).alloc (by simp) _).alloc (by simp) _
  ·rintro b (rfl|hb)
   ·omega
   ·have:=HS.out.env.size;omega
 have _8:=Aa hR0
 clear Bi h1 hR0
 go_wp2_with fail
 go_loopg [] 702 (fun kk wr=>∃st,nP (w.heap.size+1+1) ea (w.heap.size+1+1+1+1) (w.heap.size+1+1+1) (w.heap.size+1+1) s (Ez w) st wr∧st.rules=[]∧st.decls.length+kk≤702∧left s st<kk∧Cw s 702 (start s)=Cw s kk st)
 case atStart=>exact⟨_,_8.out,rfl,Ab _,by unfold left start;simp;omega,rfl⟩
 case round=>
  obtain⟨st,hL,IJ,LW,jJ,heq⟩:=hrel
  obtain⟨vd,wp,oI⟩:=hL.rd
  obtain⟨_,_,c2,_⟩:=AV oI.row
  obtain⟨k',OF⟩:∃x,gk=x+1:=⟨gk-1,by omega⟩
  rw[OF]at LW jJ heq
  have yc:=Aa oI
  have rQ:=Aa hL
  have HRU:=Aa IJ
  have XL:=Aa LW
  have HLF:=Aa jJ
  have dN:=Aa heq
  clear oI hL IJ LW jJ heq
  unfold vs at*
  by_cases OE:isDecl st.t.kind=true
  ·have zG:=OE
   simp only[isDecl,Tw,OY]at zG
   have Ye:=Aa OE
   clear OE
   rcases zG with((hk|hk)|hk)|hk
   all_goals
    rw[hk]at c2
    clear hk
    go_wp2_with fail
    refine(nr yc.out rQ.out.mid.ok Ye.out (by have:=XL.out;omega)).mono ?_
    rintro e w2 ho
    cases hx:decl s st with
    |bad k pos=>
     rw[hx]at ho
     obtain⟨gf,rfl,hF,tr,tu⟩:=ho
     have he:=cD (n:=k') dN.out Ye.out hx HL.out
     have hn:=MP (rQ.out.kept.trans hF)
     have F:=Aa (And.intro hn (RL (rQ.out.kept) hF tr tu he (.pointer none) (.iface 106 (.pointer (some ⟨gf,0,none⟩)))))
     clear hF tr tu he hn hx
     go_wp2
     exact IS rfl rfl F.out.1.1 F.out.1.2.1 F.out.1.2.2.1 F.out.1.2.2.2 (by omega) F.out.2
    |ok u AP=>
     rw[hx]at ho
     obtain⟨rfl,A4,oG,jA,h2⟩:=ho
     obtain⟨m2,r2,l2⟩:=QS rQ.out.mid Ye.out HRU.out hx
     have F:=Aa (And.intro (And.intro A4 h2) (And.intro hx (And.intro m2 (And.intro r2 l2))))
     clear A4 h2 m2 r2 l2 hx
     go_wp2_with fail
     go_roundg k'
     case measure=>omega
     case rel=>exact⟨AP,⟨⟨_,_,F.out.1.2⟩,F.out.2.2.1,rQ.out.kept.trans F.out.1.1⟩,F.out.2.2.2.1,by have:=XL.out;have:=no F.out.2.1;omega,by have:=F.out.2.2.2.2;have:=HLF.out;omega,ZJ dN.out Ye.out F.out.2.1⟩
  ·have bZ:=cC dN.out OE
   have n1:(st.t.kind==G1)=false:=by rw[PV];intro e;exact OE (by simp only[isDecl,e,dP])
   have n2:(st.t.kind==G4)=false:=by rw[PV];intro e;exact OE (by simp only[isDecl,e,dP,Te])
   have n3:(st.t.kind==IY)=false:=by rw[PV];intro e;exact OE (by simp only[isDecl,e,dP,Te])
   have n4:(st.t.kind==BX)=false:=by rw[PV];intro e;exact OE (by simp only[isDecl,e,dP,Te])
   have HE1:=Aa bZ
   clear OE bZ
   go_wp2_with fail
   go_loopg [] 702 (fun kk wr=>∃st',nP (w.heap.size+1+1) ea (w.heap.size+1+1+1+1) (w.heap.size+1+1+1) (w.heap.size+1+1) s (Ez w) st' wr∧left s st'<kk∧CR s 1500 702 st=CR s 1500 kk st')
   case atStart=>exact⟨st,rQ.out,by have:=HLF.out;have:=XL.out;omega,rfl⟩
   case round=>
    obtain⟨st',hL,jJ,heq⟩:=hrel
    obtain⟨Nu,U9,oI⟩:=hL.rd
    obtain⟨_,_,c2,_⟩:=AV oI.row
    obtain⟨k1,Bi⟩:∃x,gk=x+1:=⟨gk-1,by omega⟩
    rw[Bi]at jJ heq
    have oq:=Aa oI
    have Mk:=Aa hL
    have Age:=Aa jJ
    have aw:=Aa heq
    clear oI hL jJ heq
    unfold vs at*
    by_cases hk:st'.t.kind=Mv
    ·have HK:=Aa hk
     rw[hk]at c2
     clear hk
     go_wp2_with fail
     refine(kX oq.out Mk.out.mid.ok Mk.out.mid.depth Mk.out.mid.loops HK.out (n:=1500) (by have:=HL.out;unfold left;omega)).mono ?_
     rintro e w2 ho
     cases hx:Gc s 1500 st' with
     |bad k pos=>
      rw[hx]at ho
      obtain⟨gf,rfl,hF,tr,tu⟩:=ho
      have he:=aZ HE1.out aw.out HK.out hx HL.out
      have hn:=MP (Mk.out.kept.trans hF)
      have F:=Aa (And.intro hn (RL (Mk.out.kept) hF tr tu he (.pointer none) (.iface 106 (.pointer (some ⟨gf,0,none⟩)))))
      clear hF tr tu he hn hx
      go_wp2
      exact IS rfl rfl F.out.1.1 F.out.1.2.1 F.out.1.2.2.1 F.out.1.2.2.2 (by omega) F.out.2
     |ok u AP=>
      rw[hx]at ho
      obtain⟨rfl,A4,oG,jA,h2⟩:=ho
      obtain⟨m2,l2,_⟩:=Qd Mk.out.mid HK.out hx
      have F:=Aa (And.intro (And.intro A4 h2) (And.intro hx (And.intro m2 l2)))
      clear A4 h2 m2 l2 hx
      go_wp2_with fail
      go_roundg k1
      case measure=>omega
      case rel=>exact⟨AP,⟨⟨_,_,F.out.1.2⟩,F.out.2.2.1,Mk.out.kept.trans F.out.1.1⟩,by have:=F.out.2.2.2;have:=Age.out;omega,YF aw.out HK.out F.out.2.1⟩
    ·have bY:=aY aw.out hk
     have n1':(st'.t.kind==Mv)=false:=by simpa using hk
     have sF:=pI HE1.out bY HL.out
     have hw:=CD oq.out DJ
     have HRO:=Aa sF
     have HW:=Aa hw
     clear hk bY sF hw
     unfold vs at*
     go_wp2_with fail
     refine HW.out.mono ?_
     rintro e w3 ho
     cases DU:want s DJ st' with
     |bad k pos=>
      rw[DU]at ho
      obtain⟨gf,rfl,hF,tr,tu⟩:=ho
      have he:read s= .error (k,pos):=by rw[HRO.out,DU]
      have hn:=MP (Mk.out.kept.trans hF)
      have F:=Aa (And.intro hn (RL (Mk.out.kept) hF tr tu he (.pointer none) (.iface 106 (.pointer (some ⟨gf,0,none⟩)))))
      clear hF tr tu he hn DU
      go_wp2
      exact IS rfl rfl F.out.1.1 F.out.1.2.1 F.out.1.2.2.1 F.out.1.2.2.2 (by omega) F.out.2
     |ok tw Cb=>
      rw[DU]at ho
      obtain⟨v,rfl,rfl,BY,xt,jz,h3⟩:=ho
      have hB2:=oq.out.env.size
      have k3:Af (fun b=>w.heap.size+1+1≤b) (Ez w) w3:=Mk.out.kept.trans (LJ oq.out.env.size oq.out.g0 BY)
      have LU:read s=match Cb.wrong with
       |some x=>.error x
       |none=>if(Cm Cb.rules).isNone then .error (Pk,0)else .ok ⟨Cb.decls,Cb.freq,Cb.rules⟩:=by rw[HRO.out,DU]
      obtain⟨_,_,_,_,_,c5,_,_,_,c9⟩:=AV h3.row
      have Pe:=h3.wrong
      have H3:=Aa h3
      have K3:=Aa k3
      have HR3:=Aa LU
      obtain⟨x1,x2,x3,x4⟩:=MP k3
      clear h3 BY k3 LU DU
      unfold IB at Pe
      cases CP:Cb.wrong with
      |some x=>
       rw[CP]at Pe
       obtain⟨gf,rfl,xL,BQ⟩:=Pe
       have LU:read s= .error x:=by rw[HR3.out,CP]
       have F:=Aa (cx (gf:=gf) K3.out (Af.refl _ w3) BQ xL LU (.pointer none) (.iface 106 (.pointer (some ⟨gf,0,none⟩))))
       clear xL BQ LU CP
       have iA:¬w.heap.size+1=w.heap.size:=by omega
       have lq:w.heap.size+1<w3.heap.size:=by have:=K3.out.size;simp at this;omega
       have lp:w.heap.size<w3.heap.size:=by omega
       go_wp2_with fail
       go_region
       all_goals go_wp2
       all_goals exact JY (a:=.pointer none) (b:=.iface 106 (.pointer (some ⟨gf,0,none⟩))) rfl rfl (by simp[go_sem,x1,x3,iA]) (by simp[go_sem,x1,x3,iA]) F.out
      |none=>
       rw[CP]at Pe
       obtain rfl:=Pe
       have LU:read s=if(Cm Cb.rules).isNone then .error (Pk,0)else .ok ⟨Cb.decls,Cb.freq,Cb.rules⟩:=by rw[HR3.out,CP]
       have dI:=Aa LU
       clear LU CP
       obtain⟨vm,Xl,sw⟩:=H3.out.rules.look (-1)
       have Adu:=Xl false
       simp only[An,A1]at Adu
       have p2:=H3.out.pol.cell 2
       simp at p2
       have HVM:=Aa sw
       clear Xl sw
       cases hm:AE Cb.rules (-1)with
       |none=>
        have sw:=HVM.out
        rw[hm]at sw
        obtain rfl:=sw
        have LU:read s= .error (Pk,0):=by rw[dI.out];unfold Cm;rw[hm];rfl
        have HF:=Aa LU
        clear LU hm
        have iA:¬w.heap.size+1=w.heap.size:=by omega
        have lq:w.heap.size+1<w3.heap.size:=by have:=K3.out.size;simp at this;omega
        have lp:w.heap.size<w3.heap.size:=by omega
        have Ki:w3.cell? ⟨1,0,none⟩=some (.iface 315 (.pointer (some (ea 10)))):=H3.out.env.err 10 (by omega) (by omega)
        have SY:1<w.heap.size:=AD (HE.out.lt 10 (by omega) (by omega)) HE.out.size
        go_wp2_with fail
        go_region
        all_goals go_wp2
        all_goals exact JY (a:=.pointer none) (b:=.iface 106 (.pointer (some ⟨w3.heap.size,0,none⟩))) rfl rfl (by simp[go_sem,x1,x3,iA,lp,lq]) (by simp[go_sem,x1,x3,iA,lp,lq]) (lB K3.out HF.out _ _)
       |some b=>
        have sw:=HVM.out
        rw[hm]at sw
        obtain⟨cs,⟨_,gl,cap,rfl⟩,_⟩:=sw
        have LU:read s= .ok ⟨Cb.decls,Cb.freq,Cb.rules⟩:=by rw[dI.out];unfold Cm;rw[hm];rfl
        clear hm
        have iA:¬w.heap.size+1=w.heap.size:=by omega
        have lq:w.heap.size+1<w3.heap.size:=by have:=K3.out.size;simp at this;omega
        have lp:w.heap.size<w3.heap.size:=by omega
        have F:=Aa (uD K3.out H3.out LU (.pointer (some ⟨w.heap.size+1+1+1,0,none⟩)) .nilIface)
        clear LU
        go_wp2
        exact JY (a:=.pointer (some ⟨w.heap.size+1+1+1,0,none⟩)) (b:=.nilIface) rfl rfl (by simp[go_sem,x1,x3,iA]) (by simp[go_sem,x1,x3,iA]) F.out
theorem YR (h:VW B ea w) (s:Ae):Calls Tryz.prog 45 #[vs s] w fun e w'=>Ip ea w s e w':=by
 by_cases hl:700<s.length
 ·exact gR h hl
 ·exact gQ h (by omega)
end
theorem TP {α:Type} (A B:List α) (i j:α) {n:Nat} (h:n=A.length):(A++i::B).set n j=A++j::B:=by
 subst h
 rw[U1 _ _ (Ab _),Nat.sub_self,ab]
theorem Xr {α:Type} (A B:List α) (i:α) {n:Nat} (h:n=A.length):(A++i::B)[n]?=some i:=by
 subst h
 rw[Ck (Ab _),Nat.sub_self,Bm]
section
variable {S:Nat→Prop} {w w0:World} {gm gg gp bm loops K:Nat} {vl:Value} {code:List Gl} {t:TypeId} {cs:List Value}
theorem DI.cond (h:DI S w0 w gm gg gp bm loops code K t cs) (hn:code.length≤900000) (c:Da):
  Calls Tryz.prog 140 #[.pointer (some ⟨gm,0,none⟩),.agg (By c).toArray] w fun e w'=>
   e= .returned (.tuple #[])∧DI S w0 w' gm gg gp bm loops (code++Aq c) K t cs:=by
 obtain⟨vl,hm⟩:=h.mr
 refine(qU hm h.up hn c).mono ?_
 rintro e w' ⟨he,hk,Ic⟩
 exact⟨he,h.call hk Ic⟩
theorem DI.block {m:Nat} (hB:Sh m) (h:DI S w0 w gm gg gp bm loops code K t cs) {b:AC} {v:Value} (Fw:b.size≤m) (hv:Dv (fun k=>¬S k) w0 v b) (Nw:code.length+8*b.size≤900000) (Tj:loops+b.size≤1000000):
  Calls Tryz.prog 81 #[.pointer (some ⟨gm,0,none⟩),v] w fun e w'=>
   e= .returned (.tuple #[])∧DI S w0 w' gm gg gp bm (loops+b.loops) (code++BR loops code.length b) K t cs:=by
 obtain⟨vl,hm⟩:=h.mr
 refine(hB (tZ S K) w gm gg gp bm loops vl code b v hm h.up Fw ((hv.kept (fun k cs hk _=>h.kept.block k hk)).mono (fun k _ hk hb=>hk hb.1)) Nw Tj).mono ?_
 rintro e w' ⟨he,hk,Ic⟩
 exact⟨he,h.call hk Ic⟩
theorem DI.form (h:DI S w0 w gm gg gp bm loops code K t cs) (hn:0<code.length):∃gl cap,w.cell? ⟨gm,1,none⟩=some (.slice (some ⟨gl,0,none⟩) code.length cap)∧
  (∀(k:Nat) (i0:Gl),code[k]?=some i0→∀j,j<3→w.cell? ⟨gl,k*3+j,none⟩=(Cr i0)[j]?∧w.frozen? ⟨gl,k*3+j,none⟩=false)∧
  (∀(k:Nat) (i0 i:Gl) (j:Nat) (u:Value),code[k]?=some i0→j<3→Cr i=(Cr i0).set j u→DI S w0 (w.setCell ⟨gl,k*3+j,none⟩ u) gm gg gp bm loops (code.set k i) K t cs):=by
 obtain⟨vl,hm⟩:=h.mr
 obtain⟨gl,cap,rfl,_⟩:=hm.l.form hn
 refine⟨gl,cap,hm.row.cell 1,fun k i0 hk j hj=>⟨hm.l.at_ (fun _=>rfl) hk hj,hm.l.frz rfl _⟩,fun k i0 i j u hk hj he=>?_⟩
 obtain⟨h1,h2⟩:=hm.turn rfl hk hj he
 exact h.call h1 ⟨_,h2⟩
theorem DI.drew (h:DI S w0 w gm gg gp bm loops code K t cs):DI S w0 w.drew gm gg gp bm loops code K t cs:=by
 obtain⟨vl,hm⟩:=h.mr
 have k:Af (tZ S K) w w.drew:=(Af.refl _ w).drew
 exact h.call k ⟨vl,hm.row.drew,hm.prog.drew,hm.l.of_heap rfl,hm.sm,hm.sg⟩
theorem DI.put' (h:DI S w0 w gm gg gp bm loops code K t cs) (hn:code.length≤1000000) (i:Gl) {op a b:Int} (h1:op=(i.op:Int)) (h2:a=i.a) (h3:b=i.b):
  Calls Tryz.prog 82 #[.pointer (some ⟨gm,0,none⟩),.agg #[.int .u8 op,.int .i64 a,.int .i64 b]] w fun e w'=>∃(k:Nat) (ZQ:List Gl),e= .returned (.int .i64 k)∧k=code.length∧ZQ=code++[i]∧DI S w0 w' gm gg gp bm loops ZQ K t cs:=by
 refine(h.put hn i h1 h2 h3).mono ?_
 rintro e w' ⟨he,hh⟩
 exact⟨_,_,he,rfl,rfl,hh⟩
theorem lU (c:Da) (t e:AC) (loops:Nat) (code FM Fx GI Jb:List Gl) (a b:Nat) (h1:FM=code++Aq c++[.skip 0]) (ha:a=(code++Aq c).length) (h2:Fx=FM++BR loops FM.length t)
  (hb:b=Fx.length) (h3:GI=(Fx++[Gl.jump 0]).set a (.skip (Fx++[Gl.jump 0]).length)) (h4:Jb=GI++BR (loops+t.loops) GI.length e):
  Jb.set b (.jump Jb.length)=code++BR loops code.length (.ite c t true e .nil):=by
 have l1:FM.length=code.length+(Aq c).length+1:=by rw[h1];simp;omega
 have e3:GI=code++Aq c++ .skip (code.length+(Aq c).length+1+(BR loops (code.length+(Aq c).length+1) t).length+1)::(BR loops (code.length+(Aq c).length+1) t++[.jump 0]):=by
  rw[h3,h2,l1,h1]
  have:(code++Aq c++[.skip 0]++BR loops (code.length+(Aq c).length+1) t++[.jump 0])=(code++Aq c)++ .skip 0::(BR loops (code.length+(Aq c).length+1) t++[.jump 0]):=by simp
  rw[this,TP _ _ _ _ ha]
  congr 3
  simp;omega
 have l3:GI.length=code.length+(Aq c).length+1+(BR loops (code.length+(Aq c).length+1) t).length+1:=by rw[e3];simp;omega
 have e4:Jb=(code++Aq c++ .skip (code.length+(Aq c).length+1+(BR loops (code.length+(Aq c).length+1) t).length+1)::BR loops (code.length+(Aq c).length+1) t)++ .jump 0::BR (loops+t.loops) (code.length+(Aq c).length+1+(BR loops (code.length+(Aq c).length+1) t).length+1) e:=by
  rw[h4,l3,e3];simp
 have l4:Jb.length=code.length+(Aq c).length+1+(BR loops (code.length+(Aq c).length+1) t).length+1+(BR (loops+t.loops) (code.length+(Aq c).length+1+(BR loops (code.length+(Aq c).length+1) t).length+1) e).length:=by rw[h4,Ao,l3]
 rw[l4,e4,TP _ _ _ _ (by rw[hb,h2,l1,Ao,l1];simp;omega)]
 simp[BR]
theorem iq (c:Da) (t:AC) (loops:Nat) (code FM Fx:List Gl) (a:Nat) (h1:FM=code++Aq c++[.skip 0]) (ha:a=(code++Aq c).length) (h2:Fx=FM++BR loops FM.length t):
  Fx.set a (.skip Fx.length)=code++BR loops code.length (.ite c t false .nil .nil):=by
 have l1:FM.length=code.length+(Aq c).length+1:=by rw[h1];simp;omega
 have e2:Fx=code++Aq c++ .skip 0::BR loops (code.length+(Aq c).length+1) t:=by rw[h2,l1,h1];simp
 have l2:Fx.length=code.length+(Aq c).length+1+(BR loops (code.length+(Aq c).length+1) t).length:=by rw[h2,Ao,l1]
 rw[l2,e2,TP _ _ _ _ ha]
 simp[BR]
theorem lh (n:Int) (c:Da) (x:AC) (loops:Nat) (code FM Fx GI Jb JU:List Gl) (a b:Nat) (h1:FM=code++[.count loops n]) (ha:a=FM.length) (h2:Fx=FM++[.again loops 0]) (hb:b=(Fx++Aq c).length) (h3:GI=Fx++Aq c++[.skip 0])
  (h4:Jb=GI++BR (loops+1) GI.length x) (h5:JU=Jb++[.jump a]):
  (JU.set a (.again loops JU.length)).set b (.skip (JU.set a (.again loops JU.length)).length)=code++BR loops code.length (.rep n c x .nil):=by
 have la:a=code.length+1:=by rw[ha,h1];simp
 have l3:GI.length=code.length+2+(Aq c).length+1:=by rw[h3,h2,h1];simp;omega
 have e5:JU=(code++[.count loops n])++ .again loops 0::(Aq c++ .skip 0::(BR (loops+1) (code.length+2+(Aq c).length+1) x++[.jump (code.length+1)])):=by
  rw[h5,h4,l3,h3,h2,h1,la];simp
 have l5:JU.length=code.length+2+(Aq c).length+1+(BR (loops+1) (code.length+2+(Aq c).length+1) x).length+1:=by rw[e5];simp;omega
 rw[BU,l5,e5,TP _ _ _ _ (by rw[la];simp)]
 have:code++[Gl.count loops n]++ .again loops (code.length+2+(Aq c).length+1+(BR (loops+1) (code.length+2+(Aq c).length+1) x).length+1)::(Aq c++ .skip 0::(BR (loops+1) (code.length+2+(Aq c).length+1) x++[.jump (code.length+1)]))=
   (code++[Gl.count loops n]++ .again loops (code.length+2+(Aq c).length+1+(BR (loops+1) (code.length+2+(Aq c).length+1) x).length+1)::Aq c)++ .skip 0::(BR (loops+1) (code.length+2+(Aq c).length+1) x++[.jump (code.length+1)]):=by simp
 rw[this,TP _ _ _ _ (by rw[hb,h2,h1];simp)]
 simp[BR]
theorem yG {m:Nat} (hB:Sh m) (h:NB S w gm gg gp bm vl loops code) (hS:Up S w) {c:Da} {t e:AC} {o:Bool} {vt ve:Value} (CP:t.size≤m) (Vu:e.size≤m) (ht:Dv (fun k=>¬S k) w vt t)
  (he:if o then Dv (fun k=>¬S k) w ve e else ve=Bx∧e= .nil) (Nw:code.length+8*(1+t.size+e.size)≤900000) (Tj:loops+(1+t.size+e.size)≤1000000):
  Calls Tryz.prog 127 #[.pointer (some ⟨gm,0,none⟩),.agg (Le c vt ve).toArray] w fun e' w'=>PK S w gm gg gp bm (loops+(t.loops+e.loops)) (code++BR loops code.length (.ite c t o e .nil)) e' w':=by
 have oK:∀w,(binOp .neq 174 (.slice none 0 0) (.slice none 0 0)).run Tryz.prog w= .ok (.bool false) w:=fun _=>rfl
 have Vc:∀(a:Addr) (n c:Nat) w,(binOp .neq 174 (.slice (some a) n c) (.slice none 0 0)).run Tryz.prog w= .ok (.bool true) w:=fun _ _ _ _=>rfl
 have h0:=DI.start h hS 258 (Le c vt ve)
 have xO:=h0.cond (by omega) c
 have sZ:=Kp c
 have Kv:=Hb t loops
 have SY:=Hb e (loops+t.loops)
 obtain⟨Nr,⟨_,gt,cN,rfl⟩,_⟩:=id ht
 have Vt:∃a2 n2 c2,ve= .slice a2 n2 c2:=by
  cases o with
  |true=>
   rw[Ak rfl]at he
   obtain⟨ce,⟨_,ge,_G,Vt⟩,_⟩:=he
   exact⟨_,_,_,Vt⟩
  |false=>
   rw[Ad Bg]at he
   exact he.1▸V0
 obtain⟨a2,n2,c2,rfl⟩:=Vt
 have HTV:=Aa ht
 have wZ:=Aa he
 have xZ:=Aa Kv
 have jv:=Aa SY
 have HB:=Aa hB
 obtain⟨b0,n1,b2,n3,hv⟩:=Fl c.k
 have UB:By c=[vs (Cg c.k),.int .i64 (BT c.k),vs b0,.int .i64 n1,vs b2,.int .i64 n3,.bool (Dg c.nots)]:=by unfold By;rw[hv];rfl
 have zK:Le c (.slice (some ⟨gt,0,none⟩) t.length cN) (.slice a2 n2 c2)=[vs Iw,.int .i64 0,.int .i64 0,.bool false,vs (Cg c.k),.int .i64 (BT c.k),vs b0,.int .i64 n1,vs b2,.int .i64 n3,.bool (Dg c.nots),.slice (some ⟨gt,0,none⟩) t.length cN,.slice a2 n2 c2]:=by unfold Le;rw[UB];rfl
 rw[UB]at xO
 rw[zK]at h0 xO ⊢
 have HC0:=Aa xO
 have H0:=Aa h0
 clear hB h0 xO h hS ht he Kv SY hv UB zK
 unfold vs at*
 go_enter S6,Re
 go_wp2_with fail
 refine HC0.out.mono ?_
 rintro e1 w1 ⟨rfl,h1⟩
 have H1:=Aa h1
 clear h1 HC0
 go_wp2_with fail
 refine(H1.out.put' (by rw[Ao];omega) (.skip 0) rfl rfl rfl).mono ?_
 rintro e1 w2 ⟨a,FM,rfl,ha,Nk,h2⟩
 obtain⟨_,_,_,_,_,_,_,_,_,_,_,pi,j8⟩:=Br h2.row
 have l1:FM.length=code.length+(Aq c).length+1:=by rw[Nk];simp;omega
 have Hy:=h2.block HB.out CP HTV.out (by omega) (by omega)
 have HA:=Aa ha
 have Td:=Aa Nk
 have Yg:=Aa Hy
 have L1:=Aa l1
 clear h2 Hy ha Nk l1 j8
 go_wp2_with fail
 refine Yg.out.mono ?_
 rintro e1 w3 ⟨rfl,h3⟩
 obtain⟨Fx,Nx⟩:∃x,x=FM++BR loops FM.length t:=⟨_,rfl⟩
 rw[←Nx]at h3
 obtain⟨_,_,_,_,_,_,_,_,_,_,_,_,j8⟩:=Br h3.row
 have l2:Fx.length=FM.length+(BR loops FM.length t).length:=by rw[Nx,Ao]
 have Ac1:=xZ.out FM.length
 have l2b:Fx.length≤FM.length+8*t.size:=by omega
 have l1':=L1.out
 have iK:Fx[a]?=some (.skip 0):=by
  rw[Nx,Td.out]
  simp only[Al,A8,CH]
  rw[←Al]
  exact Xr _ _ _ HA.out
 have Vj:=Aa Nx
 have H3:=Aa h3
 have L2:=Aa l2
 clear h3 Nx l2 Ac1 pi
 cases o with
 |false=>
  have he:=wZ.out
  rw[Ad Bg]at he
  obtain⟨hv,rfl⟩:=he
  unfold Bx at hv
  injection hv with Qy Uq hv3
  subst Qy Uq hv3
  have Wv:a<Fx.length:=(Ap.1 iK).1
  obtain⟨gl,cap,r1,rc,rt⟩:=H3.out.form (by omega)
  obtain⟨cA,fA⟩:=rc a _ iK 1 (by omega)
  have F:=Aa (rt a (.skip 0) (.skip Fx.length) 1 (.int .i64 Fx.length) iK (by omega) rfl)
  have HGA:=Aa iK
  clear rc rt iK
  simp[Cr]at cA
  go_wp2_with fail
  go_region
  all_goals go_wp2
  all_goals
   refine Dd (Cl rfl _ _ _) rfl ?_
   rw[←iq c t loops code FM Fx a Td.out HA.out Vj.out]
   exact F.out.drew.out
 |true=>
  have he:=wZ.out
  rw[Ak rfl]at he
  obtain⟨ce,⟨_,ge,_G,Vt⟩,_⟩:=id he
  injection Vt with Qy Uq hv3
  subst Qy Uq hv3
  have Agl:=Aa he
  clear he
  go_wp2_with fail
  refine(H3.out.put' (by omega) (.jump 0) rfl rfl rfl).mono ?_
  rintro e1 w4 ⟨b,Oh,rfl,hb,qH,h4⟩
  have qB:Oh[a]?=some (.skip 0):=by
   rw[qH,B7 (Ap.1 iK).1];exact iK
  have Wv:a<Oh.length:=(Ap.1 qB).1
  obtain⟨gl,cap,r1,rc,rt⟩:=h4.form (by omega)
  obtain⟨cA,fA⟩:=rc a _ qB 1 (by omega)
  have F4:=Aa (rt a (.skip 0) (.skip Oh.length) 1 (.int .i64 Oh.length) qB (by omega) rfl)
  have zB:Oh.length=Fx.length+1:=by rw[qH];simp
  have VV:=Aa hb
  have Aam:=Aa qH
  have Aag:=Aa zB
  have Acl:=Aa l2b
  clear rc rt iK qB hb qH h4 zB l2b j8
  simp[Cr]at cA
  go_wp2_with fail
  go_region
  all_goals
   have h5:=F4.out.drew
   obtain⟨GI,XX⟩:∃x,x=Oh.set a (.skip Oh.length):=⟨_,rfl⟩
   rw[←XX]at h5
   have Xm:GI.length=Oh.length:=by rw[XX,BU]
   obtain⟨_,_,_,_,_,_,_,_,_,_,_,_,j8⟩:=Br h5.row
   have LX:=h5.block HB.out Vu Agl.out (by have:=Aag.out;have:=Acl.out;have:=L1.out;omega) (by have:=IU t;omega)
   have rV:=Aa LX
   have pa:=Aa XX
   have HL3:=Aa Xm
   clear h5 LX XX Xm r1 cA fA
   go_wp2_with fail
   refine rV.out.mono ?_
   rintro e1 w6 ⟨rfl,h6⟩
   obtain⟨Jb,VA⟩:∃x,x=GI++BR (loops+t.loops) GI.length e:=⟨_,rfl⟩
   rw[←VA]at h6
   have jK:Jb[b]?=some (.jump 0):=by
    rw[VA,pa.out,Aam.out,B7 (by rw[BU,VV.out];simp),E8 (by rw[VV.out];have:=Aag.out;have:=HA.out;have:=Td.out;have:=Vj.out;rw[Vj.out,Td.out,HA.out];simp)]
    exact Xr _ _ _ VV.out
   have OH:b<Jb.length:=(Ap.1 jK).1
   obtain⟨gl2,Er,r1,rc,rt⟩:=h6.form (by omega)
   obtain⟨cA,fA⟩:=rc b _ jK 1 (by omega)
   have F6:=Aa (rt b (.jump 0) (.jump Jb.length) 1 (.int .i64 Jb.length) jK (by omega) rfl)
   have xe:=Aa VA
   clear rc rt jK h6 VA j8
   simp[Cr]at cA
   go_wp2_with fail
   go_region
   all_goals
    go_wp2
    refine Dd (Cl rfl _ _ _) rfl ?_
    rw[←lU c t e loops code FM Fx GI Jb a b Td.out HA.out Vj.out VV.out (by rw[pa.out,Aam.out]) xe.out]
    have A6:=F6.out.drew.out
    rw[E3]at A6
    exact A6
end
end Go.Proofs.YtemppijblfflgaaGreatDoor.Ev
