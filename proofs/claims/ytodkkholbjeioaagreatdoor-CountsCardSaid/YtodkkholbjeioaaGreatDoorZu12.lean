/- Lemmas for a law's walk. Conditions: none. -/
import Derived.Test.YtodkkholbjeioaaGreatDoorZu10
set_option linter.all false
set_option maxRecDepth 100000
set_option maxHeartbeats 8000000
namespace Go.Proofs.YtodkkholbjeioaaGreatDoor.Ev
open _root_.Go.Proofs.Tryz
open Go Go.RowKit
section
variable {B:Nat}{ea:Nat->Addr}{w w0:World}{g gp bm D:Nat}{vd wp bJ:Value}{s:Ah}{st be:PS}{t:TypeId}{ds:List Value}
theorem gB (h:DR B ea w g gp bm vd wp s st) (ok:st.Ok s) (N:st.t.kind=Gg) (l9:st.decls.length<=900):
  Calls prog 73 #[.pointer (some ⟨g,0,none⟩)] w λe w'=>JZ B ea w g gp bm s (decl s st) e w':=by
 have R:st.t.kind≠Cy:=by rw[N];decide
 rw[decl_eq s st R];obtain⟨S,T,rfl⟩:=h.decls.shape;have q0:=(FF.start h).alloc (.cells #[vs st.t.kind,vs st.t.text,.int .i64 st.t.pos] 188);have r0:AF (w.alloc (.cells #[vs st.t.kind,vs st.t.text,.int .i64 st.t.pos] 188)) w.heap.size 188 [vs st.t.kind,vs st.t.text,.int .i64 st.t.pos]:=AF.new w _ _;have bY:=Er q0.rd;obtain⟨_,_,c2,c3,c4,_⟩:=AZ h.row;obtain⟨hB,hg,mc⟩:=zp3 h.env.size h.g0 h.jo;have e1:(st.t.kind==Cy)=false:=by simpa using R
 obtain⟨Q0,R0,HN,fG,HK⟩:=zq5 q0 r0 bY (Ce ok) N;clear q0 r0 bY h ok N R;unfold vs at*;go_enter nX,gX;go_wp2_with fail;refine HN.out.mono ?_;rintro e w1 ⟨rfl,U,h1⟩;have q1:=Q0.out.call U h1 rfl rfl rfl;have r1:=Q0.out.rowAt R0.out (by decide) U;have d0:=r1.cell 0;have hw:=Dd q1.rd Ch;obtain⟨Q1,R1,HW⟩:=zq3 q1 r1 hw;clear q1 r1 hw U h1;simp at d0;unfold vs at*;go_wp2_with fail;refine HW.out.mono ?_;rintro e w2 r;cases j:want s Ch (next s st)with
 |bad k pos=>
  rw[j]at r;obtain⟨gf,rfl,hF⟩:=Fp Q1.out r;have y:=Aa j;clear j;go_wp2;refine⟨rfl,?_⟩;rw[y.out];exact⟨gf,rfl,hF⟩
 |ok a st1=>
  rw[j]at r;obtain⟨v,rfl,rfl,f,mu,mz,h2⟩:=r;have c:=(BH j).2.2;have ci:st1.Ok s:=by rw[c];exact Ce fG.out
  have q2:=(Q1.out.call f h2 (by rw[c];rfl) (by rw[c];rfl) (by rw[c];rfl)).alloc (.cells #[vs a.kind,vs a.text,.int .i64 a.pos] 188);have r2:=(Q1.out.rowAt R1.out (by decide) f).alloc (.cells #[vs a.kind,vs a.text,.int .i64 a.pos] 188);have x2:AF (w2.alloc (.cells #[vs a.kind,vs a.text,.int .i64 a.pos] 188)) w2.heap.size 188 [vs a.kind,vs a.text,.int .i64 a.pos]:=AF.new w2 _ _;have V:st1.decls=st.decls:=by rw[c];rfl
  have cu:st1.decls.length<=1000:=by rw[V];omega
  have z:=q2.drew;have A:=Sy a.text gp st1.decls (.slice S st.decls.length T) _ z.rd.decls cu z.rd.bQ.lt (z.rd.bQ.cell 0);obtain⟨_,_,_,_,_,c5,_⟩:=AZ q2.row;have cw:=x2.cell 1;simp at cw;have cy:st1.rules=st.rules:=by rw[c];rfl
  obtain⟨y,O,fL,Q2,R2,X2,fM⟩:=zq7 j ci V z r2 x2 A;clear f h2 q2 z r2 x2 j c ci V cy A d0;unfold IW vs at*;go_wp2_with fail
  (refine Du 6 (by kernel_rfl) (by kernel_rfl) ?_;simp only[Au,AI,Av,AK];repeat still_step)
  refine BT ?_;go_wp2_with fail;refine fM.out.mono ?_;rintro e w3 ⟨rfl,W⟩;have k3:Kg g ((w2.alloc (.cells #[vs a.kind,vs a.text,.int .i64 a.pos] 188)).drew) w3:=Jx W;have q3:=Q2.out.call k3 (Q2.out.rd.below W) rfl rfl rfl;have r3:=Q2.out.rowAt (R2.out.drew) (by decide) k3;have x3:=Q2.out.rowAt (X2.out.drew) (by decide) k3;obtain⟨Q3,R3,X3⟩:=zq3 q3 r3 x3;have cz:=Hi q3.rd 4 a.pos;have fN:=Aa cz;have n:=x3.cell 1;have C:=x3.cell 2;have E:w3.cell? ⟨8,0,none⟩=some (.iface 304 (.pointer (some (ea 4)))):=q3.rd.env.err 4 (by omega) (by omega);simp at n C;clear k3 q3 r3 x3 W cz c5 cw;go_upto_if 46 with fail;go_cut [] (λX=>∃G,FF B ea g gp bm (.slice S st.decls.length T) s st w wp (OE a st1) X G/\AF X w.heap.size 188 [vs st.t.kind,vs st.t.text,.int .i64 st.t.pos]/\AF X w2.heap.size 188 [vs a.kind,vs a.text,.int .i64 a.pos])
  case first=>
   by_cases K:0<=find st1.decls a.text
   ·have Y:decide (0<=find st1.decls a.text)=true:=by simpa using K
    have H:OE a st1=note CY a.pos st1:=by unfold OE;rw[Al K]
    have Z:=Aa H;clear H;unfold Ds at*;go_wp2_with fail;refine fN.out.mono ?_;rintro e w4 ⟨rfl,i,bL,h4⟩;have I:DR B ea w4 g gp bm (.slice S st.decls.length T) bL s (OE a st1):=by rw[Z.out];exact h4
    obtain⟨a1,a2,a3⟩:=GE a st1;have F:=Aa (And.intro (Q3.out.call i I a1 a2 a3) (And.intro (Q3.out.rowAt R3.out (by decide) i) (Q3.out.rowAt X3.out (by decide) i)));clear h4 I i a1 a2 a3;go_wp2_with fail;go_meet;exact⟨_,F.out⟩
   ·have Y:decide (0<=find st1.decls a.text)=false:=by simpa using K
    have H:OE a st1=st1:=by unfold OE;rw[Ai K]
    have Z:=Aa H;clear H;go_wp2_with fail;go_meet;exact⟨_,by rw[Z.out];exact Q3.out,R3.out,X3.out⟩
  case rest=>
   obtain⟨G,q4,r4,x4⟩:=hcut;clear n C E;have d:(OE a st1).decls.length=st.decls.length:=by rw[(GE a st1).1,fL.out]
   obtain⟨dG,n,C⟩:=zp3 (Hi q4.rd 9 a.pos) (x4.cell 1) (x4.cell 2);have E:wc.cell? ⟨13,0,none⟩=some (.iface 304 (.pointer (some (ea 9)))):=q4.rd.env.err 9 (by omega) (by omega);obtain⟨_,_,_,_,_,c5,_⟩:=AZ q4.row;have p0:=q4.rd.bQ.cell 0;obtain⟨Q4,R4,X4,fP,L⟩:=zq5 q4 r4 x4 dG d;clear q4 r4 x4 dG d;simp at n C p0;go_upto_if 60 with fail;go_cut [] (λX=>∃G,FF B ea g gp bm (.slice S st.decls.length T) s st w wp (Bh a st1) X G/\AF X w.heap.size 188 [vs st.t.kind,vs st.t.text,.int .i64 st.t.pos]/\AF X w2.heap.size 188 [vs a.kind,vs a.text,.int .i64 a.pos])
   case first=>
    by_cases K:st.decls.length=8
    ·have Y:((st.decls.length:Int)==8)=true:=by simp;omega
     have H:Bh a st1=note Ov a.pos (OE a st1):=by rw[Gc,L.out,Al K]
     have Z:=Aa H;clear H;unfold Ds at*;go_wp2_with fail;refine fP.out.mono ?_;rintro e w4 ⟨rfl,i,bL,h4⟩;have I:DR B ea w4 g gp bm (.slice S st.decls.length T) bL s (Bh a st1):=by rw[Z.out];exact h4
     obtain⟨a1,a2,a3⟩:=GE a st1;obtain⟨b1,b2,b3⟩:=Kp a st1;have F:=Aa (And.intro (Q4.out.call i I (b1.trans a1.symm) (b2.trans a2.symm) (b3.trans a3.symm)) (And.intro (Q4.out.rowAt R4.out (by decide) i) (Q4.out.rowAt X4.out (by decide) i)));clear h4 I i a1 a2 a3 b1 b2 b3;go_wp2_with fail;go_meet;exact⟨_,F.out⟩
    ·have Y:((st.decls.length:Int)==8)=false:=by simp;omega
     have H:Bh a st1=OE a st1:=by rw[Gc,L.out,Ai K]
     have Z:=Aa H;clear H;go_wp2_with fail;go_meet;exact⟨_,by rw[Z.out];exact Q4.out,R4.out,X4.out⟩
   case rest=>
    obtain⟨G,q5,r5,x5⟩:=hcut;clear n C E c5 p0;have d0:=r5.cell 0;have n:=x5.cell 1;obtain⟨Q5,R5⟩:=zq2 q5 r5;clear q5 r5 x5;simp at d0 n;have l5:=Q5.out.row.lt;have l6:w.heap.size<wc.heap.size:=R5.out.lt;have N:=HK.out;have dH:Cq st.t.kind=50:=by rw[N];decide
    have dI:((Eu st.t.kind:Nat):Int)=1:=by rw[N];decide
    rw[N]at d0;have q6:=Q5.out.alloc (.cells #[.int .i64 1,vs a.text,.int .i64 0] 102);have r6:AF (wc.alloc (.cells #[.int .i64 1,vs a.text,.int .i64 0] 102)) wc.heap.size 102 [.int .i64 1,vs a.text,.int .i64 0]:=AF.new wc _ _;have fU:w.heap.size<=wc.heap.size:=Q5.out.kg.size;have P:=IV q6.rd (Jd a O.out) 1 50;obtain⟨Q6,R6,gI,bN,ik⟩:=zq5 q6 r6 P dH dI;clear q6 r6 P dH dI N;unfold vs at*;go_wp2_with fail;refine gI.out.mono ?_;rintro e w6 r;cases hx:number s 1 50 (Bh a st1)with
    |bad k pos=>
     rw[hx]at r;obtain⟨gf,rfl,hF⟩:=Fp Q6.out r;have HX:=Aa hx;clear hx;go_wp2;refine⟨rfl,?_⟩;rw[y.out];show JZ _ _ _ _ _ _ _ ((number s 1 (Cq st.t.kind) (Bh a st1)).bind _) _ _;rw[bN.out,HX.out];exact⟨gf,rfl,hF⟩
    |ok m o=>
     rw[hx]at r;obtain⟨v,rfl,rfl,bP,nA,nC,h7⟩:=r;have J:=(GB (Jd a O.out) hx).1;have q7:=Q6.out.call bP h7 J.decls J.bI J.rules;have r7:=Q6.out.rowAt R6.out (by decide) bP;have q8:=q7.bM r7 fU (by decide) 2 (.int .i64 m);obtain⟨r8,d7,f7,dK,dL⟩:=zp5 (r7.bM 2 (.int .i64 m)) (r7.cell 2) (r7.frozen 2) (Dd q8.rd AP) J.ok;have dN:o.decls=st.decls:=q7.decls;obtain⟨HX,Q8,R8,iy,lS,iz⟩:=zq6 hx q8 r8 dK dL dN;clear hx bP h7 J q7 r7 q8 r8 dK dL dN;simp at d7;go_wp2_with fail;refine iy.out.mono ?_;rintro e Q r;cases q:want s AP o with
     |bad k pos=>
      rw[q]at r;obtain⟨gf,rfl,hF⟩:=Fp Q8.out r;have bR:=Aa q;clear q;go_wp2;refine⟨rfl,?_⟩;rw[y.out];show JZ _ _ _ _ _ _ _ ((number s 1 (Cq st.t.kind) (Bh a st1)).bind _) _ _;rw[bN.out,HX.out];show JZ _ _ _ _ _ _ _ ((want s AP o).bind _) _ _;rw[bR.out];exact⟨gf,rfl,hF⟩
     |ok tw M=>
      rw[q]at r;obtain⟨v,rfl,rfl,bS,nI,nJ,h9⟩:=r;have x:=(BH q).2.2;have d:M.decls=o.decls:=by rw[x];rfl
      have dO:M.bI=o.bI:=by rw[x];rfl
      have dP:M.rules=o.rules:=by rw[x];rfl
      have q9:=Q8.out.call bS h9 d dO dP;have r9:=Q8.out.rowAt R8.out (by decide) bS;obtain⟨bR,L⟩:=zq2 q d;clear bS h9 x d dO dP q;obtain⟨_,_,_,_,_,c5,_⟩:=AZ q9.row;obtain⟨p0,pf,x0,x1,x2,l0,l1,l2⟩:=zp8 (q9.rd.bQ.cell 0) (q9.rd.bQ.frozen 0) (r9.cell 0) (r9.cell 1) (r9.cell 2) q9.row.lt q9.rd.bQ.lt r9.lt;simp at p0 x0 x1 x2;obtain⟨Q9,R9⟩:=zq2 q9 r9;clear q9 r9;go_wp2_with fail;have wA:World:=Q;obtain⟨i0,iA,iB,iC,iD⟩:=Bg V0;have b:=(Q9.out.alloc (.cells #[.int .i64 1,vs a.text,.int .i64 m] 102)).drew;have s1:=b.rd.decls;have d:M.decls=st.decls:=L.out.trans iz.out;rw[d]at s1;have S1:=Aa s1;have iF:wc.heap.size≠g:=R9.out.cZ Q9.out.row (by decide);have dQ:B<=((Q.alloc (.cells #[.int .i64 1,vs a.text,.int .i64 m] 102)).drew).heap.size/\((Q.alloc (.cells #[.int .i64 1,vs a.text,.int .i64 m] 102)).drew).heap.size≠g:=⟨b.rd.env.size,λe=>by have:=b.row.lt;omega⟩;have iG:=Aa dQ;have dR:=C9 Q [.int .i64 1,vs a.text,.int .i64 m] 102;have iH:=Aa dR;have dS:∀u∈ [Value.int .i64 1,vs a.text,.int .i64 m],u.oneCell'=true:=by intro u hu;simp at hu;rcases hu with rfl|rfl|rfl<;>rfl
      have iI:=Aa dS;have iT:st.decls.length+1<=maxLen:=by unfold maxLen;omega
      have i8:(st.decls.length+1)*32<=140737488355328:=by omega
      have jd:(Q.alloc (.cells #[.int .i64 1,vs a.text,.int .i64 m] 102)).drew.frozen? ⟨gp,0,none⟩=false:=b.rd.bQ.frozen 0;have pn:¬((Value.slice S st.decls.length T).ownBlock=some gp\/((Q.alloc (.cells #[.int .i64 1,vs a.text,.int .i64 m] 102)).drew).heap.size<=gp):=by
       rintro(hb|hb)
       ·exact b.rd.decls.bK b.rd.bQ (by decide) hb
       ·exact absurd b.rd.bQ.lt (CL.2 hb)
      have PN:=Aa pn;have gn:¬((Value.slice S st.decls.length T).ownBlock=some g\/((Q.alloc (.cells #[.int .i64 1,vs a.text,.int .i64 m] 102)).drew).heap.size<=g):=by
       rintro(hb|hb)
       ·exact(b.rd.decls.2 g hb).2 rfl
       ·exact absurd b.row.lt (CL.2 hb)
      have GN:=Aa gn;have b5:=(AZ b.row).2.2.2.2.2.1;have b0:=b.rd.bQ.cell 0;simp only[AJ]at b0;have dU:=Aa b;clear b s1 dQ dR dS pn gn iF;unfold vs at*
      go_region_law (first
       |(refine EL dA iA iB iC iD rfl (by decide) S1.out iG.out rfl _ _ (by rfl) (by rfl) ⟨Q.heap.size,0,none⟩ 1 1 [.int .i64 1,.string ⟨a.text.toArray⟩,.int .i64 m] (by rfl) (by rfl) iH.out iI.out iT i8 (by omega) ?_;intro g2 l8 nP dV f dW;have e1:=(f.cell (p:=⟨g,5,none⟩) GN.out).trans b5;have e0:=(f.cell (p:=⟨gp,0,none⟩) PN.out).trans b0;have e2:=(f.frozen (p:=⟨gp,0,none⟩) PN.out).trans jd;have je:=Aa dV;have jf:=Aa f;clear dV f dW))
      all_goals
       go_wp2;go_end0;rw[y.out];show JZ _ _ _ _ _ _ _ ((number s 1 (Cq st.t.kind) (Bh a st1)).bind _) _ _;rw[bN.out,HX.out];show JZ _ _ _ _ _ _ _ ((want s AP o).bind _) _ _;rw[bR.out];have K:=dU.out.rd.jE ⟨Eu st.t.kind,a.text,m⟩ (AH List.length d) (AH (λl=>l.flatMap Dx) d) (by unfold Dx;rw[ik.out]) je.out jf.out (by rw[d];omega);exact⟨rfl,(MH hB hg dU.out.kg).trans K.1,_,_,K.2⟩
end
end Go.Proofs.YtodkkholbjeioaaGreatDoor.Ev
