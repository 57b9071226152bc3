/- Lemmas for a law's walk. Conditions: none. -/
import Derived.Test.YtepoejiigmhlbaaGreatDoorZa10
set_option linter.all false
set_option maxRecDepth 100000
set_option maxHeartbeats 8000000
namespace Go.Proofs.YtepoejiigmhlbaaGreatDoor.Ev
open _root_.Go.Proofs.Tryz
open Go Go.RowKit
section
variable {B:Nat}{ea:Nat->Addr}{w w0:World}{g gp bm D:Nat}{vd wp bf:Value}{s:Ah}{st be:PS}{t:TypeId}{ds:List Value}
theorem fJ (h:DO B ea w g gp bm vd wp s st) (ok:st.Ok s) (N:st.t.kind=Ge) (lC:st.decls.length<=900):
  Calls prog 37 #[.pointer (some ⟨g,0,none⟩)] w λe w'=>JP B ea w g gp bm s (decl s st) e w':=by
 have R:st.t.kind≠Cx:=by rw[N];decide
 rw[decl_eq s st R];obtain⟨S,T,rfl⟩:=h.decls.shape;have q0:=(Fy.start h).alloc (.cells #[vs st.t.kind,vs st.t.text,.int .i64 st.t.pos] 101);have r0:AE (w.alloc (.cells #[vs st.t.kind,vs st.t.text,.int .i64 st.t.pos] 101)) w.heap.size 101 [vs st.t.kind,vs st.t.text,.int .i64 st.t.pos]:=AE.new w _ _;have bz:=En q0.rd;obtain⟨_,_,c2,c3,c4,_⟩:=AX h.row;obtain⟨hB,hg,lI⟩:=zp3 h.env.size h.g0 h.lA;have e1:(st.t.kind==Cx)=false:=by simpa using R
 obtain⟨Q0,R0,HN,eX,HK⟩:=zq5 q0 r0 bz (Cc ok) N;clear q0 r0 bz h ok N R;unfold vs at*;go_enter nj,gC;go_wp2_with fail;refine HN.out.mono ?_;rintro e w1 ⟨rfl,U,h1⟩;have q1:=Q0.out.call U h1 rfl rfl rfl;have r1:=Q0.out.rowAt R0.out (by decide) U;have d0:=r1.cell 0;have hw:=Db q1.rd Cf;obtain⟨Q1,R1,HW⟩:=zq3 q1 r1 hw;clear q1 r1 hw U h1;simp at d0;unfold vs at*;go_wp2_with fail;refine HW.out.mono ?_;rintro e w2 r;cases j:want s Cf (next s st)with
 |bad k pos=>
  rw[j]at r;obtain⟨gf,rfl,hF⟩:=Fj Q1.out r;have y:=Aa j;clear j;go_wp2;refine⟨rfl,?_⟩;rw[y.out];exact⟨gf,rfl,hF⟩
 |ok a st1=>
  rw[j]at r;obtain⟨v,rfl,rfl,f,l8,mF,h2⟩:=r;have c:=(BF j).2.2;have bE:st1.Ok s:=by rw[c];exact Cc eX.out
  have q2:=(Q1.out.call f h2 (by rw[c];rfl) (by rw[c];rfl) (by rw[c];rfl)).alloc (.cells #[vs a.kind,vs a.text,.int .i64 a.pos] 101);have r2:=(Q1.out.rowAt R1.out (by decide) f).alloc (.cells #[vs a.kind,vs a.text,.int .i64 a.pos] 101);have x2:AE (w2.alloc (.cells #[vs a.kind,vs a.text,.int .i64 a.pos] 101)) w2.heap.size 101 [vs a.kind,vs a.text,.int .i64 a.pos]:=AE.new w2 _ _;have V:st1.decls=st.decls:=by rw[c];rfl
  have bH:st1.decls.length<=1000:=by rw[V];omega
  have z:=q2.drew;have A:=RR a.text gp st1.decls (.slice S st.decls.length T) _ z.rd.decls bH z.rd.ba.lt (z.rd.ba.cell 0);obtain⟨_,_,_,_,_,c5,_⟩:=AX q2.row;have bI:=x2.cell 1;simp at bI;have cy:st1.rules=st.rules:=by rw[c];rfl
  obtain⟨y,O,fb,Q2,R2,X2,fc⟩:=zq7 j bE V z r2 x2 A;clear f h2 q2 z r2 x2 j c bE V cy A d0;unfold IK vs at*;go_wp2_with fail
  (refine Ds 6 (by kernel_rfl) (by kernel_rfl) ?_;simp only[Au,AH,Av,AJ];repeat still_step)
  refine BS ?_;go_wp2_with fail;refine fc.out.mono ?_;rintro e w3 ⟨rfl,W⟩;have k3:Kg g ((w2.alloc (.cells #[vs a.kind,vs a.text,.int .i64 a.pos] 101)).drew) w3:=Jn W;have q3:=Q2.out.call k3 (Q2.out.rd.below W) rfl rfl rfl;have r3:=Q2.out.rowAt (R2.out.drew) (by decide) k3;have x3:=Q2.out.rowAt (X2.out.drew) (by decide) k3;obtain⟨Q3,R3,X3⟩:=zq3 q3 r3 x3;have cz:=Hb q3.rd 4 a.pos;have fd:=Aa cz;have n:=x3.cell 1;have C:=x3.cell 2;have E:w3.cell? ⟨4,0,none⟩=some (.iface 307 (.pointer (some (ea 4)))):=q3.rd.env.err 4 (by omega) (by omega);simp at n C;clear k3 q3 r3 x3 W cz c5 bI;go_upto_if 46 with fail;go_cut [] (λX=>∃G,Fy B ea g gp bm (.slice S st.decls.length T) s st w wp (Oh a st1) X G/\AE X w.heap.size 101 [vs st.t.kind,vs st.t.text,.int .i64 st.t.pos]/\AE X w2.heap.size 101 [vs a.kind,vs a.text,.int .i64 a.pos])
  case first=>
   by_cases K:0<=find st1.decls a.text
   ·have Y:decide (0<=find st1.decls a.text)=true:=by simpa using K
    have H:Oh a st1=note CW a.pos st1:=by unfold Oh;rw[Al K]
    have Z:=Aa H;clear H;unfold Dq at*;go_wp2_with fail;refine fd.out.mono ?_;rintro e w4 ⟨rfl,i,bg,h4⟩;have I:DO B ea w4 g gp bm (.slice S st.decls.length T) bg s (Oh a st1):=by rw[Z.out];exact h4
    obtain⟨a1,a2,a3⟩:=GC a st1;have F:=Aa (And.intro (Q3.out.call i I a1 a2 a3) (And.intro (Q3.out.rowAt R3.out (by decide) i) (Q3.out.rowAt X3.out (by decide) i)));clear h4 I i a1 a2 a3;go_wp2_with fail;go_meet;exact⟨_,F.out⟩
   ·have Y:decide (0<=find st1.decls a.text)=false:=by simpa using K
    have H:Oh a st1=st1:=by unfold Oh;rw[Ai K]
    have Z:=Aa H;clear H;go_wp2_with fail;go_meet;exact⟨_,by rw[Z.out];exact Q3.out,R3.out,X3.out⟩
  case rest=>
   obtain⟨G,q4,r4,x4⟩:=hcut;clear n C E;have d:(Oh a st1).decls.length=st.decls.length:=by rw[(GC a st1).1,fb.out]
   obtain⟨cY,n,C⟩:=zp3 (Hb q4.rd 9 a.pos) (x4.cell 1) (x4.cell 2);have E:wc.cell? ⟨5,0,none⟩=some (.iface 307 (.pointer (some (ea 9)))):=q4.rd.env.err 9 (by omega) (by omega);obtain⟨_,_,_,_,_,c5,_⟩:=AX q4.row;have p0:=q4.rd.ba.cell 0;obtain⟨Q4,R4,X4,fi,L⟩:=zq5 q4 r4 x4 cY d;clear q4 r4 x4 cY d;simp at n C p0;go_upto_if 60 with fail;go_cut [] (λX=>∃G,Fy B ea g gp bm (.slice S st.decls.length T) s st w wp (Bh a st1) X G/\AE X w.heap.size 101 [vs st.t.kind,vs st.t.text,.int .i64 st.t.pos]/\AE X w2.heap.size 101 [vs a.kind,vs a.text,.int .i64 a.pos])
   case first=>
    by_cases K:st.decls.length=8
    ·have Y:((st.decls.length:Int)==8)=true:=by simp;omega
     have H:Bh a st1=note N8 a.pos (Oh a st1):=by rw[Ga,L.out,Al K]
     have Z:=Aa H;clear H;unfold Dq at*;go_wp2_with fail;refine fi.out.mono ?_;rintro e w4 ⟨rfl,i,bg,h4⟩;have I:DO B ea w4 g gp bm (.slice S st.decls.length T) bg s (Bh a st1):=by rw[Z.out];exact h4
     obtain⟨a1,a2,a3⟩:=GC a st1;obtain⟨b1,b2,b3⟩:=Kc a st1;have F:=Aa (And.intro (Q4.out.call i I (b1.trans a1.symm) (b2.trans a2.symm) (b3.trans a3.symm)) (And.intro (Q4.out.rowAt R4.out (by decide) i) (Q4.out.rowAt X4.out (by decide) i)));clear h4 I i a1 a2 a3 b1 b2 b3;go_wp2_with fail;go_meet;exact⟨_,F.out⟩
    ·have Y:((st.decls.length:Int)==8)=false:=by simp;omega
     have H:Bh a st1=Oh a st1:=by rw[Ga,L.out,Ai K]
     have Z:=Aa H;clear H;go_wp2_with fail;go_meet;exact⟨_,by rw[Z.out];exact Q4.out,R4.out,X4.out⟩
   case rest=>
    obtain⟨G,q5,r5,x5⟩:=hcut;clear n C E c5 p0;have d0:=r5.cell 0;have n:=x5.cell 1;obtain⟨Q5,R5⟩:=zq2 q5 r5;clear q5 r5 x5;simp at d0 n;have l5:=Q5.out.row.lt;have l6:w.heap.size<wc.heap.size:=R5.out.lt;have N:=HK.out;have cZ:Cp st.t.kind=50:=by rw[N];decide
    have da:((Er st.t.kind:Nat):Int)=1:=by rw[N];decide
    rw[N]at d0;have q6:=Q5.out.alloc (.cells #[.int .i64 1,vs a.text,.int .i64 0] 83);have r6:AE (wc.alloc (.cells #[.int .i64 1,vs a.text,.int .i64 0] 83)) wc.heap.size 83 [.int .i64 1,vs a.text,.int .i64 0]:=AE.new wc _ _;have fp:w.heap.size<=wc.heap.size:=Q5.out.kg.size;have P:=IJ q6.rd (IZ a O.out) 1 50;obtain⟨Q6,R6,fP,bh,fR⟩:=zq5 q6 r6 P cZ da;clear q6 r6 P cZ da N;unfold vs at*;go_wp2_with fail;refine fP.out.mono ?_;rintro e w6 r;cases hx:number s 1 50 (Bh a st1)with
    |bad k pos=>
     rw[hx]at r;obtain⟨gf,rfl,hF⟩:=Fj Q6.out r;have HX:=Aa hx;clear hx;go_wp2;refine⟨rfl,?_⟩;rw[y.out];show JP _ _ _ _ _ _ _ ((number s 1 (Cp st.t.kind) (Bh a st1)).bind _) _ _;rw[bh.out,HX.out];exact⟨gf,rfl,hF⟩
    |ok m o=>
     rw[hx]at r;obtain⟨v,rfl,rfl,bj,mN,mQ,h7⟩:=r;have J:=(Gz (IZ a O.out) hx).1;have q7:=Q6.out.call bj h7 J.decls J.aD J.rules;have r7:=Q6.out.rowAt R6.out (by decide) bj;have q8:=q7.bF r7 fp (by decide) 2 (.int .i64 m);obtain⟨r8,d7,f7,dc,dh⟩:=zp5 (r7.bF 2 (.int .i64 m)) (r7.cell 2) (r7.frozen 2) (Db q8.rd AN) J.ok;have di:o.decls=st.decls:=q7.decls;obtain⟨HX,Q8,R8,gZ,ll,hH⟩:=zq6 hx q8 r8 dc dh di;clear hx bj h7 J q7 r7 q8 r8 dc dh di;simp at d7;go_wp2_with fail;refine gZ.out.mono ?_;rintro e Q r;cases q:want s AN o with
     |bad k pos=>
      rw[q]at r;obtain⟨gf,rfl,hF⟩:=Fj Q8.out r;have bn:=Aa q;clear q;go_wp2;refine⟨rfl,?_⟩;rw[y.out];show JP _ _ _ _ _ _ _ ((number s 1 (Cp st.t.kind) (Bh a st1)).bind _) _ _;rw[bh.out,HX.out];show JP _ _ _ _ _ _ _ ((want s AN o).bind _) _ _;rw[bn.out];exact⟨gf,rfl,hF⟩
     |ok tw M=>
      rw[q]at r;obtain⟨v,rfl,rfl,bo,mV,mW,h9⟩:=r;have x:=(BF q).2.2;have d:M.decls=o.decls:=by rw[x];rfl
      have dj:M.aD=o.aD:=by rw[x];rfl
      have dm:M.rules=o.rules:=by rw[x];rfl
      have q9:=Q8.out.call bo h9 d dj dm;have r9:=Q8.out.rowAt R8.out (by decide) bo;obtain⟨bn,L⟩:=zq2 q d;clear bo h9 x d dj dm q;obtain⟨_,_,_,_,_,c5,_⟩:=AX q9.row;obtain⟨p0,pf,x0,x1,x2,l0,l1,l2⟩:=zp8 (q9.rd.ba.cell 0) (q9.rd.ba.frozen 0) (r9.cell 0) (r9.cell 1) (r9.cell 2) q9.row.lt q9.rd.ba.lt r9.lt;simp at p0 x0 x1 x2;obtain⟨Q9,R9⟩:=zq2 q9 r9;clear q9 r9;go_wp2_with fail;have wA:World:=Q;obtain⟨i0,hI,hQ,hU,hY⟩:=Bg Vt;have b:=(Q9.out.alloc (.cells #[.int .i64 1,vs a.text,.int .i64 m] 83)).drew;have s1:=b.rd.decls;have d:M.decls=st.decls:=L.out.trans hH.out;rw[d]at s1;have S1:=Aa s1;have ic:wc.heap.size≠g:=R9.out.bt Q9.out.row (by decide);have dr:B<=((Q.alloc (.cells #[.int .i64 1,vs a.text,.int .i64 m] 83)).drew).heap.size/\((Q.alloc (.cells #[.int .i64 1,vs a.text,.int .i64 m] 83)).drew).heap.size≠g:=⟨b.rd.env.size,λe=>by have:=b.row.lt;omega⟩;have ie:=Aa dr;have dt:=C7 Q [.int .i64 1,vs a.text,.int .i64 m] 83;have ig:=Aa dt;have dv:∀u∈ [Value.int .i64 1,vs a.text,.int .i64 m],u.oneCell'=true:=by intro u hu;simp at hu;rcases hu with rfl|rfl|rfl<;>rfl
      have ii:=Aa dv;have ix:st.decls.length+1<=maxLen:=by unfold maxLen;omega
      have iy:(st.decls.length+1)*32<=140737488355328:=by omega
      have iG:(Q.alloc (.cells #[.int .i64 1,vs a.text,.int .i64 m] 83)).drew.frozen? ⟨gp,0,none⟩=false:=b.rd.ba.frozen 0;have pn:¬((Value.slice S st.decls.length T).ownBlock=some gp\/((Q.alloc (.cells #[.int .i64 1,vs a.text,.int .i64 m] 83)).drew).heap.size<=gp):=by
       rintro(hb|hb)
       ·exact b.rd.decls.bD b.rd.ba (by decide) hb
       ·exact absurd b.rd.ba.lt (CJ.2 hb)
      have PN:=Aa pn;have gn:¬((Value.slice S st.decls.length T).ownBlock=some g\/((Q.alloc (.cells #[.int .i64 1,vs a.text,.int .i64 m] 83)).drew).heap.size<=g):=by
       rintro(hb|hb)
       ·exact(b.rd.decls.2 g hb).2 rfl
       ·exact absurd b.row.lt (CJ.2 hb)
      have GN:=Aa gn;have b5:=(AX b.row).2.2.2.2.2.1;have b0:=b.rd.ba.cell 0;simp only[AI]at b0;have dy:=Aa b;clear b s1 dr dt dv pn gn ic;unfold vs at*
      go_region_law (first
       |(refine EI gz hI hQ hU hY rfl (by decide) S1.out ie.out rfl _ _ (by rfl) (by rfl) ⟨Q.heap.size,0,none⟩ 1 1 [.int .i64 1,.string ⟨a.text.toArray⟩,.int .i64 m] (by rfl) (by rfl) ig.out ii.out ix iy (by omega) ?_;intro g2 lB na dz f dA;have e1:=(f.cell (p:=⟨g,5,none⟩) GN.out).trans b5;have e0:=(f.cell (p:=⟨gp,0,none⟩) PN.out).trans b0;have e2:=(f.frozen (p:=⟨gp,0,none⟩) PN.out).trans iG;have iL:=Aa dz;have iM:=Aa f;clear dz f dA))
      all_goals
       go_wp2;go_end0;rw[y.out];show JP _ _ _ _ _ _ _ ((number s 1 (Cp st.t.kind) (Bh a st1)).bind _) _ _;rw[bh.out,HX.out];show JP _ _ _ _ _ _ _ ((want s AN o).bind _) _ _;rw[bn.out];have K:=dy.out.rd.iU ⟨Er st.t.kind,a.text,m⟩ (AG List.length d) (AG (λl=>l.flatMap Dv) d) (by unfold Dv;rw[fR.out]) iL.out iM.out (by rw[d];omega);exact⟨rfl,(Mu hB hg dy.out.kg).trans K.1,_,_,K.2⟩
end
end Go.Proofs.YtepoejiigmhlbaaGreatDoor.Ev
