/- Lemmas for a law's walk. Conditions: none. -/
import Derived.Test.YtepoejiigmhlbaaGreatDoorZa21
set_option linter.all false
set_option maxRecDepth 100000
set_option maxHeartbeats 8000000
namespace Go.Proofs.YtepoejiigmhlbaaGreatDoor.Ev
open _root_.Go.Proofs.Tryz
open Go Go.RowKit
section
variable {B:Nat}{w w':World}{gr gs gp:Nat}{vq vv vg:Value}{vl:List Value}{p:Ax}{c:J9}{key:Int}{r:DN}{X:Nat->Prop}
theorem tU (h:Dx B w gr gs gp vq vv vg vl p c key r 0) (hX:EM X w) (hg:r.gone.length<=3000000) {t:Nat}(ht:t<p.decls.length) (tl:Bool):
  Calls prog 122 #[.pointer (some ⟨gr,0,none⟩),.agg (BY (.put (t:Int) tl)).toArray] w (E6 B X w gr gs gp p c key (bG p key (.put (t:Int) tl) r)):=by
 have W:=h.row.cell 0;have Y:=h.row.cell 1;have rl:=h.row.lt;simp at W Y;have nr:¬gr=w.heap.size:=by omega
 have L:=Aa h.na;have a:bG p key (.put (t:Int) tl) r=(match r.s.find key with|some (k,i)=>JA p.decls (Bm (r.s.queue k) i) k t tl {r with s:=r.s.out k i}|none=>JA p.decls ⟨key,0⟩ (-1) t tl r):=rfl;generalize bG p key (.put (t:Int) tl) r=o at*;have z:=Aa a;clear a;obtain⟨HX,HH⟩:=zq2 hX h;clear h hX;unfold BY Du CQ G8 G9 C1 vs;go_enter GK,FF;obtain⟨M,D⟩:∃x,x=w.alloc (.cells #[.string ⟨Kx.toArray⟩,.int .i64 (t:Int),.int .i64 0,.bool tl,.string ⟨#[]⟩,.int .i64 0,.string ⟨#[]⟩,.int .i64 0,.string ⟨#[]⟩,.int .i64 0,.int .i64 0,A4,A4,.bool false] 262):=⟨_,rfl⟩;have K1:=Aa (show Ac (λb=>w.heap.size+1<=b) M M.drew from zAr.drew);have K0:=Aa (show Ac (λb=>w.heap.size<=b) w M.drew by rw[D];exact((Ac.refl _ w).alloc (Ab _) _).drew);obtain⟨HZ,Z⟩:=zq2 (show M.drew.heap.size=w.heap.size+1 by simp[C6,D]) D;clear D;go_upto_region 2 with fail;go_cut [4,5] (λs4 s5 wx=>s4= .int .i64 (fQ (r.s.find key))/\s5= .int .i64 (fI (r.s.find key))/\Ac (λb=>w.heap.size+1<=b) M wx)
 case first=>
  have D:=Z.out;subst D;generalize r.s.find key=FO at*
  go_region_law (first|(go_simp;go_at_call 99;refine(L.out _ K0.out).mono ?_;rintro x K ⟨rfl,g⟩;have H:=Aa g;clear g;unfold FC))
  all_goals go_wp2
  all_goals go_meet
  all_goals exact⟨rfl,rfl,K1.out.trans (H.out.mono (λb d=>by have:=HZ.out;omega))⟩
 obtain⟨rfl,rfl,k2⟩:=hcut;have D:=Z.out;subst D;have A:=je.of HH.out HX.out k2;obtain⟨b0,b1,b3,bl,W,Y,rl⟩:=zp7 (A.box.cell 0) (A.box.cell 1) (A.box.cell 3) A.box.lt (A.run.row.cell 0) (A.run.row.cell 1) A.run.row.lt;simp at b0 b1 b3 W Y;have m:=Aa A;clear A k2 HX Z L K1 K0 HZ;have I:Ac (λb=>wc.heap.size<=b) wc (wc.alloc (.cells #[.int .u64 key,.int .i64 0] 234)):=(Ac.refl _ wc).alloc (Ab _) _;have rE:=AE.new wc 234 [.int .u64 key,.int .i64 0];cases N:r.s.find key with
 |none=>
  have a:=z.out;rw[N]at a;simp only at a;have O:=Qf (m.out.run.later I) (m.out.dj.later I) (f:= -1) (.inl rfl) ht hg ⟨key,0⟩ tl;obtain⟨HC,HP,n⟩:=zq3 O a I;clear O a z I rE N;simp only[fQ,fI];go_wp2_with fail;refine HC.out.mono ?_;intro y K h2;obtain rfl:=Iv.ends h2;have F:=Aa h2;clear h2;go_wp2;go_end0;rw[HP.out];exact m.out.fin (Iv.pr (n.out.mono (λb d=>⟨Ad m.out.run.sz d,λP=>by have:=m.out.dj.lt P;omega⟩)) (λb d=>d) F.out)
 |some ki=>
  obtain⟨k,i⟩:=ki;obtain⟨l,U,hl,hi,bi,hq,Q⟩:=Ld N;have a:=z.out;rw[N]at a;simp only at a;have R:=(Aj.1 hi).1;have bj:k<p.decls.length:=by rw[←m.out.run.gi.q];exact(Aj.1 hl).1
  have bn:((k:Int)= -1\/Ix p.decls.length (k:Int)):=.inr ⟨by omega,by omega⟩;have J:Bm l i=U:=by unfold Bm;rw[hi];rfl
  rw[hq,J]at a;have u:=m.out.run.di m.out.dj I hl R;rw[J]at u;obtain⟨HO,HP,n,bo⟩:=zq4 u a I rE;clear u a z I rE N hl hi bi hq Q R bj J;simp only[fQ,fI];go_wp2_with fail;refine HO.out.mono ?_;rintro y K ⟨rfl,g,dc,hn⟩;have v:=bo.out.kept g (λd=>d.2 ⟨Ab _,by simp⟩);have e0:=v.cell 0;have e1:=v.cell 1;have ef:=λj=>v.frozen j;have el:=v.lt;have E:EM (λb=>X b\/b=w.heap.size) K:=(m.out.dj.later n.out).kept g (λb d hh=>hh.1.2 d);have C:=(m.out.box.kept n.out (by omega)).kept g (λd=>d.1.2 (.inr rfl));have d0:=C.cell 0;have d1:=C.cell 1;have d3:=C.cell 3;simp at e0 e1 d0 d1 d3;have ne:¬w.heap.size=wc.heap.size:=by omega
  obtain⟨HN,H,bp⟩:=zq3 hn g E;clear hn g E v C;go_wp2_with fail;have V:Ac (λb=>b=wc.heap.size) K ((K.setCell ⟨wc.heap.size,0,none⟩ (.int .u64 U.key)).setCell ⟨wc.heap.size,1,none⟩ (.int .i64 U.aD)):=Ac.setCell (S:=λb=>b=wc.heap.size) (Ac.setCell (S:=λb=>b=wc.heap.size) (Ac.refl _ K) (p:=⟨wc.heap.size,0,none⟩) rfl _) (p:=⟨wc.heap.size,1,none⟩) rfl _;have T:=HN.out _ (V.mono (λb d=>by subst d;exact⟨Ab _,by simp⟩));have G:=bp.out.kept V (λb d e=>by subst e;rcases d with d|d;exact absurd (m.out.dj.lt (.inl d)) (Nat.lt_irrefl _);omega);have O:=Qf T G bn ht hg U tl;refine O.mono ?_;intro y w4 h4;obtain rfl:=Iv.ends h4;obtain⟨F,K3⟩:=zq2 h4 V;clear h4 V O T G;go_wp2;go_end0;rw[HP.out];refine m.out.fin (Iv.pr (((n.out.mono (λb d=>⟨Ad m.out.run.sz d,λP=>by have:=m.out.dj.lt P;omega⟩)).trans (H.out.mono (λb d=>d.1))).trans (K3.out.mono (λb d=>?_))) (λb d=>d) F.out);subst d;exact⟨m.out.run.sz,λP=>absurd (m.out.dj.lt P) (Nat.lt_irrefl _)⟩
end
section
variable {B:Nat}{w w':World}{gr gs gp:Nat}{vq vv vg:Value}{vl:List Value}{p:Ax}{c:J9}{key:Int}{r:DN}{X:Nat->Prop}
theorem nJ (h:Dx B w gr gs gp vq vv vg vl p c key r 0) (S:EM X w) (hg:r.gone.length<=3000000):
  Calls prog 122 #[.pointer (some ⟨gr,0,none⟩),.agg (BY (.drop)).toArray] w (E6 B X w gr gs gp p c key (bG p key (.drop) r)):=by
 have I:=h.row.cell 0;have J:=h.row.cell 1;have rl:=h.row.lt;simp at I J;have nr:¬gr=w.heap.size:=by omega
 have v:=Aa h.na;have a:bG p key .drop r=(match r.s.find key with|some (k,i)=>.ok (DN.leaves p.decls k key {r with s:=r.s.out k i})|none=>.ok r):=rfl;generalize bG p key .drop r=o at*;have e:=Aa a;clear a;obtain⟨T,HH⟩:=zq2 S h;clear h S;unfold BY Du CQ G8 G9 C1 vs;go_enter GK,FF;obtain⟨z,j⟩:∃x,x=w.alloc (.cells #[.string ⟨IW.toArray⟩,.int .i64 0,.int .i64 0,.bool false,.string ⟨#[]⟩,.int .i64 0,.string ⟨#[]⟩,.int .i64 0,.string ⟨#[]⟩,.int .i64 0,.int .i64 0,A4,A4,.bool false] 262):=⟨_,rfl⟩;have U:=Aa (show Ac (λb=>w.heap.size+1<=b) z z.drew from zAr.drew);have V:=Aa (show Ac (λb=>w.heap.size<=b) w z.drew by rw[j];exact((Ac.refl _ w).alloc (Ab _) _).drew);obtain⟨W,K⟩:=zq2 (show z.drew.heap.size=w.heap.size+1 by simp[C6,j]) j;clear j;go_upto_region 2 with fail;go_cut [4,5] (λs4 s5 wx=>s4= .int .i64 (fQ (r.s.find key))/\s5= .int .i64 (fI (r.s.find key))/\Ac (λb=>w.heap.size+1<=b) z wx)
 case first=>
  have j:=K.out;subst j;generalize r.s.find key=FO at*
  go_region_law (first|(go_simp;go_at_call 99;refine(v.out _ V.out).mono ?_;rintro x L ⟨rfl,d⟩;have t:=Aa d;clear d;unfold FC))
  all_goals go_wp2
  all_goals go_meet
  all_goals exact⟨rfl,rfl,U.out.trans (t.out.mono (λb H=>by have:=W.out;omega))⟩
 obtain⟨rfl,rfl,Y⟩:=hcut;have j:=K.out;subst j;have f:=je.of HH.out T.out Y;obtain⟨b0,b1,b3,bl,I,J,rl⟩:=zp7 (f.box.cell 0) (f.box.cell 1) (f.box.cell 3) f.box.lt (f.run.row.cell 0) (f.run.row.cell 1) f.run.row.lt;simp at b0 b1 b3 I J;have u:=Aa f;clear f Y T K v U V W;cases A:r.s.find key with
 |none=>
  have a:=e.out;rw[A]at a;simp only at a;have M:=Aa a;clear a e A;simp only[fQ,fI];go_wp2;go_end0;rw[M.out];refine u.out.fin ?_;exact⟨rfl,Ac.refl _ _,_,_,_,_,u.out.run⟩
 |some ki=>
  obtain⟨k,i⟩:=ki;obtain⟨l,en,N,Z,O,hq,C⟩:=Ld A;have a:=e.out;rw[A]at a;simp only at a;have D:=(Aj.1 Z).1;have P:k<p.decls.length:=by rw[←u.out.run.gi.q];exact(Aj.1 N).1
  have Q:((k:Int)= -1\/Ix p.decls.length (k:Int)):=.inr ⟨by omega,by omega⟩;have m:=u.out.run.di u.out.dj zAr N D;obtain⟨HO,M⟩:=zq2 m a;clear m a e A N Z O hq C D P;simp only[fQ,fI];go_wp2_with fail;refine HO.out.mono ?_;rintro y L ⟨rfl,d,bu,hn⟩;have g:=hn L zAr;have n:EM (λb=>X b\/b=w.heap.size) L:=u.out.dj.kept d (λb H hh=>hh.1.2 H);have d1:=g.row.cell 1;have dl:=g.row.lt;simp at d1;have E:=OH g n Q hg key;obtain⟨R,t⟩:=zq2 E d;clear hn d n g E;go_wp2_with fail;refine R.out.mono ?_;rintro y w4 ⟨rfl,F,G⟩;have F4:=Aa (And.intro F G);clear F G;go_wp2;go_end0;rw[M.out];refine u.out.fin ?_;exact⟨rfl,(t.out.mono (λb H=>H.1)).trans F4.out.1,F4.out.2⟩
end
section
variable {B:Nat}{w w':World}{gr gs gp:Nat}{vq vv vg:Value}{vl:List Value}{p:Ax}{c:J9}{key:Int}{r:DN}{X:Nat->Prop}{e:Nat}{gv cv:Nat}
theorem ZM (h:Dx B w gr gs gp vq vv vg vl p c key r e) {m:Nat}(l:m<p.decls.length):∃gv cv,vv= .slice (some ⟨gv,0,none⟩) r.s.vars.length cv/\r.s.vars.length<=cv/\cv<=9223372036854775807/\gv<w.heap.size/\m<r.s.vars.length/\w.cell? ⟨gv,m,none⟩=some (.int .i64 (r.s.var (m:Int)))/\w.frozen? ⟨gv,m,none⟩=false:=by
 have j:r.s.vars.length=p.decls.length:=h.gi.v;obtain⟨gv,cv,rfl,_,d,a,f⟩:=h.st.v.form (by omega);have i:=h.st.v.1.cellAt m (by simp;omega);have k:(r.s.vars.map Jv)[m]?=some (.int .i64 (r.s.var (m:Int))):=by unfold St.var;rw[As,At,Ae (by omega)];rfl
 rw[k]at i;obtain⟨cs,b⟩:=h.st.v.row (g:=gv) rfl;unfold maxLen at a;exact⟨gv,cv,rfl,d,a,f,by omega,i,b.frozen m⟩
theorem Dx.qf (h:Dx B w gr gs gp vq (.slice (some ⟨gv,0,none⟩) r.s.vars.length cv) vg vl p c key r e) (u:EM X w) (m:Nat) (n:Int):
  Dx B (w.setCell ⟨gv,m,none⟩ (.int .i64 n)) gr gs gp vq (.slice (some ⟨gv,0,none⟩) r.s.vars.length cv) vg vl p c key {r with s:={r.s with vars:=r.s.vars.set m n}} e/\Ac (λb=>B<=b/\¬X b) w (w.setCell ⟨gv,m,none⟩ (.int .i64 n)):=by
 have d:=(h.apart.jl u).v.2 gv rfl;have f:Ac (λb=>b=gv) w (w.setCell ⟨gv,m,none⟩ (.int .i64 n)):=Ac.one w ⟨gv,m,none⟩ _;obtain⟨cs,j⟩:=h.st.v.row (g:=gv) rfl;have a:=h.apart.q;have k:Es (λb=>(B<=b/\b≠gr)/\vg.ownBlock≠some b) (w.setCell ⟨gv,m,none⟩ (.int .i64 n)) gs gp vq (.slice (some ⟨gv,0,none⟩) r.s.vars.length cv) {r.s with vars:=r.s.vars.set m n} c vl:=by refine⟨h.apart.row.kept f (λe=>h.apart.row.bt j (by decide) e),⟨a.outer.kept f (λb d e=>a.outer.bD j (by decide) (e▸d)),a.len,λi v l o t=>(a.inner i v l o t).kept f (λb d e=>(a.inner i v l o t).bD j (by decide) (e▸d)),a.dc⟩,?_,h.apart.sg⟩;exact Sl.pR Jv h.apart.v rfl n
 exact h.dv (f.mono (λb e=>e▸d)) k ⟨h.gi.q,by simpa using h.gi.v,h.gi.len⟩
theorem tV (h:Dx B w gr gs gp vq vv vg vl p c key r 0) (H:EM X w) (g:GI p r.s) {m:Nat}(j:m<p.decls.length):
  Calls prog 122 #[.pointer (some ⟨gr,0,none⟩),.agg (BY (.inc (m:Int))).toArray] w (E6 B X w gr gs gp p c key (bG p key (.inc (m:Int)) r)):=by
 have z:=h.row.cell 0;have A:=h.row.cell 1;have R:=h.row.lt;simp at z A;have nr:¬gr=w.heap.size:=by omega
 have k:=Aa h.na;have l:bG p key (.inc (m:Int)) r= .ok (if r.s.var (m:Int)<(Aq p.decls (m:Int)).max then {r with s:={r.s with vars:=r.s.vars.set m (r.s.var (m:Int)+1)}}else r):=rfl;generalize bG p key (.inc (m:Int)) r=o at*;have n:=Aa l;have S:0<=r.s.var (m:Int)/\r.s.var (m:Int)<=99:=by
  have q:m<r.s.vars.length:=by rw[g.1.v];exact j
  have h1:=g.1.vr m _ (Ae q);have e:r.s.var (m:Int)=r.s.vars[m]:=by unfold St.var;rw[As,Ae q];rfl
  rw[e];have C:Aq p.decls (m:Int)∈p.decls:=by unfold Aq;rw[As,Ae j];exact Ed j
  have T:=(h.pw.decls.each _ C).hi;split at T<;>omega
 clear l g;obtain⟨I,U⟩:=zq2 H h;clear h H;unfold BY Du CQ G8 G9 C1 vs;go_enter GK,FF;obtain⟨t,f⟩:∃x,x=w.alloc (.cells #[.string ⟨Mb.toArray⟩,.int .i64 (m:Int),.int .i64 0,.bool false,.string ⟨#[]⟩,.int .i64 0,.string ⟨#[]⟩,.int .i64 0,.string ⟨#[]⟩,.int .i64 0,.int .i64 0,A4,A4,.bool false] 262):=⟨_,rfl⟩;have J:=Aa (show Ac (λb=>w.heap.size+1<=b) t t.drew from zAr.drew);have K:=Aa (show Ac (λb=>w.heap.size<=b) w t.drew by rw[f];exact((Ac.refl _ w).alloc (Ab _) _).drew);obtain⟨M,D⟩:=zq2 (show t.drew.heap.size=w.heap.size+1 by simp[C6,f]) f;clear f;go_upto_region 2 with fail;go_cut [4,5] (λW Y Z=>W= .int .i64 (fQ (r.s.find key))/\Y= .int .i64 (fI (r.s.find key))/\Ac (λb=>w.heap.size+1<=b) t Z)
 case first=>
  have f:=D.out;subst f;generalize r.s.find key=FO at*
  go_region_law (first|(go_simp;go_at_call 99;refine(k.out _ K.out).mono ?_;rintro x w2 ⟨rfl,u⟩;have E:=Aa u;clear u;unfold FC))
  all_goals go_wp2
  all_goals go_meet
  all_goals exact⟨rfl,rfl,J.out.trans (E.out.mono (λb hb=>by have:=M.out;omega))⟩
 obtain⟨rfl,rfl,N⟩:=hcut;have f:=D.out;subst f;have d:=je.of U.out I.out N;obtain⟨b0,b1,b3,bl,z,A,R⟩:=zp7 (d.box.cell 0) (d.box.cell 1) (d.box.cell 3) d.box.lt (d.run.row.cell 0) (d.run.row.cell 1) d.run.row.lt;simp at b0 b1 b3 z A;have a:=Aa d;clear d N I D k J K M;obtain⟨gv,cv,F,v1,v2,v3,v4,v5,v6⟩:=ZM a.out.run j;obtain⟨gd,cd,f0,f1,f2,f3,f4,f5,f6,f7⟩:=a.out.run.ba.decl j;have g0:=a.out.run.st.row.cell 0;have g2:=a.out.run.st.row.cell 2;have sl:=a.out.run.st.row.lt;simp at g0 g2;subst F;unfold maxLen at f2;generalize r.s.var (m:Int)=V at*;generalize (Aq p.decls (m:Int)).max=G at*;generalize O:r.s.vars.length=L at*;generalize p.decls.length=dl at*;have HL:=Aa O;clear f5 f6 O;by_cases y:V<G
 ·have e1:decide (V<G)=true:=DX y;have i:=Aa y;go_wp2;go_region;go_wp2;go_region
  all_goals
   go_wp2;go_end0;rw[n.out,Al i.out];refine a.out.fin ?_;have P:=a.out.run;rw[←HL.out]at P;have Q:=P.qf a.out.dj m (V+1);exact Q.1.lJ a.out.dj Q.2 (zAr.drew.drew)
 ·have e1:decide (V<G)=false:=Ck y;have i:=Aa y;go_wp2;go_region;go_wp2;go_end0;rw[n.out,Ai (by have:=i.out;omega)];refine a.out.fin ?_;exact a.out.run.lJ a.out.dj zAr (zAr.drew)
theorem tW (h:Dx B w gr gs gp vq vv vg vl p c key r 0) (G:EM X w) (g:GI p r.s) {m:Nat}(j:m<p.decls.length):
  Calls prog 122 #[.pointer (some ⟨gr,0,none⟩),.agg (BY (.dec (m:Int))).toArray] w (E6 B X w gr gs gp p c key (bG p key (.dec (m:Int)) r)):=by
 have z:=h.row.cell 0;have A:=h.row.cell 1;have Q:=h.row.lt;simp at z A;have nr:¬gr=w.heap.size:=by omega
 have k:=Aa h.na;have l:bG p key (.dec (m:Int)) r= .ok (if 0<r.s.var (m:Int)then {r with s:={r.s with vars:=r.s.vars.set m (r.s.var (m:Int)-1)}}else r):=rfl;generalize bG p key (.dec (m:Int)) r=o at*;have n:=Aa l;have R:0<=r.s.var (m:Int)/\r.s.var (m:Int)<=99:=by
  have q:m<r.s.vars.length:=by rw[g.1.v];exact j
  have h1:=g.1.vr m _ (Ae q);have e:r.s.var (m:Int)=r.s.vars[m]:=by unfold St.var;rw[As,Ae q];rfl
  rw[e];have C:Aq p.decls (m:Int)∈p.decls:=by unfold Aq;rw[As,Ae j];exact Ed j
  have S:=(h.pw.decls.each _ C).hi;split at S<;>omega
 clear l g;obtain⟨H,T⟩:=zq2 G h;clear h G;unfold BY Du CQ G8 G9 C1 vs;go_enter GK,FF;obtain⟨t,f⟩:∃x,x=w.alloc (.cells #[.string ⟨Mc.toArray⟩,.int .i64 (m:Int),.int .i64 0,.bool false,.string ⟨#[]⟩,.int .i64 0,.string ⟨#[]⟩,.int .i64 0,.string ⟨#[]⟩,.int .i64 0,.int .i64 0,A4,A4,.bool false] 262):=⟨_,rfl⟩;have I:=Aa (show Ac (λb=>w.heap.size+1<=b) t t.drew from zAr.drew);have J:=Aa (show Ac (λb=>w.heap.size<=b) w t.drew by rw[f];exact((Ac.refl _ w).alloc (Ab _) _).drew);obtain⟨K,D⟩:=zq2 (show t.drew.heap.size=w.heap.size+1 by simp[C6,f]) f;clear f;go_upto_region 2 with fail;go_cut [4,5] (λU W Y=>U= .int .i64 (fQ (r.s.find key))/\W= .int .i64 (fI (r.s.find key))/\Ac (λb=>w.heap.size+1<=b) t Y)
 case first=>
  have f:=D.out;subst f;generalize r.s.find key=FO at*
  go_region_law (first|(go_simp;go_at_call 99;refine(k.out _ J.out).mono ?_;rintro x w2 ⟨rfl,u⟩;have E:=Aa u;clear u;unfold FC))
  all_goals go_wp2
  all_goals go_meet
  all_goals exact⟨rfl,rfl,I.out.trans (E.out.mono (λb hb=>by have:=K.out;omega))⟩
 obtain⟨rfl,rfl,M⟩:=hcut;have f:=D.out;subst f;have d:=je.of T.out H.out M;obtain⟨Z,b1,b3,bl,z,A,Q⟩:=zp7 (d.box.cell 0) (d.box.cell 1) (d.box.cell 3) d.box.lt (d.run.row.cell 0) (d.run.row.cell 1) d.run.row.lt;simp at Z b1 b3 z A;have a:=Aa d;clear d M H D k I J K;obtain⟨gv,cv,F,v1,v2,v3,v4,v5,v6⟩:=ZM a.out.run j;obtain⟨gd,cd,f0,f1,f2,f3,f4,f5,f6,f7⟩:=a.out.run.ba.decl j;have g0:=a.out.run.st.row.cell 0;have g2:=a.out.run.st.row.cell 2;have sl:=a.out.run.st.row.lt;simp at g0 g2;subst F;unfold maxLen at f2;generalize r.s.var (m:Int)=V at*;generalize (Aq p.decls (m:Int)).max=mx at*;generalize N:r.s.vars.length=L at*;generalize p.decls.length=dl at*;have HL:=Aa N;clear f5 f6 N;by_cases y:0<V
 ·have e1:decide (0<V)=true:=DX y;have i:=Aa y;go_wp2;go_region;go_wp2;go_region
  all_goals
   go_wp2;go_end0;rw[n.out,Al i.out];refine a.out.fin ?_;have O:=a.out.run;rw[←HL.out]at O;have P:=O.qf a.out.dj m (V-1);exact P.1.lJ a.out.dj P.2 (zAr.drew.drew)
 ·have e1:decide (0<V)=false:=Ck y;have i:=Aa y;go_wp2;go_region;go_wp2;go_end0;rw[n.out,Ai (by have:=i.out;omega)];refine a.out.fin ?_;exact a.out.run.lJ a.out.dj zAr (zAr.drew)
end
end Go.Proofs.YtepoejiigmhlbaaGreatDoor.Ev
