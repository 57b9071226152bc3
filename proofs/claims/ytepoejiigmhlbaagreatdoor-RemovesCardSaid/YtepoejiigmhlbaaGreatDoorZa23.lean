/- Lemmas for a law's walk. Conditions: none. -/
import Derived.Test.YtepoejiigmhlbaaGreatDoorZa21
set_option linter.all false
set_option maxRecDepth 100000
set_option maxHeartbeats 8000000
namespace Go.Proofs.YtepoejiigmhlbaaGreatDoor.Ev
open _root_.Go.Proofs.Tryz
open Go Go.RowKit
section
variable {B:Nat}{w w':World}{gr gs gp:Nat}{vq vv vg:Value}{vl:List Value}{p:Ax}{c:J9}{key:Int}{r:DN}{X:Nat->Prop}
theorem nL (h:Dx B w gr gs gp vq vv vg vl p c key r 0) (hX:EM X w) (z:∀l∈r.s.q,∀x∈l,0<=x.aD/\x.aD<=1000):
  Calls prog 122 #[.pointer (some ⟨gr,0,none⟩),.agg (BY (.bump)).toArray] w (E6 B X w gr gs gp p c key (bG p key (.bump) r)):=by
 have S:=h.row.cell 0;have T:=h.row.cell 1;have rl:=h.row.lt;simp at S T;have nr:¬gr=w.heap.size:=by omega
 have D:=Aa h.na;have a:bG p key .bump r=(match r.s.find key with|some (k,i)=>.ok (if(Bm (r.s.queue k) i).aD<p.aD then {r with s:=r.s.bf k (gY (r.s.queue k) i ((Bm (r.s.queue k) i).aD+1))}else r)|none=>.ok r):=rfl;generalize bG p key .bump r=o at*;have e:=Aa a;clear a;obtain⟨HX,HH⟩:=zq2 hX h;clear h hX;unfold BY Du CQ G8 G9 C1 vs;go_enter GK,FF;obtain⟨E,t⟩:∃x,x=w.alloc (.cells #[.string ⟨IX.toArray⟩,.int .i64 0,.int .i64 0,.bool false,.string ⟨#[]⟩,.int .i64 0,.string ⟨#[]⟩,.int .i64 0,.string ⟨#[]⟩,.int .i64 0,.int .i64 0,A4,A4,.bool false] 262):=⟨_,rfl⟩;have K1:=Aa (show Ac (λb=>w.heap.size+1<=b) E E.drew from zAr.drew);have K0:=Aa (show Ac (λb=>w.heap.size<=b) w E.drew by rw[t];exact((Ac.refl _ w).alloc (Ab _) _).drew);obtain⟨HZ,U⟩:=zq2 (show E.drew.heap.size=w.heap.size+1 by simp[C6,t]) t;clear t;go_upto_region 2 with fail;go_cut [4,5] (λs4 s5 wx=>s4= .int .i64 (fQ (r.s.find key))/\s5= .int .i64 (fI (r.s.find key))/\Ac (λb=>w.heap.size+1<=b) E wx)
 case first=>
  have t:=U.out;subst t;generalize r.s.find key=FO at*
  go_region_law (first|(go_simp;go_at_call 99;refine(D.out _ K0.out).mono ?_;rintro x w2 ⟨rfl,F⟩;have V:=Aa F;clear F;unfold FC))
  all_goals go_wp2
  all_goals go_meet
  all_goals exact⟨rfl,rfl,K1.out.trans (V.out.mono (λb hb=>by have:=HZ.out;omega))⟩
 obtain⟨rfl,rfl,k2⟩:=hcut;have t:=U.out;subst t;have f:=je.of HH.out HX.out k2;obtain⟨b0,b1,b3,bl,S,T,rl⟩:=zp7 (f.box.cell 0) (f.box.cell 1) (f.box.cell 3) f.box.lt (f.run.row.cell 0) (f.run.row.cell 1) f.run.row.lt;simp at b0 b1 b3 S T;have d:=Aa f;clear f k2 HX U D K1 K0 HZ;have g0:=d.out.run.st.row.cell 0;have g1:=d.out.run.st.row.cell 1;have sl:=d.out.run.st.row.lt;simp at g0 g1;have W:wc.cell? ⟨gp,1,none⟩=some (.int .i64 p.aD)/\gp<wc.heap.size:=by obtain⟨vd,vr,vh,vm,hs,rs,h1,_⟩:=d.out.run.ba;exact⟨h1.cell 1,h1.lt⟩
 obtain⟨f0,f1⟩:=W;cases G:r.s.find key with
 |none=>
  have a:=e.out;rw[G]at a;simp only at a;have N:=Aa a;clear a e G z;simp only[fQ,fI];go_wp2;go_region;go_wp2;go_end0;rw[N.out];refine d.out.fin ?_;exact d.out.run.lJ d.out.dj zAr (zAr.drew)
 |some ki=>
  obtain⟨k,i⟩:=ki;obtain⟨O,H,m,C,Y,hq,u⟩:=Ld G;have a:=e.out;rw[G]at a;simp only[u]at a;rw[hq]at a;have I:k<p.decls.length:=by rw[←d.out.run.gi.q];exact(Aj.1 m).1
  obtain⟨gq,cq,l,al,cl,Z,q1,q2,q3,hm,P,cL,be,d0,J,n⟩:=d.out.run.queue I;have e0:O=l:=by rw[m]at P;injection P
  subst e0;subst Z;have cX:=(Aj.1 C).1;obtain⟨gl,cZ,el,_,q4,q5,q6⟩:=n.form (by omega);injection el with bg dc bh;subst bg bh;have x1:=n.at_ (λ_=>rfl) C (j:=1) (by omega);simp[Cd]at x1;have di:=z O (Aw m) H (Aw C);obtain⟨cs,K⟩:=n.row (g:=gl) rfl;have fl:=K.frozen (i*2+1);have v:r.s.bf (k:Int) (gY O i (H.aD+1))={r.s with q:=r.s.q.set k (O.set i {H with aD:=H.aD+1})}:=by unfold St.bf gY Bm;rw[C,As];rfl
  rw[v]at a;have L:=λ(y:Int)=>d.out.run.oc d.out.dj J P C y;obtain⟨N,HE⟩:=zq2 a L;unfold maxLen at q2 q5;generalize M:H.aD=Q at*;have dr:=Aa M;clear a e G m Y hq u I P be J n K v L M z C;simp only[fQ,fI];by_cases R:Q<p.aD
  ·have e1:decide (Q<p.aD)=true:=DX R;have A:=Aa R;go_wp2;go_region;go_wp2;go_end0;rw[N.out,Al A.out];refine d.out.fin ?_;have L:=HE.out (Q+1);exact L.1.lJ d.out.dj L.2 (by with_reducible first|exact Ac.refl _ _|exact zAr.drew|exact(zAr.drew).drew)
  ·have e1:decide (Q<p.aD)=false:=Ck R;have A:=Aa R;go_wp2;go_region;go_wp2;go_end0;rw[N.out,Ai (by have:=A.out;omega)];refine d.out.fin ?_;exact d.out.run.lJ d.out.dj zAr (zAr.drew)
end
section
variable {B:Nat}{w w':World}{gr gs gp:Nat}{vq vv vg:Value}{vl:List Value}{p:Ax}{c:J9}{key:Int}{r:DN}{X:Nat->Prop}
theorem E6.ends {B:Nat}{X:Nat->Prop}{w w':World}{gr gs gp:Nat}{p:Ax}{c:J9}{key:Int}{o:Except Nat DN}{y:Ending}(h:E6 B X w gr gs gp p c key o y w'):y= .returned (.tuple #[]):=by
 cases o with
 |ok r'=>exact h.1
 |error k=>
  obtain⟨r',a,_⟩:=h;exact a
theorem jq (h:Dx B w gr gs gp vq vv vg vl p c key r 0) (E:EM X w) (O:r.gone.length<=3000000) {q:Nat}(P:q<p.decls.length):
  Calls prog 122 #[.pointer (some ⟨gr,0,none⟩),.agg (BY (.bx (q:Int))).toArray] w (E6 B X w gr gs gp p c key (bG p key (.bx (q:Int)) r)):=by
 have l:=h.row.cell 0;have m:=h.row.cell 1;have Q:=h.row.lt;simp at l m;have nr:¬gr=w.heap.size:=by omega
 have f:=Aa h.na;generalize G:bG p key (.bx (q:Int)) r=o at*;have n:=Aa G;clear G;obtain⟨H,R⟩:=zq2 E h;clear h E;unfold BY Du CQ G8 G9 C1 vs;go_enter GK,FF;obtain⟨g,e⟩:∃x,x=w.alloc (.cells #[.string ⟨Ep.toArray⟩,.int .i64 (q:Int),.int .i64 0,.bool false,.string ⟨#[]⟩,.int .i64 0,.string ⟨#[]⟩,.int .i64 0,.string ⟨#[]⟩,.int .i64 0,.int .i64 0,A4,A4,.bool false] 262):=⟨_,rfl⟩;have I:=Aa (show Ac (λb=>w.heap.size+1<=b) g g.drew from zAr.drew);have J:=Aa (show Ac (λb=>w.heap.size<=b) w g.drew by rw[e];exact((Ac.refl _ w).alloc (Ab _) _).drew);obtain⟨K,t⟩:=zq2 (show g.drew.heap.size=w.heap.size+1 by simp[C6,e]) e;clear e;go_upto_region 2 with fail;go_cut [4,5] (λS T U=>S= .int .i64 (fQ (r.s.find key))/\T= .int .i64 (fI (r.s.find key))/\Ac (λb=>w.heap.size+1<=b) g U)
 case first=>
  have e:=t.out;subst e;generalize r.s.find key=FO at*
  go_region_law (first|(go_simp;go_at_call 99;refine(f.out _ J.out).mono ?_;rintro x V ⟨rfl,i⟩;have u:=Aa i;clear i;unfold FC))
  all_goals go_wp2
  all_goals go_meet
  all_goals exact⟨rfl,rfl,I.out.trans (u.out.mono (λb L=>by have:=K.out;omega))⟩
 obtain⟨rfl,rfl,M⟩:=hcut;have e:=t.out;subst e;have d:=je.of R.out H.out M;obtain⟨W,Y,Z,bl,l,m,Q⟩:=zp7 (d.box.cell 0) (d.box.cell 1) (d.box.cell 3) d.box.lt (d.run.row.cell 0) (d.run.row.cell 1) d.run.row.lt;simp at W Y Z l m;have a:=Aa d;clear d M H t f I J K;have k:=aj a.out.run a.out.dj O P;rw[n.out]at k;unfold BY Du CQ G8 G9 C1 vs at k;have v:=Aa k;obtain⟨b2,b4,b5,b6,b7,b8,b9,z⟩:=zp8 (a.out.box.cell 2) (a.out.box.cell 4) (a.out.box.cell 5) (a.out.box.cell 6) (a.out.box.cell 7) (a.out.box.cell 8) (a.out.box.cell 9) (a.out.box.cell 10);have A:=a.out.box.cell 11;have C:=a.out.box.cell 12;have D:=a.out.box.cell 13;simp at b2 b4 b5 b6 b7 b8 b9 z A C D;clear k;go_wp2_with fail;refine v.out.mono ?_;intro y V N;have j:=Iv.pr zAr (λb L=>L) N;have F:=Aa j;clear N j;obtain rfl:=E6.ends F.out;go_wp2;go_end0;exact a.out.fin F.out
theorem nK (h:Dx B w gr gs gp vq vv vg vl p c key r 0) (H:EM X w) (m:∀l∈r.s.q,∀x∈l,x.aD<=9223372036854775807) {q:Nat}(Q:q<p.decls.length):
  Calls prog 122 #[.pointer (some ⟨gr,0,none⟩),.agg (BY (.dz (q:Int))).toArray] w (E6 B X w gr gs gp p c key (bG p key (.dz (q:Int)) r)):=by
 have n:=h.row.cell 0;have t:=h.row.cell 1;have R:=h.row.lt;simp at n t;have nr:¬gr=w.heap.size:=by omega
 have f:=Aa h.na;generalize I:bG p key (.dz (q:Int)) r=o at*;have u:=Aa I;clear I;obtain⟨J,S⟩:=zq2 H h;clear h H;unfold BY Du CQ G8 G9 C1 vs;go_enter GK,FF;obtain⟨g,e⟩:∃x,x=w.alloc (.cells #[.string ⟨Ig.toArray⟩,.int .i64 (q:Int),.int .i64 0,.bool false,.string ⟨#[]⟩,.int .i64 0,.string ⟨#[]⟩,.int .i64 0,.string ⟨#[]⟩,.int .i64 0,.int .i64 0,A4,A4,.bool false] 262):=⟨_,rfl⟩;have K:=Aa (show Ac (λb=>w.heap.size+1<=b) g g.drew from zAr.drew);have L:=Aa (show Ac (λb=>w.heap.size<=b) w g.drew by rw[e];exact((Ac.refl _ w).alloc (Ab _) _).drew);obtain⟨M,v⟩:=zq2 (show g.drew.heap.size=w.heap.size+1 by simp[C6,e]) e;clear e;go_upto_region 2 with fail;go_cut [4,5] (λT U V=>T= .int .i64 (fQ (r.s.find key))/\U= .int .i64 (fI (r.s.find key))/\Ac (λb=>w.heap.size+1<=b) g V)
 case first=>
  have e:=v.out;subst e;generalize r.s.find key=FO at*
  go_region_law (first|(go_simp;go_at_call 99;refine(f.out _ L.out).mono ?_;rintro x W ⟨rfl,i⟩;have z:=Aa i;clear i;unfold FC))
  all_goals go_wp2
  all_goals go_meet
  all_goals exact⟨rfl,rfl,K.out.trans (z.out.mono (λb N=>by have:=M.out;omega))⟩
 obtain⟨rfl,rfl,O⟩:=hcut;have e:=v.out;subst e;have d:=je.of S.out J.out O;obtain⟨Y,Z,b3,bl,n,t,R⟩:=zp7 (d.box.cell 0) (d.box.cell 1) (d.box.cell 3) d.box.lt (d.run.row.cell 0) (d.run.row.cell 1) d.run.row.lt;simp at Y Z b3 n t;have a:=Aa d;clear d O J v f K L M;have k:=dZ a.out.run a.out.dj m Q;rw[u.out]at k;unfold BY Du CQ G8 G9 C1 vs at k;have A:=Aa k;obtain⟨b2,b4,b5,b6,b7,b8,b9,C⟩:=zp8 (a.out.box.cell 2) (a.out.box.cell 4) (a.out.box.cell 5) (a.out.box.cell 6) (a.out.box.cell 7) (a.out.box.cell 8) (a.out.box.cell 9) (a.out.box.cell 10);have D:=a.out.box.cell 11;have E:=a.out.box.cell 12;have G:=a.out.box.cell 13;simp at b2 b4 b5 b6 b7 b8 b9 C D E G;clear k;go_wp2_with fail;refine A.out.mono ?_;intro y W P;have j:=Iv.pr zAr (λb N=>N) P;have F:=Aa j;clear P j;obtain rfl:=E6.ends F.out;go_wp2;go_end0;exact a.out.fin F.out
theorem jp (h:Dx B w gr gs gp vq vv vg vl p c key r 0) (G:EM X w) (O:r.gone.length<=3000000) {q t:Nat}(P:q<p.decls.length) (Q:t<p.decls.length) (tl:Bool):
  Calls prog 122 #[.pointer (some ⟨gr,0,none⟩),.agg (BY (.shift (q:Int) (t:Int) tl)).toArray] w (E6 B X w gr gs gp p c key (bG p key (.shift (q:Int) (t:Int) tl) r)):=by
 have l:=h.row.cell 0;have m:=h.row.cell 1;have R:=h.row.lt;simp at l m;have nr:¬gr=w.heap.size:=by omega
 have f:=Aa h.na;generalize H:bG p key (.shift (q:Int) (t:Int) tl) r=o at*;have n:=Aa H;clear H;obtain⟨I,S⟩:=zq2 G h;clear h G;unfold BY Du CQ G8 G9 C1 vs;go_enter GK,FF;obtain⟨g,e⟩:∃x,x=w.alloc (.cells #[.string ⟨Do.toArray⟩,.int .i64 (q:Int),.int .i64 (t:Int),.bool tl,.string ⟨#[]⟩,.int .i64 0,.string ⟨#[]⟩,.int .i64 0,.string ⟨#[]⟩,.int .i64 0,.int .i64 0,A4,A4,.bool false] 262):=⟨_,rfl⟩;have J:=Aa (show Ac (λb=>w.heap.size+1<=b) g g.drew from zAr.drew);have K:=Aa (show Ac (λb=>w.heap.size<=b) w g.drew by rw[e];exact((Ac.refl _ w).alloc (Ab _) _).drew);obtain⟨L,u⟩:=zq2 (show g.drew.heap.size=w.heap.size+1 by simp[C6,e]) e;clear e;go_upto_region 2 with fail;go_cut [4,5] (λT U V=>T= .int .i64 (fQ (r.s.find key))/\U= .int .i64 (fI (r.s.find key))/\Ac (λb=>w.heap.size+1<=b) g V)
 case first=>
  have e:=u.out;subst e;generalize r.s.find key=FO at*
  go_region_law (first|(go_simp;go_at_call 99;refine(f.out _ K.out).mono ?_;rintro x W ⟨rfl,i⟩;have v:=Aa i;clear i;unfold FC))
  all_goals go_wp2
  all_goals go_meet
  all_goals exact⟨rfl,rfl,J.out.trans (v.out.mono (λb hb=>by have:=L.out;omega))⟩
 obtain⟨rfl,rfl,M⟩:=hcut;have e:=u.out;subst e;have d:=je.of S.out I.out M;obtain⟨Y,Z,b3,bl,l,m,R⟩:=zp7 (d.box.cell 0) (d.box.cell 1) (d.box.cell 3) d.box.lt (d.run.row.cell 0) (d.run.row.cell 1) d.run.row.lt;simp at Y Z b3 l m;have a:=Aa d;clear d M I u f J K L;have k:=ai a.out.run a.out.dj O P Q tl;rw[n.out]at k;unfold BY Du CQ G8 G9 C1 vs at k;have z:=Aa k;obtain⟨b2,b4,b5,b6,b7,b8,b9,A⟩:=zp8 (a.out.box.cell 2) (a.out.box.cell 4) (a.out.box.cell 5) (a.out.box.cell 6) (a.out.box.cell 7) (a.out.box.cell 8) (a.out.box.cell 9) (a.out.box.cell 10);have C:=a.out.box.cell 11;have D:=a.out.box.cell 12;have E:=a.out.box.cell 13;simp at b2 b4 b5 b6 b7 b8 b9 A C D E;clear k;go_wp2_with fail;refine z.out.mono ?_;intro y W N;have j:=N;have F:=Aa j;clear N j;obtain rfl:=E6.ends F.out;go_wp2;go_end0;exact a.out.fin F.out
end
end Go.Proofs.YtepoejiigmhlbaaGreatDoor.Ev
