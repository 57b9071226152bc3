/- Lemmas for a law's walk. Conditions: none. -/
import Derived.Test.YtodkkholbjeioaaGreatDoorZu21
import Derived.Test.YtodkkholbjeioaaGreatDoorZu26
set_option linter.all false
set_option maxRecDepth 100000
set_option maxHeartbeats 8000000
namespace Go.Proofs.YtodkkholbjeioaaGreatDoor.Ev
open _root_.Go.Proofs.Tryz
open Go Go.RowKit
def xB (m:Nat):Prop:=∀(w:World) (gp:Nat) (a c d e:Value) (f:Int) (l:List Bi) (x:Az) (cs:List Value) (s:Ah),dT w gp a c d e f l->x.length=1->x.size<=m->x.size<=1000->Ed l x->AN Mv w x cs->AV l x=Cd++s->
  Calls prog 61 #[.pointer (some ⟨gp,0,none⟩),.agg cs.toArray] w (Dt w s)
def mZ (m:Nat):Prop:=∀(w:World) (gp:Nat) (a c d e:Value) (f:Int) (l:List Bi) (b:Az) (v:Value),dT w gp a c d e f l->b.size<=m->b.size<=1000->Ed l b->Ct Mv w v b->
  Calls prog 34 #[.pointer (some ⟨gp,0,none⟩),v] w (Dt w (BV l b))
theorem Y1 {N:Nat->Prop}{w w':World}(a:Ac (λb=>w.heap.size<=b) w w') {b:Az}{cs:List Value}(h:AN N w b cs):AN N w' b cs:=
 AN.kept (λk _ _ c=>a.block k (λd=>by have:=c.lt;omega)) b cs h
theorem VH {N:Nat->Prop}{w w':World}(a:Ac (λb=>w.heap.size<=b) w w') {b:Az}{v:Value}(h:Ct N w v b):Ct N w' v b:=
 h.kept (λk _ _ c=>a.block k (λd=>by have:=c.lt;omega))
structure Wy (w0:World) (b:Az) (cs:List Value) (k:Nat) (wr:World) (done rest:Az) (be bI:List Value):Prop where
 eq:b=done.app rest
 cs:cs=be++bI
 mz:be.length=k*14
 k:k+rest.length=b.length
 sz:done.size+rest.size=b.size
 nz:AN Mv w0 rest bI
 kept:Ac (λb=>w0.heap.size<=b) w0 wr
section
variable {w0 wr:World}{k:Nat}{b done rest:Az}{cs be bI:List Value}
theorem Wy.next {g d:Nat}(h:Wy w0 b cs k wr done rest be bI) (e:Sl Mv w0 155 14 (.slice (some ⟨g,0,none⟩) b.length d) b.length cs) (z:k<b.length):
  ∃x tl a c,rest=x.app tl/\x.length=1/\bI=a++c/\Aba a/\AN Mv w0 x a/\AN Mv w0 tl c/\rest.length=tl.length+1/\x.size+tl.size=rest.size/\
   (∀j,j<14->wr.cell? ⟨g,k*14+j,none⟩=a[j]?)/\g<wr.heap.size:=by
 have f:rest≠.nil:=by rintro rfl;have:=h.k;simp[Az.length]at this;omega
 obtain⟨x,tl,a,c,e1,n,i,l,o,q,r,s⟩:=AN.part rest bI f h.nz;have m:a.length=14:=by obtain⟨_,_,_,_,_,_,_,_,_,_,_,_,_,_,_,_,_,_,rfl⟩:=l;rfl
 refine⟨x,tl,a,c,e1,n,i,l,o,q,r,s,λj A=>?_,An (e.lt rfl) h.kept.size⟩;have t:k*14+j<b.length*14:=by omega
 have u:=e.1.cellAt _ t;have v:cs[k*14+j]?=a[j]?:=by rw[h.cs,i,BG (by rw[h.mz];omega),h.mz,B7,AX (by omega)]
 have w:=e.lt (g:=g) rfl;exact((h.kept.cell (p:=⟨g,k*14+j,none⟩) (λy=>by simp only at y;omega)).trans u).trans v
theorem Wy.step {x tl:Az}{a c:List Value}{w':World}(h:Wy w0 b cs k wr done rest be bI) (e1:rest=x.app tl) (d:bI=a++c) (e:a.length=14) (f:AN Mv w0 tl c)
  (j:rest.length=tl.length+1) (l:x.size+tl.size=rest.size) (g:Ac (λb=>wr.heap.size<=b) wr w'):Wy w0 b cs (k+1) w' (done.app x) tl (be++a) c:=
 ⟨by rw[h.eq,e1,If],by rw[h.cs,d,AL],by rw[Ao,h.mz,e];omega,by have:=h.k;omega,by rw[JN];have:=h.sz;omega,f,h.kept.trans (g.mono (λb i=>Ad h.kept.size i))⟩
end
theorem Vj {m:Nat}(J:xB m):mZ m:=by
 intro w gp vd vr vh vm f l b v h K q Y L;obtain⟨cs,hs,B⟩:=L;obtain⟨ag,fc,rfl⟩:=hs.cB;have M:Wy w b cs 0 w .nil b [] cs:=⟨by simp[Az.app],by simp,by simp,by omega,by simp[Az.size],B,Ac.refl _ _⟩;have fd:b.length<=1000:=by
  have:∀b:Az,b.length<=b.size:=by
   intro b
   induction b with
   |nil=>simp[Az.length]
   |bN p r ih=>simp[Az.length,Az.size];omega
   |ite c t o e r _ _ ih=>simp[Az.length,Az.size];omega
   |rep n c b r _ ih=>simp[Az.length,Az.size];omega
  have:=this b;omega
 have N:∀d r:Az,b=d.app r->(Cx++AV l d++Cd).length<=200000:=by intro d r e;rw[e,Ow]at Y;rw[e,JN]at q;have:=Ej h.dw d Y.1;simp only[Ao,Af,Ak,Cd];omega
 obtain⟨bK,H,O,bL,bM,Q,HW,R⟩:=zq8 J h hs M K q Y N;clear J h hs M B K q Y N;go_enter func34,ntmps34;go_wp2_with fail
 go_loopg [10,5] b.length (λbO bP s5 wr=>∃k done rest be bI,k<=b.length/\b.length-k<=bO/\bP= .int .i64 (k:Nat)/\s5= .string ⟨(Cx++AV l done++Cd).toArray⟩/\Wy w b cs k wr done rest be bI)
 case atStart=>exact⟨0,.nil,b,[],cs,AM _,by omega,rfl,rfl,bL.out⟩
 case round=>
  obtain⟨k,done,rest,be,bI,fB,hg,rfl,rfl,y⟩:=hrel;have T:=R.out done rest y.eq;by_cases bQ:k<b.length
  ·obtain⟨g,dL,ec,_⟩:=O.out.form (by omega);injection ec with ea _ ec;subst ea ec;obtain⟨x,tl,bS,fC,e1,e2,e3,e4,e5,e6,e7,e8,j,fD⟩:=y.next O.out bQ;have C:bS.length=14:=by obtain⟨_,_,_,_,_,_,_,_,_,_,_,_,_,_,_,_,_,_,rfl⟩:=id e4;rfl
   have z:=R.out (done.app x) tl (by rw[y.eq,e1,If]);rw[Fw]at z;obtain⟨I,A⟩:=aD l x e2;rw[A]at z;have E:=HW.out;rw[y.eq,e1,Ow,Ow]at E;have s:=Aa (And.intro e1 (And.intro e2 (And.intro e3 (And.intro C (And.intro e5 (And.intro e6 (And.intro e7 (And.intro e8 E.2.1))))))));obtain⟨k_,n_,m_,t_,bU,bV,bW,bX,bY,bZ,ci,cj,cu,cw,cy,cz,cZ,o_,rfl⟩:=e4;have x0:=j 0 (by omega);have x1:=j 1 (by omega);have x2:=j 2 (by omega);have x3:=j 3 (by omega);have x4:=j 4 (by omega);have x5:=j 5 (by omega);have x6:=j 6 (by omega);have x7:=j 7 (by omega);have x8:=j 8 (by omega);have x9:=j 9 (by omega);have da:=j 10 (by omega);have dd:=j 11 (by omega);have dF:=j 12 (by omega);have dG:=j 13 (by omega);obtain⟨U,dH⟩:=zq2 y A;have V:Cx++AV l (done.app x)++Cd=(Cx++AV l done++Cd)++(I++Cd):=by rw[Fw,A];simp only[AL]
   simp only[Ao,Af,Ak]at z;generalize hS:Cx++AV l done++Cd=S at*;have dI:I.length<=200000:=by omega
   have s1:=B8 (P:=prog) (a:=⟨I.toArray⟩) (b:=⟨#[32]⟩) (by simp only[Ay,Af,Ak];omega);have s2:=B8 (P:=prog) (a:=⟨S.toArray⟩) (b:=⟨I.toArray⟩++⟨#[32]⟩) (by simp only[Ag,Ay,Af,Ak];omega);have i:(⟨S.toArray⟩:ByteArray)++(⟨I.toArray⟩++⟨#[32]⟩)=⟨(Cx++AV l (done.app x)++Cd).toArray⟩:=by rw[V,BK,BK];rfl
   have W:=Aa i;clear y j e1 e2 e3 e5 e6 e7 e8 C A V i hS E z dI T;unfold vs at*;simp only[BM,AJ,Mx]at x0 x1 x2 x3 x4 x5 x6 x7 x8 x9 da dd dF dG;go_wp2_with fail;have Z:Ac (λb=>wr.heap.size<=b) wr (wr.alloc (.cells #[.string ⟨k_.toArray⟩,.int .i64 n_,.int .i64 m_,.bool t_,.string ⟨bU.toArray⟩,.int .i64 bV,.string ⟨bW.toArray⟩,.int .i64 bX,.string ⟨bY.toArray⟩,.int .i64 bZ,.int .i64 ci,.slice cj cu cw,.slice cy cz cZ,.bool o_] 155)):=(Ac.refl _ wr).alloc (Ab _) _;have G:Ac (λb=>w.heap.size<=b) w _:=U.out.kept.trans (Z.mono (λb L=>Ad U.out.kept.size L));refine(bK.out _ gp vd vr vh vm f l x _ I (H.out.later G) s.out.2.1 (by have:=U.out.sz;have:=s.out.2.2.2.2.2.2.2.1;have:=bM.out;omega) (by have:=U.out.sz;have:=s.out.2.2.2.2.2.2.2.1;have:=Q.out;omega) s.out.2.2.2.2.2.2.2.2 (Y1 G s.out.2.2.2.2.1) dH.out).mono ?_;rintro e w2 ⟨rfl,X⟩;have F:=Aa (U.out.step s.out.1 s.out.2.2.1 s.out.2.2.2.1 s.out.2.2.2.2.2.1 s.out.2.2.2.2.2.2.1 s.out.2.2.2.2.2.2.2.1 (Z.trans (X.mono (λb L=>Ad Z.size L))));clear Z G X;go_wp2;go_roundg (b.length-(k+1))
   case measure=>omega
   case rel=>exact⟨k+1,_,_,_,_,by omega,by omega,by go_num,AH Value.string W.out,F.out⟩
  ·have D:rest= .nil:=by
    have:=y.k;cases rest with
    |nil=>rfl
    |bN p r=>simp[Az.length]at this;omega
    |ite c t o e r=>simp[Az.length]at this;omega
    |rep n c b r=>simp[Az.length]at this;omega
   have u:b=done:=by rw[y.eq,D];exact Oi done
   have i:BV l b=(Cx++AV l done++Cd)++[125]:=by rw[u];simp[BV,Cd]
   have F:=Aa y.kept;generalize Cx++AV l done++Cd=S at*;have dJ:=Aa i;have s1:=B8 (P:=prog) (a:=⟨S.toArray⟩) (b:=⟨#[125]⟩) (by simp only[Ay,Af,Ak];omega);clear y D u i;go_wp2;go_ret;exact⟨by rw[dJ.out];exact AH (λx=>Ending.returned (.string x)) (BK _ _),F.out⟩
section
variable {w:World}{gp:Nat}{vd vr vh vm:Value}{f:Int}{l:List Bi}
theorem RA (h:dT w gp vd vr vh vm f l) (c:Ah) (e:c=KP\/c=Et\/c=Io\/c=Mo\/c=Mq) {k:Int}(j:Ix l.length k) (tl:Bool):
  Calls prog 61 #[.pointer (some ⟨gp,0,none⟩),.agg ([vs c,.int .i64 k,.int .i64 0,.bool tl]++Dw++[A6,A6,.bool false]).toArray] w (Dt w (c++Cd++Bv l k++De tl++AP)):=by
 have m:=λcs=>(Ac.refl (λb=>w.heap.size<=b) w).alloc (Ab _) (.cells cs 155);have o:=Aa m;obtain⟨n,r,s,rfl,t,rfl,u,v,y,z,A,B,C⟩:=h.at_ j;have D:¬gp=w.heap.size:=by omega
 have E:¬r=w.heap.size:=by omega
 generalize Bv l (n:Int)=nm at*;have i:c.length<=5:=by rcases e with rfl|rfl|rfl|rfl|rfl<;>simp
 have F:=B8 (P:=prog) (a:=⟨#[32]⟩) (b:=⟨nm.toArray⟩) (by simp only[Ay,Af,Ak];omega);have G:=B8 (P:=prog) (a:=⟨c.toArray⟩) (b:=⟨#[32]⟩++⟨nm.toArray⟩) (by simp only[Ag,Ay,Af,Ak];omega);have H:=B8 (P:=prog) (a:=⟨c.toArray⟩++(⟨#[32]⟩++⟨nm.toArray⟩)) (b:=⟨#[32,116,97,105,108]⟩) (by simp only[Ag,Ay,Af,Ak];omega);have I:=B8 (P:=prog) (a:=⟨c.toArray⟩++(⟨#[32]⟩++⟨nm.toArray⟩)++⟨#[32,116,97,105,108]⟩) (b:=⟨#[59]⟩) (by simp only[Ag,Ay,Af,Ak];omega);have J:=B8 (P:=prog) (a:=⟨c.toArray⟩++(⟨#[32]⟩++⟨nm.toArray⟩)) (b:=⟨#[59]⟩) (by simp only[Ag,Ay,Af,Ak];omega);have p:if tl then(⟨c.toArray⟩:ByteArray)++(⟨#[32]⟩++⟨nm.toArray⟩)++⟨#[32,116,97,105,108]⟩++⟨#[59]⟩=⟨(c++Cd++nm++De tl++AP).toArray⟩else(⟨c.toArray⟩:ByteArray)++(⟨#[32]⟩++⟨nm.toArray⟩)++⟨#[59]⟩=⟨(c++Cd++nm++De tl++AP).toArray⟩:=by
  cases tl with
  |true=>rw[Al rfl,BK,BK,BK,BK];simp[Cd,De]
  |false=>rw[Ai A0,BK,BK,BK];simp[Cd,De]
 have q:=Aa p;clear p m h j i;unfold Dw A6 vs at*;cases tl with
 |false=>
  have d:=q.out;rw[Ai A0]at d;have g:=Aa d;clear d;rcases e with rfl|rfl|rfl|rfl|rfl
  all_goals
   go_enter LO,Kf;go_wp2;go_region;go_wp2;go_ret;exact⟨AH (λx=>Ending.returned (.string x)) g.out,(o.out _).drew⟩
 |true=>
  have d:=q.out;rw[Al rfl]at d;have g:=Aa d;clear d;rcases e with rfl|rfl|rfl|rfl|rfl
  all_goals
   go_enter LO,Kf;go_wp2;go_region;go_wp2;go_ret;exact⟨AH (λx=>Ending.returned (.string x)) g.out,(o.out _).drew⟩
theorem an (c:Ah) (d:c=Ja\/c=Jb):
  Calls prog 61 #[.pointer (some ⟨gp,0,none⟩),.agg ([vs c,.int .i64 0,.int .i64 0,.bool false]++Dw++[A6,A6,.bool false]).toArray] w (Dt w (c++AP)):=by
 have g:=λcs=>(Ac.refl (λb=>w.heap.size<=b) w).alloc (Ab _) (.cells cs 155);have i:=Aa g;have e:c.length<=5:=by rcases d with rfl|rfl<;>simp
 have k:=B8 (P:=prog) (a:=⟨c.toArray⟩) (b:=⟨#[59]⟩) (by simp only[Ay,Af,Ak];omega);have h:(⟨c.toArray⟩:ByteArray)++⟨#[59]⟩=⟨(c++AP).toArray⟩:=by rw[BK]
 have j:=Aa h;clear h g e;unfold Dw A6 vs at*;rcases d with rfl|rfl
 all_goals
  go_enter LO,Kf;go_wp2;go_ret;exact⟨AH (λx=>Ending.returned (.string x)) j.out,i.out _⟩
theorem j3 (h:dT w gp vd vr vh vm f l) {k j:Int}(m:Ix l.length k) (o:Ix l.length j) (tl:Bool):
  Calls prog 61 #[.pointer (some ⟨gp,0,none⟩),.agg ([vs Dq,.int .i64 k,.int .i64 j,.bool tl]++Dw++[A6,A6,.bool false]).toArray] w (Dt w (Dq++Cd++Bv l k++Cd++Bv l j++De tl++AP)):=by
 have p:=λcs=>(Ac.refl (λb=>w.heap.size<=b) w).alloc (Ab _) (.cells cs 155);have q:=Aa p;obtain⟨n,t,C,rfl,D,i,E,F,G,H,I,J,K⟩:=h.at_ m;obtain⟨u,v,y,rfl,z,g,_,_,_,_,_,L,A⟩:=h.at_ o;subst i;injection g with e1 _ B;injection e1 with e1;injection e1 with e1;subst e1 B;have M:¬gp=w.heap.size:=by omega
 have N:¬t=w.heap.size:=by omega
 generalize Bv l (n:Int)=nm at*;generalize Bv l (u:Int)=c at*;have O:=B8 (P:=prog) (a:=⟨#[32]⟩) (b:=⟨nm.toArray⟩) (by simp only[Ag,Ay,Af,Ak];omega);have Q:=B8 (P:=prog) (a:=⟨#[115,104,105,102,116]⟩) (b:=⟨#[32]⟩++⟨nm.toArray⟩) (by simp only[Ag,Ay,Af,Ak];omega);have R:=B8 (P:=prog) (a:=⟨#[32]⟩) (b:=⟨c.toArray⟩) (by simp only[Ag,Ay,Af,Ak];omega);have S:=B8 (P:=prog) (a:=⟨#[115,104,105,102,116]⟩++(⟨#[32]⟩++⟨nm.toArray⟩)) (b:=⟨#[32]⟩++⟨c.toArray⟩) (by simp only[Ag,Ay,Af,Ak];omega);have T:=B8 (P:=prog) (a:=⟨#[115,104,105,102,116]⟩++(⟨#[32]⟩++⟨nm.toArray⟩)++(⟨#[32]⟩++⟨c.toArray⟩)) (b:=⟨#[32,116,97,105,108]⟩) (by simp only[Ag,Ay,Af,Ak];omega);have U:=B8 (P:=prog) (a:=⟨#[115,104,105,102,116]⟩++(⟨#[32]⟩++⟨nm.toArray⟩)++(⟨#[32]⟩++⟨c.toArray⟩)++⟨#[32,116,97,105,108]⟩) (b:=⟨#[59]⟩) (by simp only[Ag,Ay,Af,Ak];omega);have V:=B8 (P:=prog) (a:=⟨#[115,104,105,102,116]⟩++(⟨#[32]⟩++⟨nm.toArray⟩)++(⟨#[32]⟩++⟨c.toArray⟩)) (b:=⟨#[59]⟩) (by simp only[Ag,Ay,Af,Ak];omega);have r:if tl then(⟨#[115,104,105,102,116]⟩++(⟨#[32]⟩++⟨nm.toArray⟩)++(⟨#[32]⟩++⟨c.toArray⟩)++⟨#[32,116,97,105,108]⟩++⟨#[59]⟩:ByteArray)=⟨(Dq++Cd++nm++Cd++c++De tl++AP).toArray⟩else(⟨#[115,104,105,102,116]⟩++(⟨#[32]⟩++⟨nm.toArray⟩)++(⟨#[32]⟩++⟨c.toArray⟩)++⟨#[59]⟩:ByteArray)=⟨(Dq++Cd++nm++Cd++c++De tl++AP).toArray⟩:=by
  cases tl with
  |true=>rw[Al rfl,BK,BK,BK,BK,BK,BK];simp[Cd,De]
  |false=>rw[Ai A0,BK,BK,BK,BK,BK];simp[Cd,De]
 have s:=Aa r;clear r p h m o;unfold Dw A6 vs at*;cases tl with
 |false=>
  have d:=s.out;rw[Ai A0]at d;have e:=Aa d;clear d;go_enter LO,Kf;go_wp2;go_region;go_wp2;go_region;go_wp2;go_ret;exact⟨AH (λx=>Ending.returned (.string x)) e.out,(q.out _).drew.drew⟩
 |true=>
  have d:=s.out;rw[Al rfl]at d;have e:=Aa d;clear d;go_enter LO,Kf;go_wp2;go_region;go_wp2;go_region;go_wp2;go_ret;exact⟨AH (λx=>Ending.returned (.string x)) e.out,(q.out _).drew.drew⟩
end
section
variable {w:World}{gp:Nat}{vd vr vh vm:Value}{f:Int}{l:List Bi}{m:Nat}
theorem XS (h:dT w gp vd vr vh vm f l) (c:C5) (i:Z3 l c.k) (cs:List Value):∀W,Ac (λb=>w.heap.size<=b) w W->AF W w.heap.size 155 cs->
  Calls prog 93 #[.pointer (some ⟨gp,0,none⟩),.agg (Di c).toArray] W λy w'=>y= .returned (vs (DH l c))/\Ac (λb=>w.heap.size<=b) w w'/\AF w' w.heap.size 155 cs:=λW a d=>by
 refine(j6 (h.later a) c i).mono ?_;rintro y w' ⟨j,g⟩;exact⟨j,a.trans (g.mono (λb n=>Ad a.size n)),d.kept g (λe=>by have:=d.lt;omega)⟩
theorem Vk (j:mZ m) (h:dT w gp vd vr vh vm f l) {b:Az}{v:Value}(k:b.size<=m) (c:b.size<=1000) (n:Ed l b) (d:Ct Mv w v b) (cs:List Value):∀W,Ac (λb=>w.heap.size<=b) w W->AF W w.heap.size 155 cs->
  Calls prog 34 #[.pointer (some ⟨gp,0,none⟩),v] W λy w'=>y= .returned (vs (BV l b))/\Ac (λb=>w.heap.size<=b) w w'/\AF w' w.heap.size 155 cs:=λW a g=>by
 refine(j W gp vd vr vh vm f l b v (h.later a) k c n (VH a d)).mono ?_;rintro y w' ⟨o,i⟩;exact⟨o,a.trans (i.mono (λb d=>Ad a.size d)),g.kept i (λe=>by have:=g.lt;omega)⟩
theorem zW1 (X:mZ m) (h:dT w gp vd vr vh vm f l) {c:C5}(Y:Z3 l c.k) {t e:Az}{vt ve:Value}{o:Bool}(Z:Ct Mv w vt t) (Q:if o then Ct Mv w ve e else ve=A6/\e= .nil) (bK:t.size<=m) (bL:e.size<=m) (bY:t.size+e.size<=1000) (E:Ed l t) (F:Ed l e):
  Calls prog 61 #[.pointer (some ⟨gp,0,none⟩),.agg (JE c vt o ve).toArray] w (Dt w (Jk++Cd++DH l c++Cd++BV l t++(if o then Cd++Dn++Cd++BV l e else []))):=by
 have R:=λcs=>(Ac.refl (λb=>w.heap.size<=b) w).alloc (Ab _) (.cells cs 155);obtain⟨L,n1,M,n3,G,_⟩:=Pv c;obtain⟨H,I,rfl⟩:∃g c,vt= .slice g t.length c:=by obtain⟨_,h1,_⟩:=Z;exact h1.cB
 have lc:=Hz h.dw Y;have lt:=Eo h.dw E;have le:=Eo h.dw F;have B:JE c (.slice H t.length I) o ve=[vs Jk,.int .i64 0,.int .i64 0,.bool false,vs (BX c.k),.int .i64 (Bt c.k),vs L,.int .i64 n1,vs M,.int .i64 n3,.int .i64 c.bP,.slice H t.length I,ve,.bool o]:=by unfold JE;rw[G];rfl
 have hC:=XS h c Y [vs Jk,.int .i64 0,.int .i64 0,.bool false,vs (BX c.k),.int .i64 (Bt c.k),vs L,.int .i64 n1,vs M,.int .i64 n3,.int .i64 c.bP,.slice H t.length I,ve,.bool o];have hT:=Vk X h bK (by omega) E Z [vs Jk,.int .i64 0,.int .i64 0,.bool false,vs (BX c.k),.int .i64 (Bt c.k),vs L,.int .i64 n1,vs M,.int .i64 n3,.int .i64 c.bP,.slice H t.length I,ve,.bool o];rw[B];rw[G]at hC;generalize S:DH l c=C at*;generalize T:BV l t=J at*;have s1:=B8 (P:=prog) (a:=⟨#[32]⟩) (b:=⟨C.toArray⟩) (by simp only[Ag,Ay,Af,Ak];omega);have s2:=B8 (P:=prog) (a:=⟨#[32]⟩++⟨C.toArray⟩) (b:=⟨#[32]⟩) (by simp only[Ag,Ay,Af,Ak];omega);have s3:=B8 (P:=prog) (a:=⟨#[32]⟩++⟨C.toArray⟩++⟨#[32]⟩) (b:=⟨J.toArray⟩) (by simp only[Ag,Ay,Af,Ak];omega);have s6:=B8 (P:=prog) (a:=⟨#[105,102]⟩) (b:=⟨#[32]⟩++⟨C.toArray⟩++⟨#[32]⟩++⟨J.toArray⟩) (by simp only[Ag,Ay,Af,Ak];omega);have K:(⟨#[105,102]⟩:ByteArray)++(⟨#[32]⟩++⟨C.toArray⟩++⟨#[32]⟩++⟨J.toArray⟩)=⟨(Jk++Cd++C++Cd++J).toArray⟩:=by rw[BK,BK,BK,BK];simp[Cd]
 obtain⟨K0,HC,U,V⟩:=zq4 R hC hT K;cases o with
 |true=>
  rw[Al rfl]at Q;obtain⟨ge,ce,rfl⟩:∃g c,ve= .slice g e.length c:=by obtain⟨_,h1,_⟩:=Q;exact h1.cB
  have hE:=Vk X h bL (by omega) F Q [vs Jk,.int .i64 0,.int .i64 0,.bool false,vs (BX c.k),.int .i64 (Bt c.k),vs L,.int .i64 n1,vs M,.int .i64 n3,.int .i64 c.bP,.slice H t.length I,.slice ge e.length ce,.bool true];generalize W:BV l e=se at*;have s4:=B8 (P:=prog) (a:=⟨#[32,101,108,115,101,32]⟩) (b:=⟨se.toArray⟩) (by simp only[Ag,Ay,Af,Ak];omega);have s5:=B8 (P:=prog) (a:=⟨#[105,102]⟩++(⟨#[32]⟩++⟨C.toArray⟩++⟨#[32]⟩++⟨J.toArray⟩)) (b:=⟨#[32,101,108,115,101,32]⟩++⟨se.toArray⟩) (by simp only[Ag,Ay,Af,Ak];omega);have D:(⟨#[105,102]⟩++(⟨#[32]⟩++⟨C.toArray⟩++⟨#[32]⟩++⟨J.toArray⟩)++(⟨#[32,101,108,115,101,32]⟩++⟨se.toArray⟩):ByteArray)=⟨(Jk++Cd++C++Cd++J++(Cd++Dn++Cd++se)).toArray⟩:=by rw[BK,BK,BK,BK,BK,BK];simp[Cd]
  obtain⟨HE,N⟩:=zq2 hE D;have d:AF (w.alloc (.cells #[vs Jk,.int .i64 0,.int .i64 0,.bool false,vs (BX c.k),.int .i64 (Bt c.k),vs L,.int .i64 n1,vs M,.int .i64 n3,.int .i64 c.bP,.slice H t.length I,.slice ge e.length ce,.bool true] 155)).drew w.heap.size 155 _:=(AF.new w 155 _).drew;have O:=(R #[vs Jk,.int .i64 0,.int .i64 0,.bool false,vs (BX c.k),.int .i64 (Bt c.k),vs L,.int .i64 n1,vs M,.int .i64 n3,.int .i64 c.bP,.slice H t.length I,.slice ge e.length ce,.bool true]).drew;simp only[A7];clear h X hC hT hE Z Q K D R K0 B G Y E F S T W V;unfold vs at*;go_enter LO,Kf;go_wp2_with fail
  go_region_law (first
   |(go_simp;go_at_call 93;refine(HC.out _ ?_ ?_).mono ?_;assumption;assumption;rintro y wq ⟨rfl,O,d⟩;have q:=d.cell 1;have r:=d.cell 4;have s:=d.cell 5;have u:=d.cell 6;have v:=d.cell 7;have z:=d.cell 8;have A:=d.cell 9;have i:=d.cell 10;have j:=d.cell 11;have n:=d.cell 12;have p:=d.cell 13;have zl:=d.lt;simp at q r s u v z A i j n p)
   |(go_simp;go_at_call 34;refine(U.out _ ?_ ?_).mono ?_;assumption;assumption;rintro y wq ⟨rfl,O,d⟩;have q:=d.cell 1;have r:=d.cell 4;have s:=d.cell 5;have u:=d.cell 6;have v:=d.cell 7;have z:=d.cell 8;have A:=d.cell 9;have i:=d.cell 10;have j:=d.cell 11;have n:=d.cell 12;have p:=d.cell 13;have zl:=d.lt;simp at q r s u v z A i j n p))
  all_goals
   go_wp2_with fail;refine(HE.out _ ?_ ?_).mono ?_;assumption;assumption;rintro y w4 ⟨rfl,k4,r4⟩;have bS:=Aa k4;clear k4 r4;go_wp2;go_ret;exact⟨AH (λx=>Ending.returned (.string x)) N.out,bS.out⟩
 |false=>
  rw[Ai A0]at Q;obtain⟨rfl,_⟩:=Q;have d:AF (w.alloc (.cells #[vs Jk,.int .i64 0,.int .i64 0,.bool false,vs (BX c.k),.int .i64 (Bt c.k),vs L,.int .i64 n1,vs M,.int .i64 n3,.int .i64 c.bP,.slice H t.length I,A6,.bool false] 155)).drew w.heap.size 155 _:=(AF.new w 155 _).drew;have O:=(R #[vs Jk,.int .i64 0,.int .i64 0,.bool false,vs (BX c.k),.int .i64 (Bt c.k),vs L,.int .i64 n1,vs M,.int .i64 n3,.int .i64 c.bP,.slice H t.length I,A6,.bool false]).drew;have D:(⟨#[105,102]⟩++(⟨#[32]⟩++⟨C.toArray⟩++⟨#[32]⟩++⟨J.toArray⟩):ByteArray)=⟨(Jk++Cd++C++Cd++J++[]).toArray⟩:=by rw[AO];exact K
  have N:=Aa D;simp only[Ap,A8];clear h X hC hT Z K D R K0 B G Y E F S T V;unfold A6 vs at*;go_enter LO,Kf;go_wp2_with fail
  go_region_law (first
   |(go_simp;go_at_call 93;refine(HC.out _ ?_ ?_).mono ?_;assumption;assumption;rintro y wq ⟨rfl,O,d⟩;have q:=d.cell 1;have r:=d.cell 4;have s:=d.cell 5;have u:=d.cell 6;have v:=d.cell 7;have z:=d.cell 8;have A:=d.cell 9;have i:=d.cell 10;have j:=d.cell 11;have n:=d.cell 12;have p:=d.cell 13;have zl:=d.lt;simp at q r s u v z A i j n p)
   |(go_simp;go_at_call 34;refine(U.out _ ?_ ?_).mono ?_;assumption;assumption;rintro y wq ⟨rfl,O,d⟩;have q:=d.cell 1;have r:=d.cell 4;have s:=d.cell 5;have u:=d.cell 6;have v:=d.cell 7;have z:=d.cell 8;have A:=d.cell 9;have i:=d.cell 10;have j:=d.cell 11;have n:=d.cell 12;have p:=d.cell 13;have zl:=d.lt;simp at q r s u v z A i j n p))
  all_goals
   have bT:=Aa O;clear O d;go_wp2;go_ret;exact⟨AH (λx=>Ending.returned (.string x)) N.out,bT.out⟩
theorem uH (hB:mZ m) (h:dT w gp vd vr vh vm f l) {n:Int}(bU:1<=n) (bV:n<=50) {c:C5}(N:Z3 l c.k) {t:Az}{O:Value}(Q:Ct Mv w O t) (R:t.size<=m) (S:t.size<=1000) (E:Ed l t):
  Calls prog 61 #[.pointer (some ⟨gp,0,none⟩),.agg (Ie n c O).toArray] w (Dt w (Bf++Cd++Ck n++Cd++Cv++Cd++DH l c++Cd++BV l t)):=by
 have k0:=λcs=>(Ac.refl (λb=>w.heap.size<=b) w).alloc (Ab _) (.cells cs 155);obtain⟨F,n1,G,n3,H,_⟩:=Pv c;obtain⟨B,C,rfl⟩:∃g c,O= .slice g t.length c:=by obtain⟨_,T,_⟩:=Q;exact T.cB
 have lc:=Hz h.dw N;have lt:=Eo h.dw E;have ld:=(FP (n:=n) (by omega) (by omega)).2.1;have D:Ie n c (.slice B t.length C)=[vs Bf,.int .i64 n,.int .i64 0,.bool false,vs (BX c.k),.int .i64 (Bt c.k),vs F,.int .i64 n1,vs G,.int .i64 n3,.int .i64 c.bP,.slice B t.length C,A6,.bool false]:=by unfold Ie;rw[H];rfl
 have U:=XS h c N [vs Bf,.int .i64 n,.int .i64 0,.bool false,vs (BX c.k),.int .i64 (Bt c.k),vs F,.int .i64 n1,vs G,.int .i64 n3,.int .i64 c.bP,.slice B t.length C,A6,.bool false];have hT:=Vk hB h R S E Q [vs Bf,.int .i64 n,.int .i64 0,.bool false,vs (BX c.k),.int .i64 (Bt c.k),vs F,.int .i64 n1,vs G,.int .i64 n3,.int .i64 c.bP,.slice B t.length C,A6,.bool false];rw[D];rw[H]at U;have J:∀W,Ac (λb=>w.heap.size<=b) w W->AF W w.heap.size 155 [vs Bf,.int .i64 n,.int .i64 0,.bool false,vs (BX c.k),.int .i64 (Bt c.k),vs F,.int .i64 n1,vs G,.int .i64 n3,.int .i64 c.bP,.slice B t.length C,A6,.bool false]->
   Calls prog 33 #[.int .i64 n] W λy w'=>y= .returned (vs (Ck n))/\Ac (λb=>w.heap.size<=b) w w'/\AF w' w.heap.size 155 [vs Bf,.int .i64 n,.int .i64 0,.bool false,vs (BX c.k),.int .i64 (Bt c.k),vs F,.int .i64 n1,vs G,.int .i64 n3,.int .i64 c.bP,.slice B t.length C,A6,.bool false]:=λW hk hr=>by
  refine(RF (n:=n) (by omega) (by omega)).mono ?_;rintro y w' ⟨T,h2⟩;exact⟨T,hk.trans (h2.mono (λb hb=>Ad hk.size hb)),hr.kept h2 (λe=>by have:=hr.lt;omega)⟩
 generalize V:DH l c=K at*;generalize X:BV l t=Y at*;generalize Z:Ck n=I at*;have s0:=B8 (P:=prog) (a:=⟨#[114,101,112,101,97,116]⟩) (b:=⟨#[32]⟩) (by simp only[Ag,Ay,Af,Ak];omega);have s1:=B8 (P:=prog) (a:=⟨#[114,101,112,101,97,116]⟩++⟨#[32]⟩) (b:=⟨I.toArray⟩) (by simp only[Ag,Ay,Af,Ak];omega);have s2:=B8 (P:=prog) (a:=⟨#[114,101,112,101,97,116]⟩++⟨#[32]⟩++⟨I.toArray⟩) (b:=⟨#[32,119,104,105,108,101,32]⟩) (by simp only[Ag,Ay,Af,Ak];omega);have s3:=B8 (P:=prog) (a:=⟨#[114,101,112,101,97,116]⟩++⟨#[32]⟩++⟨I.toArray⟩++⟨#[32,119,104,105,108,101,32]⟩) (b:=⟨K.toArray⟩) (by simp only[Ag,Ay,Af,Ak];omega);have s4:=B8 (P:=prog) (a:=⟨#[114,101,112,101,97,116]⟩++⟨#[32]⟩++⟨I.toArray⟩++⟨#[32,119,104,105,108,101,32]⟩++⟨K.toArray⟩) (b:=⟨#[32]⟩) (by simp only[Ag,Ay,Af,Ak];omega);have s5:=B8 (P:=prog) (a:=⟨#[114,101,112,101,97,116]⟩++⟨#[32]⟩++⟨I.toArray⟩++⟨#[32,119,104,105,108,101,32]⟩++⟨K.toArray⟩++⟨#[32]⟩) (b:=⟨Y.toArray⟩) (by simp only[Ag,Ay,Af,Ak];omega);have L:(⟨#[114,101,112,101,97,116]⟩:ByteArray)++⟨#[32]⟩++⟨I.toArray⟩++⟨#[32,119,104,105,108,101,32]⟩++⟨K.toArray⟩++⟨#[32]⟩++⟨Y.toArray⟩=⟨(Bf++Cd++I++Cd++Cv++Cd++K++Cd++Y).toArray⟩:=by rw[BK,BK,BK,BK,BK,BK];simp[Cd]
 obtain⟨HC,be,bI,bJ⟩:=zq4 U hT J L;have d:AF (w.alloc (.cells #[vs Bf,.int .i64 n,.int .i64 0,.bool false,vs (BX c.k),.int .i64 (Bt c.k),vs F,.int .i64 n1,vs G,.int .i64 n3,.int .i64 c.bP,.slice B t.length C,A6,.bool false] 155)).drew w.heap.size 155 _:=(AF.new w 155 _).drew;have M:=(k0 #[vs Bf,.int .i64 n,.int .i64 0,.bool false,vs (BX c.k),.int .i64 (Bt c.k),vs F,.int .i64 n1,vs G,.int .i64 n3,.int .i64 c.bP,.slice B t.length C,A6,.bool false]).drew;clear h hB U hT J Q L k0 D H N E V X Z;unfold A6 vs at*;go_enter LO,Kf;go_wp2_with fail
 go_region_law (first
  |(go_simp;go_at_call 93;refine(HC.out _ ?_ ?_).mono ?_;assumption;assumption;rintro y wq ⟨rfl,M,d⟩;have q:=d.cell 1;have r:=d.cell 4;have s:=d.cell 5;have u:=d.cell 6;have v:=d.cell 7;have z:=d.cell 8;have A:=d.cell 9;have i:=d.cell 10;have j:=d.cell 11;have o:=d.cell 12;have p:=d.cell 13;have zl:=d.lt;simp at q r s u v z A i j o p)
  |(go_simp;go_at_call 34;refine(be.out _ ?_ ?_).mono ?_;assumption;assumption;rintro y wq ⟨rfl,M,d⟩;have q:=d.cell 1;have r:=d.cell 4;have s:=d.cell 5;have u:=d.cell 6;have v:=d.cell 7;have z:=d.cell 8;have A:=d.cell 9;have i:=d.cell 10;have j:=d.cell 11;have o:=d.cell 12;have p:=d.cell 13;have zl:=d.lt;simp at q r s u v z A i j o p)
  |(go_simp;go_at_call 33;refine(bI.out _ ?_ ?_).mono ?_;assumption;assumption;rintro y wq ⟨rfl,M,d⟩;have q:=d.cell 1;have r:=d.cell 4;have s:=d.cell 5;have u:=d.cell 6;have v:=d.cell 7;have z:=d.cell 8;have A:=d.cell 9;have i:=d.cell 10;have j:=d.cell 11;have o:=d.cell 12;have p:=d.cell 13;have zl:=d.lt;simp at q r s u v z A i j o p))
 all_goals
  have bK:=Aa M;clear M d;go_wp2;go_ret;exact⟨AH (λx=>Ending.returned (.string x)) bJ.out,bK.out⟩
end
theorem jZ {m:Nat}(u:mZ m):xB (m+1):=by
 intro w gp B C D E f l x cs s h k j b d g p;cases x with
 |nil=>cases k
 |bN y rest=>
  obtain rfl:=Yg rest (by simpa[Az.length]using k);obtain⟨rest,rfl,rfl⟩:=g;rw[AO];obtain rfl:=XV p;have i:=d.1;cases y with
  |put q t=>show Calls _ _ _ _ (Dt w (KP++Cd++Bv l q++Jo t++AP));rw[RG];exact RA h KP (.inl rfl) i.1 t
  |cu q=>
   have a:=RA h Et (.inr (.inl rfl)) i.1 false;have e:Et++Cd++Bv l q++De false++AP=CB l (.cu q):=by simp[De,CB]
   rw[e]at a;exact a
  |dV q=>
   have a:=RA h Io (.inr (.inr (.inl rfl))) i.1 false;have e:Io++Cd++Bv l q++De false++AP=CB l (.dV q):=by simp[De,CB]
   rw[e]at a;exact a
  |shift q t tl=>show Calls _ _ _ _ (Dt w (Dq++Cd++Bv l q++Cd++Bv l t++Jo tl++AP));rw[RG];exact j3 h i.1.1 i.2.1 tl
  |inc v=>
   have a:=RA h Mo (.inr (.inr (.inr (.inl rfl)))) i.1 false;have e:Mo++Cd++Bv l v++De false++AP=CB l (.inc v):=by simp[De,CB]
   rw[e]at a;exact a
  |dec v=>
   have a:=RA h Mq (.inr (.inr (.inr (.inr rfl)))) i.1 false;have e:Mq++Cd++Bv l v++De false++AP=CB l (.dec v):=by simp[De,CB]
   rw[e]at a;exact a
  |drop=>exact an Ja (.inl rfl)
  |bump=>exact an Jb (.inr rfl)
 |ite c t o e rest=>
  obtain rfl:=Yg rest (by simpa[Az.length]using k);obtain⟨A,ve,rest,rfl,r,z,rfl⟩:=g;rw[AO];obtain rfl:=aE p;simp only[Az.size]at j b;refine zW1 u h d.1 r ?_ (by omega) (by omega) (by omega) d.2.1 d.2.2.1;cases o with
  |true=>exact z
  |false=>exact z
 |rep n c t rest=>
  obtain rfl:=Yg rest (by simpa[Az.length]using k);obtain⟨A,rest,rfl,r,rfl⟩:=g;rw[AO];obtain rfl:=aC p;simp only[Az.size]at j b;exact uH u h d.2.2.2.1 d.2.2.2.2 d.1 r (by omega) (by omega) d.2.1
theorem XQ:∀m,xB m/\mZ m
 |0=>by
  have h:xB 0:=by
   intro w gp g i j k f l x cs s h d a;cases x with
   |nil=>cases d
   |bN p r=>simp[Az.size]at a
   |ite c t o e r=>simp[Az.size]at a
   |rep n c b r=>simp[Az.size]at a
  exact⟨h,Vj h⟩
 |m+1=>by have h:=jZ (XQ m).2;exact⟨h,Vj h⟩
theorem jO {k:Nat}(h:k<=2):B6 k=IB k:=by
 have a:k=0\/k=1\/k=2:=by omega
 rcases a with rfl|rfl|rfl<;>rfl
theorem NZ (k:Nat):(IB k).length<=5:=by
 unfold IB;split
 ·simp
 ·split<;>simp
theorem Mb {p:Ax}(a:Em p) {k:Nat}(b:k<p.decls.length):(Aq p.decls (k:Int)).kind<=2/\(Aq p.decls (k:Int)).name.length<=8/\1<=(Aq p.decls (k:Int)).max/\(Aq p.decls (k:Int)).max<=99/\p.decls[k]?=some (Aq p.decls (k:Int)):=by
 have e:p.decls[k]?=some (Aq p.decls (k:Int)):=by unfold Aq;rw[As,Ae b];rfl
 have h:=a.decls.each _ (Aw e);refine⟨h.kind,h.name.2.1,h.lo,?_,e⟩;have:=h.hi;split at this<;>omega
def Ff (p:Ax) (k:Nat):Ah:=((p.decls.take k).map Ku).flatten
theorem Px {p:Ax}{k:Nat}{d:Bi}(h:p.decls[k]?=some d):Ff p (k+1)=Ff p k++Ku d:=by unfold Ff;rw[ir,h];simp
theorem QX {p:Ax}(f:Em p):∀k,k<=p.decls.length->(Ff p k).length<=40*k
 |0,_=>by simp[Ff]
 |k+1,g=>by obtain⟨a,b,c,d,e⟩:=Mb f (k:=k) (by omega);rw[Px e,Ao];have h:=QX f k (by omega);have i:=NZ (Aq p.decls (k:Int)).kind;have j:=(FP (n:=(Aq p.decls (k:Int)).max) (by omega) (by omega)).2.1;simp[Ku,Cd];omega
theorem I7 {p:Ax}(a:Em p) {k:Int}{b:Az}(h:Bj p.rules k=some b):Ed p.decls b/\b.size<=700:=by have c:=Kv h;have d:=Vp (x:=(k,b)) c;have e:=a.size;exact⟨(a.rules.each _ c).w,by simp only at d;omega⟩
theorem MQ {p:Ax}(a:Em p):∀k,(BD p k).length<=70100*k
 |0=>by simp[BD]
 |k+1=>by
  rw[BD,Ao];have d:=MQ a k;have e:(FJ p k).length<=70100:=by
   unfold FJ;split
   ·rename_i b c;obtain⟨f,g,h⟩:=zp3 (Eo a.decls (I7 a c).1) ((I7 a c).2) (DB a.decls (k:Int));simp[Cd];omega
   ·simp
  omega
theorem RL {p:Ax}(a:Em p):(DT p.bI).length<=20:=by
 unfold DT;split
 ·have b:=(FP (n:=p.bI) (by omega) (by have:=a.bI;omega)).2.1;simp[Cd];omega
 ·simp
section
variable {N:Nat->Prop}{w:World}{gp:Nat}{p:Ax}
theorem Mf.rW (h:Mf N w gp p) (e:Em p):∃a b c d,dT w gp a b c d p.bI p.decls:=by obtain⟨a,b,c,d,i,j,f,g,_⟩:=h;exact⟨a,b,c,d,f,g.mono (λ_ _=>trivial),e.decls⟩
theorem iP (h:Mf N w gp p) (c:Em p) {b:Az}{v:Value}(d:Ct N w v b) (e:Ed p.decls b) (l:b.size<=700):∀W,Ac (λb=>w.heap.size<=b) w W->Calls prog 34 #[.pointer (some ⟨gp,0,none⟩),v] W (Dt W (BV p.decls b)):=λW a=>by obtain⟨f,g,i,j,k⟩:=h.rW c;exact(XQ b.size).2 W gp f g i j p.bI p.decls b v (k.later a) (Ab _) (by omega) e (VH a (d.mono (λ_ _ _=>trivial)))
theorem jY (h:Mf N w gp p) (C:Em p):Calls prog 17 #[.pointer (some ⟨gp,0,none⟩)] w (Dt w (text p)):=by
 obtain⟨vd,vr,vh,vm,hs,rs,p1,p2,p3,p4,p5,am,nm,cm,rfl⟩:=id h;obtain⟨hn,c0,c1,c2,c3,c4,gl⟩:=zp7 C.decls.len (p1.cell 0) (p1.cell 1) (p1.cell 2) (p1.cell 3) (p1.cell 4) p1.lt;obtain⟨ad,cd,rfl⟩:=p2.cB;obtain⟨ah,ch,rfl⟩:=p3.has.cB;obtain⟨ar,cr,rfl⟩:=p3.jm.cB;simp at c0 c1 c2 c3 c4;obtain⟨bm,M⟩:∃b,Es p.rules=some b:=Option.isSome_iff_exists.1 C.qp;have bJ:=I7 C (k:= -1) M;have D:∀W,Ac (λb=>w.heap.size<=b) w W->Calls prog 34 #[.pointer (some ⟨gp,0,none⟩),.slice am nm cm] W (Dt W (BV p.decls bm)):=iP h C (by have:=p4.vm;rw[M]at this;exact this) bJ.1 bJ.2;have jh:=Eo C.decls bJ.1;have cZ:RK p=[111,110,32,109,105,115,115,32]++BV p.decls bm++[10]:=by unfold RK;rw[M];rfl
 obtain⟨bK,bL,da,ji⟩:=zp4 (QX C) (MQ C) (RL C) C.bI;obtain⟨bM,fy,dd,fB,fC,H,HP,E⟩:=zq8 D cZ bK bL da h C p3;have dG:=Aa p4;generalize hL:p.decls.length=L at*;have HL:=Aa hL;clear D cZ bK bL da h C p1 p2 p3 p4 p5 M hL;go_enter func17,ntmps17;go_wp2_with fail
 go_loopg [13,3] L (λgg fE O wr=>∃k:Nat,k<=L/\L-k<=gg/\fE= .int .i64 k/\O= .string ⟨(Ff p k).toArray⟩/\Ac (λb=>w.heap.size<=b) w wr)
 case atStart=>exact⟨0,AM _,by omega,rfl,rfl,Ac.refl _ _⟩
 case round=>
  obtain⟨k,V,hg,rfl,rfl,f⟩:=hrel;have iE:=dd.out k V;by_cases jj:k<L
  ·obtain⟨gd,fF,u,f1,f2,f3,f4,f5,f6,f7⟩:=H.out.decl (k:=k) (by have:=HL.out;omega);obtain⟨a,b,c,d,e⟩:=Mb HP.out (k:=k) (by have:=HL.out;omega);rw[c0]at u;injection u with u;injection u with u e0 bO;subst u bO;clear e0;have z0:=(f.cell (p:=⟨gd,k*3,none⟩) (by simp only;omega)).trans f5;have z1:=(f.cell (p:=⟨gd,k*3+1,none⟩) (by simp only;omega)).trans f6;have z2:=(f.cell (p:=⟨gd,k*3+2,none⟩) (by simp only;omega)).trans f7;have zl:=An f3 f.size;rw[jO a]at z0;have jC:=NZ (Aq p.decls (k:Int)).kind;have jD:=(FP (n:=(Aq p.decls (k:Int)).max) (by omega) (by omega)).2.1;have r:=Px e;have l:∀W,Ac (λb=>w.heap.size<=b) w W->AF W wr.heap.size 87 [vs (IB (Aq p.decls (k:Int)).kind),vs (Aq p.decls (k:Int)).name,.int .i64 (Aq p.decls (k:Int)).max]->Calls prog 33 #[.int .i64 (Aq p.decls (k:Int)).max] W λy w'=>y= .returned (vs (Ck (Aq p.decls (k:Int)).max))/\Ac (λb=>w.heap.size<=b) w w'/\AF w' wr.heap.size 87 [vs (IB (Aq p.decls (k:Int)).kind),vs (Aq p.decls (k:Int)).name,.int .i64 (Aq p.decls (k:Int)).max]:=λW V hr=>by refine(RF (n:=(Aq p.decls (k:Int)).max) (by omega) (by omega)).mono ?_;rintro y w' ⟨h1,h2⟩;exact⟨h1,V.trans (h2.mono (λb hb=>Ad V.size hb)),hr.kept h2 (λe=>by have:=hr.lt;omega)⟩
   have dI:Ku (Aq p.decls (k:Int))=IB (Aq p.decls (k:Int)).kind++Cd++(Aq p.decls (k:Int)).name++Cd++Ck (Aq p.decls (k:Int)).max++[59,10]:=rfl;rw[dI]at r;generalize IB (Aq p.decls (k:Int)).kind=m at*;generalize (Aq p.decls (k:Int)).name=g at*;generalize fK:(Aq p.decls (k:Int)).max=F at*;generalize Ck F=Q at*;generalize o:Ff p k=z at*;have s1:=B8 (P:=prog) (a:=⟨m.toArray⟩) (b:=⟨#[32]⟩) (by simp only[Ag,Ay,Af,Ak];omega);have s2:=B8 (P:=prog) (a:=⟨m.toArray⟩++⟨#[32]⟩) (b:=⟨g.toArray⟩) (by simp only[Ag,Ay,Af,Ak];omega);have O:=B8 (P:=prog) (a:=⟨m.toArray⟩++⟨#[32]⟩++⟨g.toArray⟩) (b:=⟨#[32]⟩) (by simp only[Ag,Ay,Af,Ak];omega);have s4:=B8 (P:=prog) (a:=⟨m.toArray⟩++⟨#[32]⟩++⟨g.toArray⟩++⟨#[32]⟩) (b:=⟨Q.toArray⟩) (by simp only[Ag,Ay,Af,Ak];omega);have s5:=B8 (P:=prog) (a:=⟨m.toArray⟩++⟨#[32]⟩++⟨g.toArray⟩++⟨#[32]⟩++⟨Q.toArray⟩) (b:=⟨#[59,10]⟩) (by simp only[Ag,Ay,Af,Ak];omega);have s6:=B8 (P:=prog) (a:=⟨z.toArray⟩) (b:=⟨m.toArray⟩++⟨#[32]⟩++⟨g.toArray⟩++⟨#[32]⟩++⟨Q.toArray⟩++⟨#[59,10]⟩) (by simp only[Ag,Ay,Af,Ak];omega);have i:(⟨z.toArray⟩:ByteArray)++(⟨m.toArray⟩++⟨#[32]⟩++⟨g.toArray⟩++⟨#[32]⟩++⟨Q.toArray⟩++⟨#[59,10]⟩)=⟨(Ff p (k+1)).toArray⟩:=by rw[r,BK,BK,BK,BK,BK,BK];rfl
   obtain⟨q,G⟩:=zq2 i l;have A:AF (wr.alloc (.cells #[vs m,vs g,.int .i64 F] 87)).drew wr.heap.size 87 [vs m,vs g,.int .i64 F]:=(AF.new wr 87 _).drew;have kq:Ac (λb=>w.heap.size<=b) w (wr.alloc (.cells #[vs m,vs g,.int .i64 F] 87)).drew:=(f.alloc f.size _).drew;clear i l r dI o e f5 f6 f7 f fK;unfold vs at*;go_wp2_with fail
   go_region_law (go_simp;go_at_call 33;refine(G.out _ ?_ ?_).mono ?_;assumption;assumption;rintro y wq ⟨rfl,kq,A⟩;have bR:=A.cell 0;have bS:=A.cell 1;have bT:=A.cell 2;have zl:=A.lt;simp at bR bS bT)
   all_goals
    have bU:=Aa kq;clear kq A;go_wp2;go_roundg (L-(k+1))
    case measure=>omega
    case rel=>exact⟨k+1,by omega,by omega,by go_num,AH Value.string q.out,bU.out⟩
  ·have fN:k=L:=by omega
   subst fN;have s:=Aa f;have kl:=f.size;have c0:=(f.cell (p:=⟨gp,0,none⟩) (by simp only;omega)).trans c0;have c1:=(f.cell (p:=⟨gp,1,none⟩) (by simp only;omega)).trans c1;clear f;go_upto_if 36 with fail;go_cut [3] (λO wx=>O= .string ⟨(Ff p k++DT p.bI).toArray⟩/\Ac (λb=>w.heap.size<=b) w wx)
   case first=>
    generalize o:Ff p k=z at*;by_cases R:0<p.bI
    ·have l:=λW=>RF (w:=W) (n:=p.bI) (by omega) (by omega);have bK:=(FP (n:=p.bI) (by omega) (by omega)).2.1;have I:DT p.bI=[102,114,101,113,32]++Ck p.bI++[59,10]:=by unfold DT;rw[Al R];simp[Cd]
     have e1:decide (p.bI>0)=true:=D0 R;generalize p.bI=fq at*;generalize Ck fq=Q at*;have s1:=B8 (P:=prog) (a:=⟨#[102,114,101,113,32]⟩) (b:=⟨Q.toArray⟩) (by simp only[Ag,Ay,Af,Ak];omega);have s2:=B8 (P:=prog) (a:=⟨#[102,114,101,113,32]⟩++⟨Q.toArray⟩) (b:=⟨#[59,10]⟩) (by simp only[Ag,Ay,Af,Ak];omega);have O:=B8 (P:=prog) (a:=⟨z.toArray⟩) (b:=⟨#[102,114,101,113,32]⟩++⟨Q.toArray⟩++⟨#[59,10]⟩) (by simp only[Ag,Ay,Af,Ak];omega);have i:(⟨z.toArray⟩:ByteArray)++(⟨#[102,114,101,113,32]⟩++⟨Q.toArray⟩++⟨#[59,10]⟩)=⟨(z++DT fq).toArray⟩:=by rw[I,BK,BK,BK]
     obtain⟨q,G⟩:=zq2 i l;clear i l I o;go_wp2_with fail;refine(G.out _).mono ?_;rintro y w2 ⟨rfl,dJ⟩;have bV:=Aa dJ;clear dJ;unfold vs;go_wp2;go_meet;exact⟨AH Value.string q.out,s.out.trans (bV.out.mono (λb hb=>Ad kl hb))⟩
    ·have e1:decide (p.bI>0)=false:=B9 R;have I:DT p.bI=[]:=by unfold DT;rw[Ai R]
     have fP:=Aa I;clear I o;generalize p.bI=fq at*;go_wp2;go_meet;exact⟨by rw[fP.out,AO],s.out⟩
   obtain⟨rfl,k2⟩:=hcut;have bV:=Aa k2;have c0:=(k2.cell (p:=⟨gp,0,none⟩) (by simp only;omega)).trans (by assumption:w.cell? ⟨gp,0,none⟩=_);have kG:=k2.size;have lm:(Ff p k++DT p.bI).length<=1000:=by rw[Ao];have:=fC.out;have:=dd.out k (Ab _);omega
   generalize dK:Ff p k++DT p.bI=S at*;have fR:=Aa dK;clear k2 dK;go_wp2_with fail
   go_loopg [51,3] k (λgg fS O wr=>∃j:Nat,j<=k/\k-j<=gg/\fS= .int .i64 j/\O= .string ⟨(S++BD p j).toArray⟩/\Ac (λb=>w.heap.size<=b) w wr)
   case atStart=>exact⟨0,AM _,by omega,rfl,by rw[show BD p 0=[]from rfl,AO],bV.out⟩
   case round=>
    obtain⟨j,hj,lP,rfl,rfl,f⟩:=hrel;have bL:=fB.out j;have wl:=f.size;by_cases X:j<k
    ·obtain⟨gd,fF,u,f1,f2,f3,f4,f5,f6,f7⟩:=H.out.decl (k:=j) (by have:=HL.out;omega);obtain⟨a,b,c,d,e⟩:=Mb HP.out (k:=j) (by have:=HL.out;omega);have bW:w.cell? ⟨gp,0,none⟩=some (.slice ad k cd):=by assumption
     have bX:w.cell? ⟨gp,2,none⟩=some (.slice ar k cr):=by assumption
     have bY:w.cell? ⟨gp,3,none⟩=some (.slice ah k ch):=by assumption
     rw[bW]at u;injection u with u;injection u with u e0 bO;subst u bO;clear e0;obtain⟨gh,lQ,eh,_,h1,h2,h3⟩:=E.out.has.form (by omega);injection eh with eh _ fU;subst eh fU;have hc:=E.out.has.1.cellAt j (by omega);rw[At,dG.out.hs j X]at hc;obtain⟨gr,lS,er,_,r1,r2,r3⟩:=E.out.jm.form (by omega);injection er with er _ gI;subst er gI;obtain⟨v,hv,J⟩:=dG.out.rs j X;obtain⟨av,nv,cv,rfl⟩:=E.out.shape v (Aw hv);have rc:=E.out.jm.1.cellAt j (by omega);rw[hv]at rc;have z0:=(f.cell (p:=⟨gd,j*3,none⟩) (by simp only;omega)).trans f5;have z1:=(f.cell (p:=⟨gd,j*3+1,none⟩) (by simp only;omega)).trans f6;have z2:=(f.cell (p:=⟨gd,j*3+2,none⟩) (by simp only;omega)).trans f7;have zh:=(f.cell (p:=⟨gh,j,none⟩) (by simp only;omega)).trans hc;have zr:=(f.cell (p:=⟨gr,j,none⟩) (by simp only;omega)).trans rc;have y2:=(f.cell (p:=⟨gp,2,none⟩) (by simp only;omega)).trans bX;have y3:=(f.cell (p:=⟨gp,3,none⟩) (by simp only;omega)).trans bY;obtain⟨zl,lZ,l7⟩:=zp3 (An f3 f.size) (An h3 f.size) (An r3 f.size);have n1:¬gp=wr.heap.size:=by omega
     have n2:¬gh=wr.heap.size:=by omega
     have n3:¬gr=wr.heap.size:=by omega
     have n4:gp<wr.heap.size:=by omega
     have T:BD p (j+1)=BD p j++FJ p j:=rfl;unfold maxLen at h2 r2;simp only[Ca]at zh;have bZ:Bv p.decls (j:Int)=(Aq p.decls (j:Int)).name:=rfl;cases t:Bj p.rules (j:Int)with
     |none=>
      have B:FJ p j=[]:=by unfold FJ;rw[t]
      rw[t]at zh;obtain⟨ik,s⟩:=zq2 (show BD p (j+1)=BD p j by rw[T,B,AO]) f;generalize B6 (Aq p.decls (j:Int)).kind=m at*;generalize (Aq p.decls (j:Int)).name=g at*;generalize (Aq p.decls (j:Int)).max=F at*;clear T B f hc hv J rc f5 f6 f7 bW bX bY t e bZ;simp only[dC]at zh;unfold vs at*;go_wp2;go_roundg (k-(j+1))
      case measure=>omega
      case rel=>exact⟨j+1,by omega,by omega,by go_num,by rw[ik.out],s.out.alloc wl _⟩
     |some bl=>
      have B:FJ p j=T9++Cd++Bv p.decls (j:Int)++Cd++BV p.decls bl++[10]:=by unfold FJ;rw[t]
      rw[t]at zh J;rw[Ih]at J;obtain⟨Y,dN⟩:=I7 HP.out t;have l8:=Eo HP.out.decls Y;have dO:=iP H.out HP.out J Y dN;rw[bZ]at B;generalize B6 (Aq p.decls (j:Int)).kind=m at*;generalize (Aq p.decls (j:Int)).name=g at*;generalize (Aq p.decls (j:Int)).max=F at*;generalize ci:BV p.decls bl=U at*;have Z:∀W,Ac (λb=>w.heap.size<=b) w W->AF W wr.heap.size 87 [vs m,vs g,.int .i64 F]->Calls prog 34 #[.pointer (some ⟨gp,0,none⟩),.slice av nv cv] W λy w'=>y= .returned (vs U)/\Ac (λb=>w.heap.size<=b) w w'/\AF w' wr.heap.size 87 [vs m,vs g,.int .i64 F]:=λW V hr=>by refine(dO W V).mono ?_;rintro y w' ⟨q1,q2⟩;exact⟨q1,V.trans (q2.mono (λb hb=>Ad V.size hb)),hr.kept q2 (λe=>by have:=hr.lt;omega)⟩
      have iu:(S++BD p j).length<=600000:=by rw[Ao];omega
      have K:S++BD p (j+1)=(S++BD p j)++([111,110,32]++g++[32]++U++[10]):=by rw[T,B];simp[Cd]
      generalize o:S++BD p j=z at*;have s1:=B8 (P:=prog) (a:=⟨#[111,110,32]⟩) (b:=⟨g.toArray⟩) (by simp only[Ag,Ay,Af,Ak];omega);have s2:=B8 (P:=prog) (a:=⟨#[111,110,32]⟩++⟨g.toArray⟩) (b:=⟨#[32]⟩) (by simp only[Ag,Ay,Af,Ak];omega);have O:=B8 (P:=prog) (a:=⟨#[111,110,32]⟩++⟨g.toArray⟩++⟨#[32]⟩) (b:=⟨U.toArray⟩) (by simp only[Ag,Ay,Af,Ak];omega);have s4:=B8 (P:=prog) (a:=⟨#[111,110,32]⟩++⟨g.toArray⟩++⟨#[32]⟩++⟨U.toArray⟩) (b:=⟨#[10]⟩) (by simp only[Ag,Ay,Af,Ak];omega);have s5:=B8 (P:=prog) (a:=⟨z.toArray⟩) (b:=⟨#[111,110,32]⟩++⟨g.toArray⟩++⟨#[32]⟩++⟨U.toArray⟩++⟨#[10]⟩) (by simp only[Ag,Ay,Af,Ak];omega);have i:(⟨z.toArray⟩:ByteArray)++(⟨#[111,110,32]⟩++⟨g.toArray⟩++⟨#[32]⟩++⟨U.toArray⟩++⟨#[10]⟩)=⟨(S++BD p (j+1)).toArray⟩:=by rw[K,BK,BK,BK,BK,BK]
      obtain⟨q,dP⟩:=zq2 i Z;have A:AF (wr.alloc (.cells #[vs m,vs g,.int .i64 F] 87)).drew wr.heap.size 87 [vs m,vs g,.int .i64 F]:=(AF.new wr 87 _).drew;have kq:Ac (λb=>w.heap.size<=b) w (wr.alloc (.cells #[vs m,vs g,.int .i64 F] 87)).drew:=(f.alloc f.size _).drew;clear T B f hc hv J rc f5 f6 f7 bW bX bY t e bZ dO Z i K o ci;simp only[Option.isSome_some]at zh;unfold vs at*;go_wp2_with fail
      go_region_law (go_simp;go_at_call 34;refine(dP.out _ ?_ ?_).mono ?_;assumption;assumption;rintro y wq ⟨rfl,kq,A⟩;have bR:=A.cell 0;have bS:=A.cell 1;have bT:=A.cell 2;have zl:=A.lt;simp at bR bS bT)
      all_goals
       have bU:=Aa kq;clear kq A;go_wp2;go_roundg (k-(j+1))
       case measure=>omega
       case rel=>exact⟨j+1,by omega,by omega,by go_num,AH Value.string q.out,bU.out⟩
    ·have iw:j=k:=by omega
     subst iw;have ix:w.cell? ⟨gp,4,none⟩=some (.slice am nm cm):=by assumption
     have y4:=(f.cell (p:=⟨gp,4,none⟩) (by simp only;omega)).trans ix;have s:=Aa f;have iu:(S++BD p j).length<=600000:=by rw[Ao];omega
     have K:text p=(S++BD p j)++[111,110,32,109,105,115,115,32]++BV p.decls bm++[10]:=by
      have e1:Ff p j=(p.decls.map Ku).flatten:=by unfold Ff;rw[←HL.out,Kk]
      unfold text;rw[fy.out,HL.out,←e1,←fR.out];simp only[AL]
     have iy:=Aa K;generalize o:S++BD p j=z at*;generalize ci:BV p.decls bm=U at*;have s1:=B8 (P:=prog) (a:=⟨z.toArray⟩) (b:=⟨#[111,110,32,109,105,115,115,32]⟩) (by simp only[Ag,Ay,Af,Ak];omega);have s2:=B8 (P:=prog) (a:=⟨z.toArray⟩++⟨#[111,110,32,109,105,115,115,32]⟩) (b:=⟨U.toArray⟩) (by simp only[Ag,Ay,Af,Ak];omega);have O:=B8 (P:=prog) (a:=⟨z.toArray⟩++⟨#[111,110,32,109,105,115,115,32]⟩++⟨U.toArray⟩) (b:=⟨#[10]⟩) (by simp only[Ag,Ay,Af,Ak];omega);clear f K o ci;go_wp2_with fail;refine(bM.out _ s.out).mono ?_;rintro y w5 ⟨rfl,dQ⟩;have iz:=Aa dQ;clear dQ;unfold vs;go_wp2;go_ret;refine⟨?_,s.out.trans (iz.out.mono (λb hb=>Ad wl hb))⟩;rw[iy.out];refine AH (λx=>Ending.returned (.string x)) ?_;rw[BK,BK,BK]
end
theorem SN {T e:TypeId}{B b:Nat}{c:List Value}{w w':World}(h:Lib.IsBuilder T e B b c w) (i:Ac (λk=>w.heap.size<=k) w w'):Lib.IsBuilder T e B b c w':=by
 have a:∀p,Lib.BuilderAt T e B b p c w->Lib.BuilderAt T e B b p c w':=by
  rintro p ⟨r,v,j,l,s⟩;have m:∀(g:Nat) o,w.heap[g]?=some o->g<w.heap.size:=λg o n=>by
   rcases Be g w.heap.size with h|h
   ·exact h
   ·rw[Cj h]at n;cases n
  refine⟨r,v,(i.block b (λh=>by have:=m b _ j;omega)).trans j,⟨l.1,?_⟩,s⟩;rcases l.2 with h|⟨g,d,f,t,u,q,y⟩
  ·exact .inl h
  ·exact .inr ⟨g,d,f,t,u,(i.block g (λh=>by have:=m g _ q;omega)).trans q,y⟩
 exact h.elim (λx=>.inl (a _ x)) (λx=>.inr (a _ x))
theorem xe (w:World):Lib.IsBuilder 143 5 w.heap.size w.heap.size (Lib.byteCells []) (w.alloc (.cells #[.pointer none,.slice none 0 0] 143)):=
 .inl ⟨Ab _,.slice none 0 0,P7 w _,⟨rfl,.inl ⟨rfl,rfl⟩⟩,λh=>by cases h⟩
theorem FT.oy {N:Nat->Prop}{w:World}{bm:Nat}{a:List (Int×Az)}(h:FT N w bm a) (k:Int):∃v,(∀W,Ac (λb=>w.heap.size<=b) w W->∀c,(Instr.lookup 104 (.map (some bm)) (.int .i64 k) c).run prog W=
  .ok (if c then .tuple #[v,.bool (Bj a k).isSome]else v) W)/\(match Bj a k with|some b=>DG N w v b|none=>v= .slice none 0 0):=by
 obtain⟨M,g,l,m⟩:=h;have f:=Tt M a l m k;have d:∀W,Ac (λb=>w.heap.size<=b) w W->BR W bm .i64 M:=λW e=>g.kept e (λi=>by have:=g.lt;omega);cases j:Bj a k with
 |none=>
  rw[j]at f;refine⟨.slice none 0 0,λW e c=>?_,rfl⟩;rw[(d W e).lookup (P:=prog) EV Db PH k c,show FX M k=none from f];rfl
 |some b=>
  rw[j]at f;obtain⟨v,n,i⟩:=f;refine⟨v,λW e c=>?_,i⟩;rw[(d W e).lookup (P:=prog) EV Db PH k c,n];rfl
theorem TI {B b:Nat}{l s:Ah}{w0 W:World}{x:ByteArray}(h:Lib.IsBuilder 143 5 B b (Lib.byteCells l) W) (c:B<=w0.heap.size) (a:Ac (λk=>B<=k) w0 W) (d:x=⟨s.toArray⟩) (j:l.length+s.length<=1000000000):
  Calls prog 57 #[.pointer (some ⟨b,0,none⟩),.string x] W λe w'=>(∃n,e= .returned (.tuple #[.int .i64 n,.nilIface]))/\Lib.IsBuilder 143 5 B b (Lib.byteCells (l++s)) w'/\Ac (λk=>B<=k) w0 w':=by
 subst d;refine(gJ h (by omega) (Ad c a.size)).mono ?_;rintro e w' ⟨f,g,i⟩;exact⟨f,g,a.trans i⟩
theorem p7 (W:World):(Instr.index 146 (.agg #[.string ⟨#[113,117,101,117,101]⟩,.string ⟨#[103,104,111,115,116]⟩,.string ⟨#[118,97,114]⟩]) (.int .i64 0)).run prog W= .ok (.string ⟨EO.toArray⟩) W:=by kernel_rfl
theorem p6 (W:World):(Instr.index 146 (.agg #[.string ⟨#[113,117,101,117,101]⟩,.string ⟨#[103,104,111,115,116]⟩,.string ⟨#[118,97,114]⟩]) (.int .i64 1)).run prog W= .ok (.string ⟨Gg.toArray⟩) W:=by kernel_rfl
theorem pZ (W:World):(Instr.index 146 (.agg #[.string ⟨#[113,117,101,117,101]⟩,.string ⟨#[103,104,111,115,116]⟩,.string ⟨#[118,97,114]⟩]) (.int .i64 2)).run prog W= .ok (.string ⟨Jy.toArray⟩) W:=by kernel_rfl
section
variable {S:Nat->Prop}{w:World}{gp bm:Nat}{p:Ax}{vd:Value}
theorem iQ (h:ZY w gp vd (.map (some bm)) p.bI p.decls) {N:Nat->Prop}{b:Az}{v:Value}(c:DG N w v b) (d:Ed p.decls b) (g:b.size<=700):∀W,Ac (λb=>w.heap.size<=b) w W->Calls prog 59 #[.pointer (some ⟨gp,0,none⟩),v] W (Dt W (BV p.decls b)):=λW a=>by obtain⟨cs,e,f⟩:=c;exact(aF b.size).2 W gp vd (.map (some bm)) p.bI p.decls b v (h.later a) (Ab _) (by omega) d (YD a ⟨cs,e.mono (λ_ _ _=>trivial),A5.mono (λ_ _ _=>trivial) b cs f⟩)
theorem oZ (h:ZY w gp vd (.map (some bm)) p.bI p.decls) (hr:FT S w bm p.rules) (hp:Em p):Calls prog 32 #[.pointer (some ⟨gp,0,none⟩)] w (Dt w (text p)):=by
 obtain⟨hn,c0,c1,c2,gl⟩:=zp5 hp.decls.len (h.bQ.cell 0) (h.bQ.cell 1) (h.bQ.cell 2) h.bQ.lt;obtain⟨ad,cd,rfl⟩:=h.decls.cB;simp at c0 c1 c2;have dI:∀k,k<p.decls.length->∃C,ad=some ⟨C,0,none⟩/\p.decls.length<=cd/\cd<=9223372036854775807/\C<w.heap.size/\w.cell? ⟨C,k*3,none⟩=some (.int .i64 (Aq p.decls (k:Int)).kind)/\w.cell? ⟨C,k*3+1,none⟩=some (vs (Aq p.decls (k:Int)).name)/\w.cell? ⟨C,k*3+2,none⟩=some (.int .i64 (Aq p.decls (k:Int)).max):=by
  intro k m;obtain⟨C,jn,ed,_,M,E,q3⟩:=h.decls.form (by omega);injection ed with ed _ fC;subst ed fC;have e:p.decls[k]?=some (Aq p.decls (k:Int)):=by unfold Aq;rw[As,Ae m];rfl
  unfold maxLen at E;exact⟨C,rfl,M,E,q3,h.decls.at_ (λ_=>rfl) e (j:=0) (by omega),h.decls.at_ (λ_=>rfl) e (j:=1) (by omega),h.decls.at_ (λ_=>rfl) e (j:=2) (by omega)⟩
 have dK:=Aa dI;obtain⟨bV,bW,dL,jo⟩:=zp4 (QX hp) (MQ hp) (RL hp) hp.bI;obtain⟨dN,fD,fE,H,HR,HP⟩:=zq6 bV bW dL h hr hp;have dO:=xe w;have k0:Ac (λb=>w.heap.size<=b) w (w.alloc (.cells #[.pointer none,.slice none 0 0] 143)):=(Ac.refl _ w).alloc (Ab _) _;obtain⟨fF,K0⟩:=zq2 dO k0;generalize hL:p.decls.length=L at*;have HL:=Aa hL;have e0:¬gp=w.heap.size:=by omega
 clear bV bW dL h hr hp hL dO k0 dI;go_enter func32,ntmps32;go_wp2_with fail
 go_loopg [15] L (λgg fH wr=>∃k:Nat,k<=L/\L-k<=gg/\fH= .int .i64 k/\Ac (λb=>w.heap.size<=b) w wr/\Lib.IsBuilder 143 5 w.heap.size w.heap.size (Lib.byteCells (Ff p k)) wr)
 case atStart=>exact⟨0,AM _,by omega,rfl,K0.out,fF.out⟩
 case round=>
  obtain⟨k,m,hg,rfl,f,N⟩:=hrel;have jg:=dN.out k m;obtain⟨Y,t⟩:=zq2 f N;clear N;by_cases fJ:k<L
  ·obtain⟨C,rfl,M,E,q3,x0,x1,x2⟩:=dK.out k fJ;obtain⟨a,b,c,d,e⟩:=Mb HP.out (k:=k) (by have:=HL.out;omega);have z0:=(f.cell (p:=⟨C,k*3,none⟩) (by simp only;omega)).trans x0;have z1:=(f.cell (p:=⟨C,k*3+1,none⟩) (by simp only;omega)).trans x1;have z2:=(f.cell (p:=⟨C,k*3+2,none⟩) (by simp only;omega)).trans x2;have zl:=An q3 f.size;have jF:=(FP (n:=(Aq p.decls (k:Int)).max) (by omega) (by omega)).2.1;have jG:=NZ (Aq p.decls (k:Int)).kind;have D:=Px e;have dP:Ku (Aq p.decls (k:Int))=IB (Aq p.decls (k:Int)).kind++Cd++(Aq p.decls (k:Int)).name++Cd++Ck (Aq p.decls (k:Int)).max++[59,10]:=rfl;rw[dP]at D;have hit:∀W,Calls prog 58 #[.int .i64 (Aq p.decls (k:Int)).max] W λe w'=>e= .returned (vs (Ck (Aq p.decls (k:Int)).max))/\w'=W:=λW=>by
    have:=TJ (Aq p.decls (k:Int)).max.toNat (by omega) W;rw[Lu (by omega)]at this;have e:(((Aq p.decls (k:Int)).max.toNat:Nat):Int)=(Aq p.decls (k:Int)).max:=by omega
    rw[e]at this;exact this
   generalize fK:(Aq p.decls (k:Int)).kind=kd at*;generalize bK:IB kd=s at*;generalize (Aq p.decls (k:Int)).name=i at*;generalize (Aq p.decls (k:Int)).max=K at*;generalize Ck K=dg at*;generalize u:Ff p k=SS at*;have s1:=B8 (P:=prog) (a:=⟨s.toArray⟩) (b:=⟨#[32]⟩) (by simp only[Ag,Ay,Af,Ak];omega);have s2:=B8 (P:=prog) (a:=⟨s.toArray⟩++⟨#[32]⟩) (b:=⟨i.toArray⟩) (by simp only[Ag,Ay,Af,Ak];omega);have s3:=B8 (P:=prog) (a:=⟨s.toArray⟩++⟨#[32]⟩++⟨i.toArray⟩) (b:=⟨#[32]⟩) (by simp only[Ag,Ay,Af,Ak];omega);have s4:=B8 (P:=prog) (a:=⟨s.toArray⟩++⟨#[32]⟩++⟨i.toArray⟩++⟨#[32]⟩) (b:=⟨dg.toArray⟩) (by simp only[Ag,Ay,Af,Ak];omega);have s5:=B8 (P:=prog) (a:=⟨s.toArray⟩++⟨#[32]⟩++⟨i.toArray⟩++⟨#[32]⟩++⟨dg.toArray⟩) (b:=⟨#[59,10]⟩) (by simp only[Ag,Ay,Af,Ak];omega);have hx:(⟨s.toArray⟩:ByteArray)++⟨#[32]⟩++⟨i.toArray⟩++⟨#[32]⟩++⟨dg.toArray⟩++⟨#[59,10]⟩=⟨(s++Cd++i++Cd++dg++[59,10]).toArray⟩:=by rw[BK,BK,BK,BK,BK];rfl
   have ka:Ac (λb=>wr.heap.size<=b) wr (wr.alloc (.cells #[.int .i64 (kd:Int),vs i,.int .i64 K] 102)).drew:=((Ac.refl _ wr).alloc (Ab _) _).drew;have X:=TI (w0:=w) (SN t.out ka) (Ab _) (f.trans (ka.mono (λb r=>Ad f.size r))) hx (by simp only[Ao,Af,Ak,Cd];omega);rw[←D]at X;obtain⟨HW,bY⟩:=zq2 X hit;clear X hit hx ka D dP u e f t fK x0 x1 x2;unfold vs at*;have jR:∀W,(Instr.index 146 (.agg #[.string ⟨#[113,117,101,117,101]⟩,.string ⟨#[103,104,111,115,116]⟩,.string ⟨#[118,97,114]⟩]) (.int .i64 (kd:Int))).run prog W= .ok (.string ⟨s.toArray⟩) W:=by
    intro W;have fN:kd=0\/kd=1\/kd=2:=by omega
    rw[←bK];rcases fN with rfl|rfl|rfl
    ·exact p7 W
    ·exact p6 W
    ·exact pZ W
   clear a bK;go_wp2_with fail
   go_region_law (first
    |(go_simp;go_at_call 58;refine(bY.out _).mono ?_;rintro y w5 ⟨rfl,rfl⟩)
    |(go_simp;go_at_call 57;refine HW.out.mono ?_;rintro y w5 ⟨⟨n5,rfl⟩,z,A⟩;have F5:=Aa (And.intro z A);clear z A))
   all_goals
    go_wp2;go_roundg (L-(k+1))
    case measure=>omega
    case rel=>exact⟨k+1,by omega,by omega,by go_num,F5.out.2,F5.out.1⟩
  ·have fP:k=L:=by omega
   subst fP;have kl:=f.size;have kG:=(f.cell (p:=⟨gp,0,none⟩) (by simp only;omega)).trans c0;have lm:=(f.cell (p:=⟨gp,1,none⟩) (by simp only;omega)).trans c1;clear f;go_upto_if 39 with fail;go_cut [] (λwx=>Ac (λb=>w.heap.size<=b) w wx/\Lib.IsBuilder 143 5 w.heap.size w.heap.size (Lib.byteCells (Ff p k++DT p.bI)) wx)
   case first=>
    generalize u:Ff p k=SS at*;by_cases Z:0<p.bI
    ·have hit:∀W,Calls prog 58 #[.int .i64 p.bI] W λe w'=>e= .returned (vs (Ck p.bI))/\w'=W:=λW=>by
      have:=TJ p.bI.toNat (by omega) W;rw[Lu (by omega)]at this;have e:((p.bI.toNat:Nat):Int)=p.bI:=by omega
      rw[e]at this;exact this
     have bV:=(FP (n:=p.bI) (by omega) (by omega)).2.1;have F:DT p.bI=[102,114,101,113,32]++Ck p.bI++[59,10]:=by unfold DT;rw[Al Z];simp[Cd]
     have e1:decide (p.bI>0)=true:=D0 Z;generalize p.bI=fq at*;generalize Ck fq=dg at*;have s1:=B8 (P:=prog) (a:=⟨#[102,114,101,113,32]⟩) (b:=⟨dg.toArray⟩) (by simp only[Ag,Ay,Af,Ak];omega);have s2:=B8 (P:=prog) (a:=⟨#[102,114,101,113,32]⟩++⟨dg.toArray⟩) (b:=⟨#[59,10]⟩) (by simp only[Ag,Ay,Af,Ak];omega);have hx:(⟨#[102,114,101,113,32]⟩:ByteArray)++⟨dg.toArray⟩++⟨#[59,10]⟩=⟨(DT fq).toArray⟩:=by rw[F,BK,BK]
     have X:=TI (w0:=w) t.out (Ab _) Y.out hx (by rw[F];simp only[Ao,Af,Ak];omega);obtain⟨HW,bY⟩:=zq2 X hit;clear X hit hx F u;unfold vs at*;go_wp2_with fail;refine(bY.out _).mono ?_;rintro y w2 ⟨rfl,rfl⟩;go_wp2_with fail;refine HW.out.mono ?_;rintro y w5 ⟨⟨n5,rfl⟩,z,A⟩;have F5:=Aa (And.intro z A);clear z A;go_wp2;go_meet;exact⟨F5.out.2,F5.out.1⟩
    ·have e1:decide (p.bI>0)=false:=B9 Z;have F:DT p.bI=[]:=by unfold DT;rw[Ai Z]
     have fS:=Aa F;clear F u;generalize p.bI=fq at*;go_wp2;go_meet;exact⟨Y.out,by rw[fS.out,AO];exact t.out⟩
   obtain⟨k2,dS⟩:=hcut;obtain⟨fT,fU⟩:=zq2 k2 dS;have lP:=k2.size;have c0:=(k2.cell (p:=⟨gp,0,none⟩) (by simp only;omega)).trans c0;have lQ:=(k2.cell (p:=⟨gp,2,none⟩) (by simp only;omega)).trans c2;have lR:(Ff p k++DT p.bI).length<=1000:=by rw[Ao];have:=fE.out;have:=dN.out k (Ab _);omega
   generalize dU:Ff p k++DT p.bI=TT at*;have gH:=Aa dU;clear k2 dU dS;go_wp2_with fail
   go_loopg [53] k (λgg gI wr=>∃j:Nat,j<=k/\k-j<=gg/\gI= .int .i64 j/\Ac (λb=>w.heap.size<=b) w wr/\Lib.IsBuilder 143 5 w.heap.size w.heap.size (Lib.byteCells (TT++BD p j)) wr)
   case atStart=>exact⟨0,AM _,by omega,rfl,fT.out,by rw[show BD p 0=[]from rfl,AO];exact fU.out⟩
   case round=>
    obtain⟨j,hj,lS,rfl,f,N⟩:=hrel;have bW:=fD.out j;have wl:=f.size;obtain⟨Y,t⟩:=zq2 f N;clear N;have y2:=(f.cell (p:=⟨gp,2,none⟩) (by simp only;omega)).trans c2;have n1:¬gp=wr.heap.size:=by omega
    have n4:gp<wr.heap.size:=by omega
    by_cases dV:j<k
    ·obtain⟨C,rfl,M,E,q3,x0,x1,x2⟩:=dK.out j dV;have z0:=(f.cell (p:=⟨C,j*3,none⟩) (by simp only;omega)).trans x0;have z1:=(f.cell (p:=⟨C,j*3+1,none⟩) (by simp only;omega)).trans x1;have z2:=(f.cell (p:=⟨C,j*3+2,none⟩) (by simp only;omega)).trans x2;have zl:=An q3 f.size;obtain⟨a,b,c,d,e⟩:=Mb HP.out (k:=j) (by have:=HL.out;omega);obtain⟨v,o,l⟩:=HR.out.oy (j:Int);have be:BD p (j+1)=BD p j++FJ p j:=rfl;have ci:Bv p.decls (j:Int)=(Aq p.decls (j:Int)).name:=rfl;have bJ:∀cs,Ac (λb=>w.heap.size<=b) w (wr.alloc (.cells cs 102)):=λcs=>f.alloc f.size _;cases q:Bj p.rules (j:Int)with
     |none=>
      have G:FJ p j=[]:=by unfold FJ;rw[q]
      rw[q]at o l;simp only at l;subst l;have ik:=Aa (show BD p (j+1)=BD p j by rw[be,G,AO]);generalize (Aq p.decls (j:Int)).kind=s at*;generalize (Aq p.decls (j:Int)).name=i at*;generalize (Aq p.decls (j:Int)).max=K at*;have lk:=o _ (bJ #[.int .i64 (s:Int),vs i,.int .i64 K]) true;have ka:Ac (λb=>wr.heap.size<=b) wr (wr.alloc (.cells #[.int .i64 (s:Int),vs i,.int .i64 K] 102)):=(Ac.refl _ wr).alloc (Ab _) _;have KA:=Aa ka;clear be G f x0 x1 x2 q e ci o bJ ka;simp only[dC,A7]at lk;unfold vs at*;go_wp2;go_roundg (k-(j+1))
      case measure=>omega
      case rel=>exact⟨j+1,by omega,by omega,by go_num,Y.out.trans (KA.out.mono (λb r=>Ad wl r)),by rw[ik.out];exact SN t.out KA.out⟩
     |some I=>
      have G:FJ p j=T9++Cd++Bv p.decls (j:Int)++Cd++BV p.decls I++[10]:=by unfold FJ;rw[q]
      rw[q]at o l;simp only at l;obtain⟨gv,cv,rfl⟩:∃g c,v= .slice (some ⟨g,0,none⟩) I.length c:=by obtain⟨_,h1,_⟩:=l;exact h1.2
      obtain⟨B,O⟩:=I7 HP.out q;have ix:=Eo HP.out.decls B;have J:=iQ H.out l B O;rw[ci]at G;generalize (Aq p.decls (j:Int)).kind=s at*;generalize (Aq p.decls (j:Int)).name=i at*;generalize (Aq p.decls (j:Int)).max=K at*;generalize cj:BV p.decls I=Q at*;have bR:∀W,Ac (λb=>wr.heap.size<=b) wr W->AF W wr.heap.size 102 [.int .i64 (s:Int),vs i,.int .i64 K]->Calls prog 59 #[.pointer (some ⟨gp,0,none⟩),.slice (some ⟨gv,0,none⟩) I.length cv] W λy w'=>y= .returned (vs Q)/\Ac (λb=>wr.heap.size<=b) wr w'/\AF w' wr.heap.size 102 [.int .i64 (s:Int),vs i,.int .i64 K]:=λW m hr=>by refine(J W (f.trans (m.mono (λb r=>Ad wl r)))).mono ?_;rintro y w' ⟨M,E⟩;exact⟨M,m.trans (E.mono (λb r=>Ad m.size r)),hr.kept E (λe=>by have:=hr.lt;omega)⟩
      have iy:(TT++BD p j).length<=600000:=by rw[Ao];omega
      have R:TT++BD p (j+1)=(TT++BD p j)++([111,110,32]++i++[32]++Q++[10]):=by rw[be,G];simp[Cd]
      generalize u:TT++BD p j=SS at*;have s1:=B8 (P:=prog) (a:=⟨#[111,110,32]⟩) (b:=⟨i.toArray⟩) (by simp only[Ag,Ay,Af,Ak];omega);have s2:=B8 (P:=prog) (a:=⟨#[111,110,32]⟩++⟨i.toArray⟩) (b:=⟨#[32]⟩) (by simp only[Ag,Ay,Af,Ak];omega);have s3:=B8 (P:=prog) (a:=⟨#[111,110,32]⟩++⟨i.toArray⟩++⟨#[32]⟩) (b:=⟨Q.toArray⟩) (by simp only[Ag,Ay,Af,Ak];omega);have s4:=B8 (P:=prog) (a:=⟨#[111,110,32]⟩++⟨i.toArray⟩++⟨#[32]⟩++⟨Q.toArray⟩) (b:=⟨#[10]⟩) (by simp only[Ag,Ay,Af,Ak];omega);have hx:(⟨#[111,110,32]⟩:ByteArray)++⟨i.toArray⟩++⟨#[32]⟩++⟨Q.toArray⟩++⟨#[10]⟩=⟨([111,110,32]++i++[32]++Q++[10]).toArray⟩:=by rw[BK,BK,BK,BK]
      have X:=λW (m:Ac (λb=>wr.heap.size<=b) wr W)=>TI (w0:=w) (SN t.out m) (Ab _) (f.trans (m.mono (λb r=>Ad wl r))) hx (by simp only[Ao,Af,Ak];omega);rw[←R]at X;obtain⟨HW,dW⟩:=zq2 X bR;have rq:AF (wr.alloc (.cells #[.int .i64 (s:Int),vs i,.int .i64 K] 102)).drew wr.heap.size 102 [.int .i64 (s:Int),vs i,.int .i64 K]:=(AF.new wr 102 _).drew;have kq:Ac (λb=>wr.heap.size<=b) wr (wr.alloc (.cells #[.int .i64 (s:Int),vs i,.int .i64 K] 102)).drew:=((Ac.refl _ wr).alloc (Ab _) _).drew;have lk:=o _ (bJ #[.int .i64 (s:Int),vs i,.int .i64 K]) true;clear be G f l x0 x1 x2 q e ci J bR R u cj o bJ hx X;simp only[Option.isSome_some,A7]at lk;unfold vs at*;go_wp2_with fail
      go_region_law (first
       |(go_simp;go_at_call 59;refine(dW.out _ ?_ ?_).mono ?_;assumption;assumption;rintro y wq ⟨rfl,kq,rq⟩;have iA:=rq.cell 0;have iB:=rq.cell 1;have iC:=rq.cell 2;have zl:=rq.lt;simp at iA iB iC)
       |(go_simp;go_at_call 57;refine(HW.out _ ?_).mono ?_;assumption;rintro y w5 ⟨⟨n5,rfl⟩,z,A⟩;have F5:=Aa (And.intro z A);clear z A))
      all_goals
       go_wp2;go_roundg (k-(j+1))
       case measure=>omega
       case rel=>exact⟨j+1,by omega,by omega,by go_num,F5.out.2,F5.out.1⟩
    ·have iD:j=k:=by omega
     subst iD;obtain⟨I,q⟩:∃b,Es p.rules=some b:=Option.isSome_iff_exists.1 HP.out.qp;have T:Bj p.rules (-1)=some I:=q;obtain⟨v,o,l⟩:=HR.out.oy (-1);rw[T]at o l;simp only at l;obtain⟨gv,cv,rfl⟩:∃g c,v= .slice (some ⟨g,0,none⟩) I.length c:=by obtain⟨_,h1,_⟩:=l;exact h1.2
     obtain⟨B,O⟩:=I7 HP.out T;have ix:=Eo HP.out.decls B;have J:=iQ H.out l B O;have iy:(TT++BD p j).length<=600000:=by rw[Ao];omega
     have R:text p=(TT++BD p j)++[111,110,32,109,105,115,115,32]++BV p.decls I++[10]:=by
      have e1:Ff p j=(p.decls.map Ku).flatten:=by unfold Ff;rw[←HL.out,Kk]
      unfold text RK;rw[q,HL.out,←e1,←gH.out];simp[Cd]
     have iE:=Aa R;generalize u:TT++BD p j=SS at*;generalize cj:BV p.decls I=Q at*;have s1:=B8 (P:=prog) (a:=⟨SS.toArray⟩) (b:=⟨#[111,110,32,109,105,115,115,32]⟩) (by simp only[Ag,Ay,Af,Ak];omega);have s2:=B8 (P:=prog) (a:=⟨SS.toArray⟩++⟨#[111,110,32,109,105,115,115,32]⟩) (b:=⟨Q.toArray⟩) (by simp only[Ag,Ay,Af,Ak];omega);have s3:=B8 (P:=prog) (a:=⟨SS.toArray⟩++⟨#[111,110,32,109,105,115,115,32]⟩++⟨Q.toArray⟩) (b:=⟨#[10]⟩) (by simp only[Ag,Ay,Af,Ak];omega);have U:∀W,Ac (λb=>wr.heap.size<=b) wr W->Calls prog 59 #[.pointer (some ⟨gp,0,none⟩),.slice (some ⟨gv,0,none⟩) I.length cv] W λy w'=>y= .returned (vs Q)/\Ac (λb=>wr.heap.size<=b) wr w':=λW m=>by refine(J W (f.trans (m.mono (λb r=>Ad wl r)))).mono ?_;rintro y w' ⟨M,E⟩;exact⟨M,m.trans (E.mono (λb r=>Ad m.size r))⟩
     have V:∀W,Ac (λb=>w.heap.size<=b) w W->Calls prog 59 #[.pointer (some ⟨gp,0,none⟩),.slice (some ⟨gv,0,none⟩) I.length cv] W λy w'=>y= .returned (vs Q)/\Ac (λb=>w.heap.size<=b) w w':=λW m=>by refine(J W m).mono ?_;rintro y w' ⟨M,E⟩;exact⟨M,m.trans (E.mono (λb r=>Ad m.size r))⟩
     have fc:∀W,Ac (λb=>wr.heap.size<=b) wr W->Calls prog 60 #[.pointer (some ⟨w.heap.size,0,none⟩)] W λy w'=>y= .returned (vs SS)/\Ac (λb=>w.heap.size<=b) w w':=λW m=>by refine(Tryz.Builder_String_any w.heap.size w.heap.size SS W (SN t.out m) (Ad wl m.size)).mono ?_;rintro y w' ⟨M,E⟩;exact⟨M,(f.trans (m.mono (λb r=>Ad wl r))).trans (Ac.dF E (λk m=>m))⟩
     have bS:∀W,Ac (λb=>wr.heap.size<=b) wr W->(Instr.lookup 104 (.map (some bm)) (.int .i64 (-1)) false).run prog W= .ok (.slice (some ⟨gv,0,none⟩) I.length cv) W:=λW m=>o W (f.trans (m.mono (λb r=>Ad wl r))) false;have bT:∀W,Ac (λb=>w.heap.size<=b) w W->(Instr.lookup 104 (.map (some bm)) (.int .i64 (-1)) false).run prog W= .ok (.slice (some ⟨gv,0,none⟩) I.length cv) W:=λW m=>o W m false;have kq:Ac (λb=>wr.heap.size<=b) wr wr.drew:=(Ac.refl _ wr).drew;have lq:=bS _ kq;obtain⟨iF,iG,iH,fd,iI⟩:=zq5 U V fc bT c2;clear f R u cj U V fc o bS bT J l q T;unfold vs at*;go_wp2_with fail
     go_region_law (first
      |(go_simp;go_at_call 59;refine(iF.out _ ?_).mono ?_;assumption;rintro y wq ⟨rfl,kq⟩;have FB:=Aa kq)
      |(go_simp;go_at_call 59;refine(iG.out _ ?_).mono ?_;assumption;rintro y wq ⟨rfl,kz⟩)
      |(go_simp;go_at_call 60;refine(iH.out _ ?_).mono ?_;assumption;rintro y wq ⟨rfl,kz⟩;have lz:=fd.out _ kz;have zc:=(kz.cell (p:=⟨gp,2,none⟩) (by simp only;omega)).trans iI.out;have zs:=kz.size))
     all_goals
      have KZ:=Aa kz;clear kz kq;go_wp2;go_ret;refine⟨?_,KZ.out⟩;rw[iE.out];refine AH (λx=>Ending.returned (.string x)) ?_;rw[BK,BK,BK]
end
section
variable {S:Nat->Prop}{w:World}{ge:Nat}{e:EX}
theorem mp (g:GT S w ge e) (f:Na w):Calls prog 16 #[.pointer (some ⟨ge,0,none⟩)] w (Dt w (text e.p)):=by obtain⟨o,gs,q,gp,i,r,c,j,k,s,A,t,h⟩:=g;obtain⟨l,u,m,v⟩:=zp4 (h.row.cell 0) h.row.lt (h.prog.code.row.cell 0) h.prog.code.row.lt;simp at l m;have a:ZY w gp j (.map (some i)) e.p.bI e.p.decls:=⟨h.prog.bQ,h.prog.decls.mono (λ_ _=>trivial),h.pw.decls,f⟩;have n:=Aa (oZ a h.prog.rules h.pw);clear h a f;go_enter func16,ntmps16;go_wp2_with fail;refine n.out.mono ?_;rintro y w1 ⟨rfl,b⟩;have d:=Aa b;clear b;go_wp2;go_ret;exact⟨rfl,d.out⟩
end
end Go.Proofs.YtodkkholbjeioaaGreatDoor.Ev
