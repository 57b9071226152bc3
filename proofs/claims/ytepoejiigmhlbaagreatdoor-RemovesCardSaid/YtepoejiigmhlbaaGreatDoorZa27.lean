/- Lemmas for a law's walk. Conditions: none. -/
import Derived.Test.YtepoejiigmhlbaaGreatDoorZa21
import Derived.Test.YtepoejiigmhlbaaGreatDoorZa26
set_option linter.all false
set_option maxRecDepth 100000
set_option maxHeartbeats 8000000
namespace Go.Proofs.YtepoejiigmhlbaaGreatDoor.Ev
open _root_.Go.Proofs.Tryz
open Go Go.RowKit
def wO (m:Nat):Prop:=∀(w:World) (gp:Nat) (a c d e:Value) (f:Int) (l:List Bi) (x:Az) (cs:List Value) (s:Ah),du w gp a c d e f l->x.length=1->x.size<=m->x.size<=1000->D9 l x->AL Mg w x cs->AT l x=Cb++s->
  Calls prog 121 #[.pointer (some ⟨gp,0,none⟩),.agg cs.toArray] w (Dr w s)
def mq (m:Nat):Prop:=∀(w:World) (gp:Nat) (a c d e:Value) (f:Int) (l:List Bi) (b:Az) (v:Value),du w gp a c d e f l->b.size<=m->b.size<=1000->D9 l b->Cs Mg w v b->
  Calls prog 98 #[.pointer (some ⟨gp,0,none⟩),v] w (Dr w (BU l b))
theorem Yy {N:Nat->Prop}{w w':World}(a:Ac (λb=>w.heap.size<=b) w w') {b:Az}{cs:List Value}(h:AL N w b cs):AL N w' b cs:=
 AL.kept (λk _ _ c=>a.block k (λd=>by have:=c.lt;omega)) b cs h
theorem Vc {N:Nat->Prop}{w w':World}(a:Ac (λb=>w.heap.size<=b) w w') {b:Az}{v:Value}(h:Cs N w v b):Cs N w' v b:=
 h.kept (λk _ _ c=>a.block k (λd=>by have:=c.lt;omega))
structure V3 (w0:World) (b:Az) (cs:List Value) (k:Nat) (wr:World) (done rest:Az) (aD ba:List Value):Prop where
 eq:b=done.app rest
 cs:cs=aD++ba
 mS:aD.length=k*14
 k:k+rest.length=b.length
 sz:done.size+rest.size=b.size
 nc:AL Mg w0 rest ba
 kept:Ac (λb=>w0.heap.size<=b) w0 wr
section
variable {w0 wr:World}{k:Nat}{b done rest:Az}{cs aD ba:List Value}
theorem V3.next {g d:Nat}(h:V3 w0 b cs k wr done rest aD ba) (e:Sl Mg w0 262 14 (.slice (some ⟨g,0,none⟩) b.length d) b.length cs) (z:k<b.length):
  ∃x tl a c,rest=x.app tl/\x.length=1/\ba=a++c/\Aaf a/\AL Mg w0 x a/\AL Mg w0 tl c/\rest.length=tl.length+1/\x.size+tl.size=rest.size/\
   (∀j,j<14->wr.cell? ⟨g,k*14+j,none⟩=a[j]?)/\g<wr.heap.size:=by
 have f:rest≠.nil:=by rintro rfl;have:=h.k;simp[Az.length]at this;omega
 obtain⟨x,tl,a,c,e1,n,i,l,o,q,r,s⟩:=AL.part rest ba f h.nc;have m:a.length=14:=by obtain⟨_,_,_,_,_,_,_,_,_,_,_,_,_,_,_,_,_,_,rfl⟩:=l;rfl
 refine⟨x,tl,a,c,e1,n,i,l,o,q,r,s,λj A=>?_,An (e.lt rfl) h.kept.size⟩;have t:k*14+j<b.length*14:=by omega
 have u:=e.1.cellAt _ t;have v:cs[k*14+j]?=a[j]?:=by rw[h.cs,i,BE (by rw[h.mS];omega),h.mS,B6,AV (by omega)]
 have w:=e.lt (g:=g) rfl;exact((h.kept.cell (p:=⟨g,k*14+j,none⟩) (λy=>by simp only at y;omega)).trans u).trans v
theorem V3.step {x tl:Az}{a c:List Value}{w':World}(h:V3 w0 b cs k wr done rest aD ba) (e1:rest=x.app tl) (d:ba=a++c) (e:a.length=14) (f:AL Mg w0 tl c)
  (j:rest.length=tl.length+1) (l:x.size+tl.size=rest.size) (g:Ac (λb=>wr.heap.size<=b) wr w'):V3 w0 b cs (k+1) w' (done.app x) tl (aD++a) c:=
 ⟨by rw[h.eq,e1,Ia],by rw[h.cs,d,AK],by rw[Ao,h.mS,e];omega,by have:=h.k;omega,by rw[JD];have:=h.sz;omega,f,h.kept.trans (g.mono (λb i=>Ad h.kept.size i))⟩
end
theorem UQ {m:Nat}(J:wO m):mq m:=by
 intro w gp vd vr vh vm f l b v h K q Y L;obtain⟨cs,hs,B⟩:=L;obtain⟨ag,eg,rfl⟩:=hs.bz;have M:V3 w b cs 0 w .nil b [] cs:=⟨by simp[Az.app],by simp,by simp,by omega,by simp[Az.size],B,Ac.refl _ _⟩;have eF:b.length<=1000:=by
  have:∀b:Az,b.length<=b.size:=by
   intro b
   induction b with
   |nil=>simp[Az.length]
   |bG p r ih=>simp[Az.length,Az.size];omega
   |ite c t o e r _ _ ih=>simp[Az.length,Az.size];omega
   |rep n c b r _ ih=>simp[Az.length,Az.size];omega
  have:=this b;omega
 have N:∀d r:Az,b=d.app r->(Cw++AT l d++Cb).length<=200000:=by intro d r e;rw[e,N9]at Y;rw[e,JD]at q;have:=Eg h.dw d Y.1;simp only[Ao,Af,Ak,Cb];omega
 obtain⟨bf,H,O,bg,bh,Q,HW,R⟩:=zq8 J h hs M K q Y N;clear J h hs M B K q Y N;go_enter func98,ntmps98;go_wp2_with fail
 go_loopg [10,5] b.length (λbi bj s5 wr=>∃k done rest aD ba,k<=b.length/\b.length-k<=bi/\bj= .int .i64 (k:Nat)/\s5= .string ⟨(Cw++AT l done++Cb).toArray⟩/\V3 w b cs k wr done rest aD ba)
 case atStart=>exact⟨0,.nil,b,[],cs,AQ _,by omega,rfl,rfl,bg.out⟩
 case round=>
  obtain⟨k,done,rest,aD,ba,eS,hg,rfl,rfl,y⟩:=hrel;have T:=R.out done rest y.eq;by_cases bn:k<b.length
  ·obtain⟨g,dh,ec,_⟩:=O.out.form (by omega);injection ec with ea _ ec;subst ea ec;obtain⟨x,tl,bp,eT,e1,e2,e3,e4,e5,e6,e7,e8,j,eU⟩:=y.next O.out bn;have C:bp.length=14:=by obtain⟨_,_,_,_,_,_,_,_,_,_,_,_,_,_,_,_,_,_,rfl⟩:=id e4;rfl
   have z:=R.out (done.app x) tl (by rw[y.eq,e1,Ia]);rw[Fs]at z;obtain⟨I,A⟩:=Z2 l x e2;rw[A]at z;have E:=HW.out;rw[y.eq,e1,N9,N9]at E;have s:=Aa (And.intro e1 (And.intro e2 (And.intro e3 (And.intro C (And.intro e5 (And.intro e6 (And.intro e7 (And.intro e8 E.2.1))))))));obtain⟨k_,n_,m_,t_,br,bt,bu,bx,bC,bD,bE,bF,bH,bI,cy,cz,cD,o_,rfl⟩:=e4;have x0:=j 0 (by omega);have x1:=j 1 (by omega);have x2:=j 2 (by omega);have x3:=j 3 (by omega);have x4:=j 4 (by omega);have x5:=j 5 (by omega);have x6:=j 6 (by omega);have x7:=j 7 (by omega);have x8:=j 8 (by omega);have x9:=j 9 (by omega);have cL:=j 10 (by omega);have cW:=j 11 (by omega);have cX:=j 12 (by omega);have cY:=j 13 (by omega);obtain⟨U,cZ⟩:=zq2 y A;have V:Cw++AT l (done.app x)++Cb=(Cw++AT l done++Cb)++(I++Cb):=by rw[Fs,A];simp only[AK]
   simp only[Ao,Af,Ak]at z;generalize hS:Cw++AT l done++Cb=S at*;have da:I.length<=200000:=by omega
   have s1:=B7 (P:=prog) (a:=⟨I.toArray⟩) (b:=⟨#[32]⟩) (by simp only[Ay,Af,Ak];omega);have s2:=B7 (P:=prog) (a:=⟨S.toArray⟩) (b:=⟨I.toArray⟩++⟨#[32]⟩) (by simp only[Ag,Ay,Af,Ak];omega);have i:(⟨S.toArray⟩:ByteArray)++(⟨I.toArray⟩++⟨#[32]⟩)=⟨(Cw++AT l (done.app x)++Cb).toArray⟩:=by rw[V,BI,BI];rfl
   have W:=Aa i;clear y j e1 e2 e3 e5 e6 e7 e8 C A V i hS E z da T;unfold vs at*;simp only[BL,AI,Mi]at x0 x1 x2 x3 x4 x5 x6 x7 x8 x9 cL cW cX cY;go_wp2_with fail;have Z:Ac (λb=>wr.heap.size<=b) wr (wr.alloc (.cells #[.string ⟨k_.toArray⟩,.int .i64 n_,.int .i64 m_,.bool t_,.string ⟨br.toArray⟩,.int .i64 bt,.string ⟨bu.toArray⟩,.int .i64 bx,.string ⟨bC.toArray⟩,.int .i64 bD,.int .i64 bE,.slice bF bH bI,.slice cy cz cD,.bool o_] 262)):=(Ac.refl _ wr).alloc (Ab _) _;have G:Ac (λb=>w.heap.size<=b) w _:=U.out.kept.trans (Z.mono (λb L=>Ad U.out.kept.size L));refine(bf.out _ gp vd vr vh vm f l x _ I (H.out.later G) s.out.2.1 (by have:=U.out.sz;have:=s.out.2.2.2.2.2.2.2.1;have:=bh.out;omega) (by have:=U.out.sz;have:=s.out.2.2.2.2.2.2.2.1;have:=Q.out;omega) s.out.2.2.2.2.2.2.2.2 (Yy G s.out.2.2.2.2.1) cZ.out).mono ?_;rintro e w2 ⟨rfl,X⟩;have F:=Aa (U.out.step s.out.1 s.out.2.2.1 s.out.2.2.2.1 s.out.2.2.2.2.2.1 s.out.2.2.2.2.2.2.1 s.out.2.2.2.2.2.2.2.1 (Z.trans (X.mono (λb L=>Ad Z.size L))));clear Z G X;go_wp2;go_roundg (b.length-(k+1))
   case measure=>omega
   case rel=>exact⟨k+1,_,_,_,_,by omega,by omega,by go_num,AG Value.string W.out,F.out⟩
  ·have D:rest= .nil:=by
    have:=y.k;cases rest with
    |nil=>rfl
    |bG p r=>simp[Az.length]at this;omega
    |ite c t o e r=>simp[Az.length]at this;omega
    |rep n c b r=>simp[Az.length]at this;omega
   have u:b=done:=by rw[y.eq,D];exact NW done
   have i:BU l b=(Cw++AT l done++Cb)++[125]:=by rw[u];simp[BU,Cb]
   have F:=Aa y.kept;generalize Cw++AT l done++Cb=S at*;have db:=Aa i;have s1:=B7 (P:=prog) (a:=⟨S.toArray⟩) (b:=⟨#[125]⟩) (by simp only[Ay,Af,Ak];omega);clear y D u i;go_wp2;go_ret;exact⟨by rw[db.out];exact AG (λx=>Ending.returned (.string x)) (BI _ _),F.out⟩
section
variable {w:World}{gp:Nat}{vd vr vh vm:Value}{f:Int}{l:List Bi}
theorem QZ (h:du w gp vd vr vh vm f l) (c:Ah) (e:c=Kx\/c=Ep\/c=Ig\/c=Mb\/c=Mc) {k:Int}(j:Ix l.length k) (tl:Bool):
  Calls prog 121 #[.pointer (some ⟨gp,0,none⟩),.agg ([vs c,.int .i64 k,.int .i64 0,.bool tl]++Du++[A4,A4,.bool false]).toArray] w (Dr w (c++Cb++Bu l k++Dc tl++AN)):=by
 have m:=λcs=>(Ac.refl (λb=>w.heap.size<=b) w).alloc (Ab _) (.cells cs 262);have o:=Aa m;obtain⟨n,r,s,rfl,t,rfl,u,v,y,z,A,B,C⟩:=h.at_ j;have D:¬gp=w.heap.size:=by omega
 have E:¬r=w.heap.size:=by omega
 generalize Bu l (n:Int)=nm at*;have i:c.length<=5:=by rcases e with rfl|rfl|rfl|rfl|rfl<;>simp
 have F:=B7 (P:=prog) (a:=⟨#[32]⟩) (b:=⟨nm.toArray⟩) (by simp only[Ay,Af,Ak];omega);have G:=B7 (P:=prog) (a:=⟨c.toArray⟩) (b:=⟨#[32]⟩++⟨nm.toArray⟩) (by simp only[Ag,Ay,Af,Ak];omega);have H:=B7 (P:=prog) (a:=⟨c.toArray⟩++(⟨#[32]⟩++⟨nm.toArray⟩)) (b:=⟨#[32,116,97,105,108]⟩) (by simp only[Ag,Ay,Af,Ak];omega);have I:=B7 (P:=prog) (a:=⟨c.toArray⟩++(⟨#[32]⟩++⟨nm.toArray⟩)++⟨#[32,116,97,105,108]⟩) (b:=⟨#[59]⟩) (by simp only[Ag,Ay,Af,Ak];omega);have J:=B7 (P:=prog) (a:=⟨c.toArray⟩++(⟨#[32]⟩++⟨nm.toArray⟩)) (b:=⟨#[59]⟩) (by simp only[Ag,Ay,Af,Ak];omega);have p:if tl then(⟨c.toArray⟩:ByteArray)++(⟨#[32]⟩++⟨nm.toArray⟩)++⟨#[32,116,97,105,108]⟩++⟨#[59]⟩=⟨(c++Cb++nm++Dc tl++AN).toArray⟩else(⟨c.toArray⟩:ByteArray)++(⟨#[32]⟩++⟨nm.toArray⟩)++⟨#[59]⟩=⟨(c++Cb++nm++Dc tl++AN).toArray⟩:=by
  cases tl with
  |true=>rw[Al rfl,BI,BI,BI,BI];simp[Cb,Dc]
  |false=>rw[Ai AY,BI,BI,BI];simp[Cb,Dc]
 have q:=Aa p;clear p m h j i;unfold Du A4 vs at*;cases tl with
 |false=>
  have d:=q.out;rw[Ai AY]at d;have g:=Aa d;clear d;rcases e with rfl|rfl|rfl|rfl|rfl
  all_goals
   go_enter J4,I6;go_wp2;go_region;go_wp2;go_ret;exact⟨AG (λx=>Ending.returned (.string x)) g.out,(o.out _).drew⟩
 |true=>
  have d:=q.out;rw[Al rfl]at d;have g:=Aa d;clear d;rcases e with rfl|rfl|rfl|rfl|rfl
  all_goals
   go_enter J4,I6;go_wp2;go_region;go_wp2;go_ret;exact⟨AG (λx=>Ending.returned (.string x)) g.out,(o.out _).drew⟩
theorem ZR (c:Ah) (d:c=IW\/c=IX):
  Calls prog 121 #[.pointer (some ⟨gp,0,none⟩),.agg ([vs c,.int .i64 0,.int .i64 0,.bool false]++Du++[A4,A4,.bool false]).toArray] w (Dr w (c++AN)):=by
 have g:=λcs=>(Ac.refl (λb=>w.heap.size<=b) w).alloc (Ab _) (.cells cs 262);have i:=Aa g;have e:c.length<=5:=by rcases d with rfl|rfl<;>simp
 have k:=B7 (P:=prog) (a:=⟨c.toArray⟩) (b:=⟨#[59]⟩) (by simp only[Ay,Af,Ak];omega);have h:(⟨c.toArray⟩:ByteArray)++⟨#[59]⟩=⟨(c++AN).toArray⟩:=by rw[BI]
 have j:=Aa h;clear h g e;unfold Du A4 vs at*;rcases d with rfl|rfl
 all_goals
  go_enter J4,I6;go_wp2;go_ret;exact⟨AG (λx=>Ending.returned (.string x)) j.out,i.out _⟩
theorem jF (h:du w gp vd vr vh vm f l) {k j:Int}(m:Ix l.length k) (o:Ix l.length j) (tl:Bool):
  Calls prog 121 #[.pointer (some ⟨gp,0,none⟩),.agg ([vs Do,.int .i64 k,.int .i64 j,.bool tl]++Du++[A4,A4,.bool false]).toArray] w (Dr w (Do++Cb++Bu l k++Cb++Bu l j++Dc tl++AN)):=by
 have p:=λcs=>(Ac.refl (λb=>w.heap.size<=b) w).alloc (Ab _) (.cells cs 262);have q:=Aa p;obtain⟨n,t,C,rfl,D,i,E,F,G,H,I,J,K⟩:=h.at_ m;obtain⟨u,v,y,rfl,z,g,_,_,_,_,_,L,A⟩:=h.at_ o;subst i;injection g with e1 _ B;injection e1 with e1;injection e1 with e1;subst e1 B;have M:¬gp=w.heap.size:=by omega
 have N:¬t=w.heap.size:=by omega
 generalize Bu l (n:Int)=nm at*;generalize Bu l (u:Int)=c at*;have O:=B7 (P:=prog) (a:=⟨#[32]⟩) (b:=⟨nm.toArray⟩) (by simp only[Ag,Ay,Af,Ak];omega);have Q:=B7 (P:=prog) (a:=⟨#[115,104,105,102,116]⟩) (b:=⟨#[32]⟩++⟨nm.toArray⟩) (by simp only[Ag,Ay,Af,Ak];omega);have R:=B7 (P:=prog) (a:=⟨#[32]⟩) (b:=⟨c.toArray⟩) (by simp only[Ag,Ay,Af,Ak];omega);have S:=B7 (P:=prog) (a:=⟨#[115,104,105,102,116]⟩++(⟨#[32]⟩++⟨nm.toArray⟩)) (b:=⟨#[32]⟩++⟨c.toArray⟩) (by simp only[Ag,Ay,Af,Ak];omega);have T:=B7 (P:=prog) (a:=⟨#[115,104,105,102,116]⟩++(⟨#[32]⟩++⟨nm.toArray⟩)++(⟨#[32]⟩++⟨c.toArray⟩)) (b:=⟨#[32,116,97,105,108]⟩) (by simp only[Ag,Ay,Af,Ak];omega);have U:=B7 (P:=prog) (a:=⟨#[115,104,105,102,116]⟩++(⟨#[32]⟩++⟨nm.toArray⟩)++(⟨#[32]⟩++⟨c.toArray⟩)++⟨#[32,116,97,105,108]⟩) (b:=⟨#[59]⟩) (by simp only[Ag,Ay,Af,Ak];omega);have V:=B7 (P:=prog) (a:=⟨#[115,104,105,102,116]⟩++(⟨#[32]⟩++⟨nm.toArray⟩)++(⟨#[32]⟩++⟨c.toArray⟩)) (b:=⟨#[59]⟩) (by simp only[Ag,Ay,Af,Ak];omega);have r:if tl then(⟨#[115,104,105,102,116]⟩++(⟨#[32]⟩++⟨nm.toArray⟩)++(⟨#[32]⟩++⟨c.toArray⟩)++⟨#[32,116,97,105,108]⟩++⟨#[59]⟩:ByteArray)=⟨(Do++Cb++nm++Cb++c++Dc tl++AN).toArray⟩else(⟨#[115,104,105,102,116]⟩++(⟨#[32]⟩++⟨nm.toArray⟩)++(⟨#[32]⟩++⟨c.toArray⟩)++⟨#[59]⟩:ByteArray)=⟨(Do++Cb++nm++Cb++c++Dc tl++AN).toArray⟩:=by
  cases tl with
  |true=>rw[Al rfl,BI,BI,BI,BI,BI,BI];simp[Cb,Dc]
  |false=>rw[Ai AY,BI,BI,BI,BI,BI];simp[Cb,Dc]
 have s:=Aa r;clear r p h m o;unfold Du A4 vs at*;cases tl with
 |false=>
  have d:=s.out;rw[Ai AY]at d;have e:=Aa d;clear d;go_enter J4,I6;go_wp2;go_region;go_wp2;go_region;go_wp2;go_ret;exact⟨AG (λx=>Ending.returned (.string x)) e.out,(q.out _).drew.drew⟩
 |true=>
  have d:=s.out;rw[Al rfl]at d;have e:=Aa d;clear d;go_enter J4,I6;go_wp2;go_region;go_wp2;go_region;go_wp2;go_ret;exact⟨AG (λx=>Ending.returned (.string x)) e.out,(q.out _).drew.drew⟩
end
section
variable {w:World}{gp:Nat}{vd vr vh vm:Value}{f:Int}{l:List Bi}{m:Nat}
theorem Xn (h:du w gp vd vr vh vm f l) (c:C3) (i:ZE l c.k) (cs:List Value):∀W,Ac (λb=>w.heap.size<=b) w W->AE W w.heap.size 262 cs->
  Calls prog 141 #[.pointer (some ⟨gp,0,none⟩),.agg (Dg c).toArray] W λy w'=>y= .returned (vs (DE l c))/\Ac (λb=>w.heap.size<=b) w w'/\AE w' w.heap.size 262 cs:=λW a d=>by
 refine(jI (h.later a) c i).mono ?_;rintro y w' ⟨j,g⟩;exact⟨j,a.trans (g.mono (λb n=>Ad a.size n)),d.kept g (λe=>by have:=d.lt;omega)⟩
theorem UR (j:mq m) (h:du w gp vd vr vh vm f l) {b:Az}{v:Value}(k:b.size<=m) (c:b.size<=1000) (n:D9 l b) (d:Cs Mg w v b) (cs:List Value):∀W,Ac (λb=>w.heap.size<=b) w W->AE W w.heap.size 262 cs->
  Calls prog 98 #[.pointer (some ⟨gp,0,none⟩),v] W λy w'=>y= .returned (vs (BU l b))/\Ac (λb=>w.heap.size<=b) w w'/\AE w' w.heap.size 262 cs:=λW a g=>by
 refine(j W gp vd vr vh vm f l b v (h.later a) k c n (Vc a d)).mono ?_;rintro y w' ⟨o,i⟩;exact⟨o,a.trans (i.mono (λb d=>Ad a.size d)),g.kept i (λe=>by have:=g.lt;omega)⟩
theorem zz (X:mq m) (h:du w gp vd vr vh vm f l) {c:C3}(Y:ZE l c.k) {t e:Az}{vt ve:Value}{o:Bool}(Z:Cs Mg w vt t) (Q:if o then Cs Mg w ve e else ve=A4/\e= .nil) (bf:t.size<=m) (bg:e.size<=m) (bC:t.size+e.size<=1000) (E:D9 l t) (F:D9 l e):
  Calls prog 121 #[.pointer (some ⟨gp,0,none⟩),.agg (Ju c vt o ve).toArray] w (Dr w (Ja++Cb++DE l c++Cb++BU l t++(if o then Cb++Dl++Cb++BU l e else []))):=by
 have R:=λcs=>(Ac.refl (λb=>w.heap.size<=b) w).alloc (Ab _) (.cells cs 262);obtain⟨L,n1,M,n3,G,_⟩:=O6 c;obtain⟨H,I,rfl⟩:∃g c,vt= .slice g t.length c:=by obtain⟨_,h1,_⟩:=Z;exact h1.bz
 have lc:=Hs h.dw Y;have lt:=El h.dw E;have le:=El h.dw F;have B:Ju c (.slice H t.length I) o ve=[vs Ja,.int .i64 0,.int .i64 0,.bool false,vs (BV c.k),.int .i64 (Bs c.k),vs L,.int .i64 n1,vs M,.int .i64 n3,.int .i64 c.bI,.slice H t.length I,ve,.bool o]:=by unfold Ju;rw[G];rfl
 have hC:=Xn h c Y [vs Ja,.int .i64 0,.int .i64 0,.bool false,vs (BV c.k),.int .i64 (Bs c.k),vs L,.int .i64 n1,vs M,.int .i64 n3,.int .i64 c.bI,.slice H t.length I,ve,.bool o];have hT:=UR X h bf (by omega) E Z [vs Ja,.int .i64 0,.int .i64 0,.bool false,vs (BV c.k),.int .i64 (Bs c.k),vs L,.int .i64 n1,vs M,.int .i64 n3,.int .i64 c.bI,.slice H t.length I,ve,.bool o];rw[B];rw[G]at hC;generalize S:DE l c=C at*;generalize T:BU l t=J at*;have s1:=B7 (P:=prog) (a:=⟨#[32]⟩) (b:=⟨C.toArray⟩) (by simp only[Ag,Ay,Af,Ak];omega);have s2:=B7 (P:=prog) (a:=⟨#[32]⟩++⟨C.toArray⟩) (b:=⟨#[32]⟩) (by simp only[Ag,Ay,Af,Ak];omega);have s3:=B7 (P:=prog) (a:=⟨#[32]⟩++⟨C.toArray⟩++⟨#[32]⟩) (b:=⟨J.toArray⟩) (by simp only[Ag,Ay,Af,Ak];omega);have s6:=B7 (P:=prog) (a:=⟨#[105,102]⟩) (b:=⟨#[32]⟩++⟨C.toArray⟩++⟨#[32]⟩++⟨J.toArray⟩) (by simp only[Ag,Ay,Af,Ak];omega);have K:(⟨#[105,102]⟩:ByteArray)++(⟨#[32]⟩++⟨C.toArray⟩++⟨#[32]⟩++⟨J.toArray⟩)=⟨(Ja++Cb++C++Cb++J).toArray⟩:=by rw[BI,BI,BI,BI];simp[Cb]
 obtain⟨K0,HC,U,V⟩:=zq4 R hC hT K;cases o with
 |true=>
  rw[Al rfl]at Q;obtain⟨ge,ce,rfl⟩:∃g c,ve= .slice g e.length c:=by obtain⟨_,h1,_⟩:=Q;exact h1.bz
  have hE:=UR X h bg (by omega) F Q [vs Ja,.int .i64 0,.int .i64 0,.bool false,vs (BV c.k),.int .i64 (Bs c.k),vs L,.int .i64 n1,vs M,.int .i64 n3,.int .i64 c.bI,.slice H t.length I,.slice ge e.length ce,.bool true];generalize W:BU l e=se at*;have s4:=B7 (P:=prog) (a:=⟨#[32,101,108,115,101,32]⟩) (b:=⟨se.toArray⟩) (by simp only[Ag,Ay,Af,Ak];omega);have s5:=B7 (P:=prog) (a:=⟨#[105,102]⟩++(⟨#[32]⟩++⟨C.toArray⟩++⟨#[32]⟩++⟨J.toArray⟩)) (b:=⟨#[32,101,108,115,101,32]⟩++⟨se.toArray⟩) (by simp only[Ag,Ay,Af,Ak];omega);have D:(⟨#[105,102]⟩++(⟨#[32]⟩++⟨C.toArray⟩++⟨#[32]⟩++⟨J.toArray⟩)++(⟨#[32,101,108,115,101,32]⟩++⟨se.toArray⟩):ByteArray)=⟨(Ja++Cb++C++Cb++J++(Cb++Dl++Cb++se)).toArray⟩:=by rw[BI,BI,BI,BI,BI,BI];simp[Cb]
  obtain⟨HE,N⟩:=zq2 hE D;have d:AE (w.alloc (.cells #[vs Ja,.int .i64 0,.int .i64 0,.bool false,vs (BV c.k),.int .i64 (Bs c.k),vs L,.int .i64 n1,vs M,.int .i64 n3,.int .i64 c.bI,.slice H t.length I,.slice ge e.length ce,.bool true] 262)).drew w.heap.size 262 _:=(AE.new w 262 _).drew;have O:=(R #[vs Ja,.int .i64 0,.int .i64 0,.bool false,vs (BV c.k),.int .i64 (Bs c.k),vs L,.int .i64 n1,vs M,.int .i64 n3,.int .i64 c.bI,.slice H t.length I,.slice ge e.length ce,.bool true]).drew;simp only[A6];clear h X hC hT hE Z Q K D R K0 B G Y E F S T W V;unfold vs at*;go_enter J4,I6;go_wp2_with fail
  go_region_law (first
   |(go_simp;go_at_call 141;refine(HC.out _ ?_ ?_).mono ?_;assumption;assumption;rintro y wq ⟨rfl,O,d⟩;have q:=d.cell 1;have r:=d.cell 4;have s:=d.cell 5;have u:=d.cell 6;have v:=d.cell 7;have z:=d.cell 8;have A:=d.cell 9;have i:=d.cell 10;have j:=d.cell 11;have n:=d.cell 12;have p:=d.cell 13;have zl:=d.lt;simp at q r s u v z A i j n p)
   |(go_simp;go_at_call 98;refine(U.out _ ?_ ?_).mono ?_;assumption;assumption;rintro y wq ⟨rfl,O,d⟩;have q:=d.cell 1;have r:=d.cell 4;have s:=d.cell 5;have u:=d.cell 6;have v:=d.cell 7;have z:=d.cell 8;have A:=d.cell 9;have i:=d.cell 10;have j:=d.cell 11;have n:=d.cell 12;have p:=d.cell 13;have zl:=d.lt;simp at q r s u v z A i j n p))
  all_goals
   go_wp2_with fail;refine(HE.out _ ?_ ?_).mono ?_;assumption;assumption;rintro y w4 ⟨rfl,k4,r4⟩;have bp:=Aa k4;clear k4 r4;go_wp2;go_ret;exact⟨AG (λx=>Ending.returned (.string x)) N.out,bp.out⟩
 |false=>
  rw[Ai AY]at Q;obtain⟨rfl,_⟩:=Q;have d:AE (w.alloc (.cells #[vs Ja,.int .i64 0,.int .i64 0,.bool false,vs (BV c.k),.int .i64 (Bs c.k),vs L,.int .i64 n1,vs M,.int .i64 n3,.int .i64 c.bI,.slice H t.length I,A4,.bool false] 262)).drew w.heap.size 262 _:=(AE.new w 262 _).drew;have O:=(R #[vs Ja,.int .i64 0,.int .i64 0,.bool false,vs (BV c.k),.int .i64 (Bs c.k),vs L,.int .i64 n1,vs M,.int .i64 n3,.int .i64 c.bI,.slice H t.length I,A4,.bool false]).drew;have D:(⟨#[105,102]⟩++(⟨#[32]⟩++⟨C.toArray⟩++⟨#[32]⟩++⟨J.toArray⟩):ByteArray)=⟨(Ja++Cb++C++Cb++J++[]).toArray⟩:=by rw[AM];exact K
  have N:=Aa D;simp only[Ap,A8];clear h X hC hT Z K D R K0 B G Y E F S T V;unfold A4 vs at*;go_enter J4,I6;go_wp2_with fail
  go_region_law (first
   |(go_simp;go_at_call 141;refine(HC.out _ ?_ ?_).mono ?_;assumption;assumption;rintro y wq ⟨rfl,O,d⟩;have q:=d.cell 1;have r:=d.cell 4;have s:=d.cell 5;have u:=d.cell 6;have v:=d.cell 7;have z:=d.cell 8;have A:=d.cell 9;have i:=d.cell 10;have j:=d.cell 11;have n:=d.cell 12;have p:=d.cell 13;have zl:=d.lt;simp at q r s u v z A i j n p)
   |(go_simp;go_at_call 98;refine(U.out _ ?_ ?_).mono ?_;assumption;assumption;rintro y wq ⟨rfl,O,d⟩;have q:=d.cell 1;have r:=d.cell 4;have s:=d.cell 5;have u:=d.cell 6;have v:=d.cell 7;have z:=d.cell 8;have A:=d.cell 9;have i:=d.cell 10;have j:=d.cell 11;have n:=d.cell 12;have p:=d.cell 13;have zl:=d.lt;simp at q r s u v z A i j n p))
  all_goals
   have bq:=Aa O;clear O d;go_wp2;go_ret;exact⟨AG (λx=>Ending.returned (.string x)) N.out,bq.out⟩
theorem t8 (hB:mq m) (h:du w gp vd vr vh vm f l) {n:Int}(br:1<=n) (bt:n<=50) {c:C3}(N:ZE l c.k) {t:Az}{O:Value}(Q:Cs Mg w O t) (R:t.size<=m) (S:t.size<=1000) (E:D9 l t):
  Calls prog 121 #[.pointer (some ⟨gp,0,none⟩),.agg (H6 n c O).toArray] w (Dr w (Bf++Cb++Ci n++Cb++Cu++Cb++DE l c++Cb++BU l t)):=by
 have k0:=λcs=>(Ac.refl (λb=>w.heap.size<=b) w).alloc (Ab _) (.cells cs 262);obtain⟨F,n1,G,n3,H,_⟩:=O6 c;obtain⟨B,C,rfl⟩:∃g c,O= .slice g t.length c:=by obtain⟨_,T,_⟩:=Q;exact T.bz
 have lc:=Hs h.dw N;have lt:=El h.dw E;have ld:=(FM (n:=n) (by omega) (by omega)).2.1;have D:H6 n c (.slice B t.length C)=[vs Bf,.int .i64 n,.int .i64 0,.bool false,vs (BV c.k),.int .i64 (Bs c.k),vs F,.int .i64 n1,vs G,.int .i64 n3,.int .i64 c.bI,.slice B t.length C,A4,.bool false]:=by unfold H6;rw[H];rfl
 have U:=Xn h c N [vs Bf,.int .i64 n,.int .i64 0,.bool false,vs (BV c.k),.int .i64 (Bs c.k),vs F,.int .i64 n1,vs G,.int .i64 n3,.int .i64 c.bI,.slice B t.length C,A4,.bool false];have hT:=UR hB h R S E Q [vs Bf,.int .i64 n,.int .i64 0,.bool false,vs (BV c.k),.int .i64 (Bs c.k),vs F,.int .i64 n1,vs G,.int .i64 n3,.int .i64 c.bI,.slice B t.length C,A4,.bool false];rw[D];rw[H]at U;have J:∀W,Ac (λb=>w.heap.size<=b) w W->AE W w.heap.size 262 [vs Bf,.int .i64 n,.int .i64 0,.bool false,vs (BV c.k),.int .i64 (Bs c.k),vs F,.int .i64 n1,vs G,.int .i64 n3,.int .i64 c.bI,.slice B t.length C,A4,.bool false]->
   Calls prog 97 #[.int .i64 n] W λy w'=>y= .returned (vs (Ci n))/\Ac (λb=>w.heap.size<=b) w w'/\AE w' w.heap.size 262 [vs Bf,.int .i64 n,.int .i64 0,.bool false,vs (BV c.k),.int .i64 (Bs c.k),vs F,.int .i64 n1,vs G,.int .i64 n3,.int .i64 c.bI,.slice B t.length C,A4,.bool false]:=λW hk hr=>by
  refine(Rd (n:=n) (by omega) (by omega)).mono ?_;rintro y w' ⟨T,h2⟩;exact⟨T,hk.trans (h2.mono (λb hb=>Ad hk.size hb)),hr.kept h2 (λe=>by have:=hr.lt;omega)⟩
 generalize V:DE l c=K at*;generalize X:BU l t=Y at*;generalize Z:Ci n=I at*;have s0:=B7 (P:=prog) (a:=⟨#[114,101,112,101,97,116]⟩) (b:=⟨#[32]⟩) (by simp only[Ag,Ay,Af,Ak];omega);have s1:=B7 (P:=prog) (a:=⟨#[114,101,112,101,97,116]⟩++⟨#[32]⟩) (b:=⟨I.toArray⟩) (by simp only[Ag,Ay,Af,Ak];omega);have s2:=B7 (P:=prog) (a:=⟨#[114,101,112,101,97,116]⟩++⟨#[32]⟩++⟨I.toArray⟩) (b:=⟨#[32,119,104,105,108,101,32]⟩) (by simp only[Ag,Ay,Af,Ak];omega);have s3:=B7 (P:=prog) (a:=⟨#[114,101,112,101,97,116]⟩++⟨#[32]⟩++⟨I.toArray⟩++⟨#[32,119,104,105,108,101,32]⟩) (b:=⟨K.toArray⟩) (by simp only[Ag,Ay,Af,Ak];omega);have s4:=B7 (P:=prog) (a:=⟨#[114,101,112,101,97,116]⟩++⟨#[32]⟩++⟨I.toArray⟩++⟨#[32,119,104,105,108,101,32]⟩++⟨K.toArray⟩) (b:=⟨#[32]⟩) (by simp only[Ag,Ay,Af,Ak];omega);have s5:=B7 (P:=prog) (a:=⟨#[114,101,112,101,97,116]⟩++⟨#[32]⟩++⟨I.toArray⟩++⟨#[32,119,104,105,108,101,32]⟩++⟨K.toArray⟩++⟨#[32]⟩) (b:=⟨Y.toArray⟩) (by simp only[Ag,Ay,Af,Ak];omega);have L:(⟨#[114,101,112,101,97,116]⟩:ByteArray)++⟨#[32]⟩++⟨I.toArray⟩++⟨#[32,119,104,105,108,101,32]⟩++⟨K.toArray⟩++⟨#[32]⟩++⟨Y.toArray⟩=⟨(Bf++Cb++I++Cb++Cu++Cb++K++Cb++Y).toArray⟩:=by rw[BI,BI,BI,BI,BI,BI];simp[Cb]
 obtain⟨HC,aD,ba,be⟩:=zq4 U hT J L;have d:AE (w.alloc (.cells #[vs Bf,.int .i64 n,.int .i64 0,.bool false,vs (BV c.k),.int .i64 (Bs c.k),vs F,.int .i64 n1,vs G,.int .i64 n3,.int .i64 c.bI,.slice B t.length C,A4,.bool false] 262)).drew w.heap.size 262 _:=(AE.new w 262 _).drew;have M:=(k0 #[vs Bf,.int .i64 n,.int .i64 0,.bool false,vs (BV c.k),.int .i64 (Bs c.k),vs F,.int .i64 n1,vs G,.int .i64 n3,.int .i64 c.bI,.slice B t.length C,A4,.bool false]).drew;clear h hB U hT J Q L k0 D H N E V X Z;unfold A4 vs at*;go_enter J4,I6;go_wp2_with fail
 go_region_law (first
  |(go_simp;go_at_call 141;refine(HC.out _ ?_ ?_).mono ?_;assumption;assumption;rintro y wq ⟨rfl,M,d⟩;have q:=d.cell 1;have r:=d.cell 4;have s:=d.cell 5;have u:=d.cell 6;have v:=d.cell 7;have z:=d.cell 8;have A:=d.cell 9;have i:=d.cell 10;have j:=d.cell 11;have o:=d.cell 12;have p:=d.cell 13;have zl:=d.lt;simp at q r s u v z A i j o p)
  |(go_simp;go_at_call 98;refine(aD.out _ ?_ ?_).mono ?_;assumption;assumption;rintro y wq ⟨rfl,M,d⟩;have q:=d.cell 1;have r:=d.cell 4;have s:=d.cell 5;have u:=d.cell 6;have v:=d.cell 7;have z:=d.cell 8;have A:=d.cell 9;have i:=d.cell 10;have j:=d.cell 11;have o:=d.cell 12;have p:=d.cell 13;have zl:=d.lt;simp at q r s u v z A i j o p)
  |(go_simp;go_at_call 97;refine(ba.out _ ?_ ?_).mono ?_;assumption;assumption;rintro y wq ⟨rfl,M,d⟩;have q:=d.cell 1;have r:=d.cell 4;have s:=d.cell 5;have u:=d.cell 6;have v:=d.cell 7;have z:=d.cell 8;have A:=d.cell 9;have i:=d.cell 10;have j:=d.cell 11;have o:=d.cell 12;have p:=d.cell 13;have zl:=d.lt;simp at q r s u v z A i j o p))
 all_goals
  have bf:=Aa M;clear M d;go_wp2;go_ret;exact⟨AG (λx=>Ending.returned (.string x)) be.out,bf.out⟩
end
theorem jE {m:Nat}(u:mq m):wO (m+1):=by
 intro w gp B C D E f l x cs s h k j b d g p;cases x with
 |nil=>cases k
 |bG y rest=>
  obtain rfl:=XJ rest (by simpa[Az.length]using k);obtain⟨rest,rfl,rfl⟩:=g;rw[AM];obtain rfl:=Xr p;have i:=d.1;cases y with
  |put q t=>show Calls _ _ _ _ (Dr w (Kx++Cb++Bu l q++Jf t++AN));rw[Re];exact QZ h Kx (.inl rfl) i.1 t
  |bx q=>
   have a:=QZ h Ep (.inr (.inl rfl)) i.1 false;have e:Ep++Cb++Bu l q++Dc false++AN=CA l (.bx q):=by simp[Dc,CA]
   rw[e]at a;exact a
  |dz q=>
   have a:=QZ h Ig (.inr (.inr (.inl rfl))) i.1 false;have e:Ig++Cb++Bu l q++Dc false++AN=CA l (.dz q):=by simp[Dc,CA]
   rw[e]at a;exact a
  |shift q t tl=>show Calls _ _ _ _ (Dr w (Do++Cb++Bu l q++Cb++Bu l t++Jf tl++AN));rw[Re];exact jF h i.1.1 i.2.1 tl
  |inc v=>
   have a:=QZ h Mb (.inr (.inr (.inr (.inl rfl)))) i.1 false;have e:Mb++Cb++Bu l v++Dc false++AN=CA l (.inc v):=by simp[Dc,CA]
   rw[e]at a;exact a
  |dec v=>
   have a:=QZ h Mc (.inr (.inr (.inr (.inr rfl)))) i.1 false;have e:Mc++Cb++Bu l v++Dc false++AN=CA l (.dec v):=by simp[Dc,CA]
   rw[e]at a;exact a
  |drop=>exact ZR IW (.inl rfl)
  |bump=>exact ZR IX (.inr rfl)
 |ite c t o e rest=>
  obtain rfl:=XJ rest (by simpa[Az.length]using k);obtain⟨A,ve,rest,rfl,r,z,rfl⟩:=g;rw[AM];obtain rfl:=Z3 p;simp only[Az.size]at j b;refine zz u h d.1 r ?_ (by omega) (by omega) (by omega) d.2.1 d.2.2.1;cases o with
  |true=>exact z
  |false=>exact z
 |rep n c t rest=>
  obtain rfl:=XJ rest (by simpa[Az.length]using k);obtain⟨A,rest,rfl,r,rfl⟩:=g;rw[AM];obtain rfl:=Z1 p;simp only[Az.size]at j b;exact t8 u h d.2.2.2.1 d.2.2.2.2 d.1 r (by omega) (by omega) d.2.1
theorem Xl:∀m,wO m/\mq m
 |0=>by
  have h:wO 0:=by
   intro w gp g i j k f l x cs s h d a;cases x with
   |nil=>cases d
   |bG p r=>simp[Az.size]at a
   |ite c t o e r=>simp[Az.size]at a
   |rep n c b r=>simp[Az.size]at a
  exact⟨h,UQ h⟩
 |m+1=>by have h:=jE (Xl m).2;exact⟨h,UQ h⟩
theorem ju {k:Nat}(h:k<=2):B5 k=Ip k:=by
 have a:k=0\/k=1\/k=2:=by omega
 rcases a with rfl|rfl|rfl<;>rfl
theorem NG (k:Nat):(Ip k).length<=5:=by
 unfold Ip;split
 ·simp
 ·split<;>simp
theorem LV {p:Ax}(a:Ej p) {k:Nat}(b:k<p.decls.length):(Aq p.decls (k:Int)).kind<=2/\(Aq p.decls (k:Int)).name.length<=8/\1<=(Aq p.decls (k:Int)).max/\(Aq p.decls (k:Int)).max<=99/\p.decls[k]?=some (Aq p.decls (k:Int)):=by
 have e:p.decls[k]?=some (Aq p.decls (k:Int)):=by unfold Aq;rw[As,Ae b];rfl
 have h:=a.decls.each _ (Aw e);refine⟨h.kind,h.name.2.1,h.lo,?_,e⟩;have:=h.hi;split at this<;>omega
def E8 (p:Ax) (k:Nat):Ah:=((p.decls.take k).map Kj).flatten
theorem O8 {p:Ax}{k:Nat}{d:Bi}(h:p.decls[k]?=some d):E8 p (k+1)=E8 p k++Kj d:=by unfold E8;rw[gV,h];simp
theorem Qt {p:Ax}(f:Ej p):∀k,k<=p.decls.length->(E8 p k).length<=40*k
 |0,_=>by simp[E8]
 |k+1,g=>by obtain⟨a,b,c,d,e⟩:=LV f (k:=k) (by omega);rw[O8 e,Ao];have h:=Qt f k (by omega);have i:=NG (Aq p.decls (k:Int)).kind;have j:=(FM (n:=(Aq p.decls (k:Int)).max) (by omega) (by omega)).2.1;simp[Kj,Cb];omega
theorem IS {p:Ax}(a:Ej p) {k:Int}{b:Az}(h:Bj p.rules k=some b):D9 p.decls b/\b.size<=700:=by have c:=Kk h;have d:=UV (x:=(k,b)) c;have e:=a.size;exact⟨(a.rules.each _ c).w,by simp only at d;omega⟩
theorem MC {p:Ax}(a:Ej p):∀k,(Bz p k).length<=70100*k
 |0=>by simp[Bz]
 |k+1=>by
  rw[Bz,Ao];have d:=MC a k;have e:(FG p k).length<=70100:=by
   unfold FG;split
   ·rename_i b c;obtain⟨f,g,h⟩:=zp3 (El a.decls (IS a c).1) ((IS a c).2) (Dz a.decls (k:Int));simp[Cb];omega
   ·simp
  omega
theorem Ri {p:Ax}(a:Ej p):(DQ p.aD).length<=20:=by
 unfold DQ;split
 ·have b:=(FM (n:=p.aD) (by omega) (by have:=a.aD;omega)).2.1;simp[Cb];omega
 ·simp
section
variable {N:Nat->Prop}{w:World}{gp:Nat}{p:Ax}
theorem L0.rH (h:L0 N w gp p) (e:Ej p):∃a b c d,du w gp a b c d p.aD p.decls:=by obtain⟨a,b,c,d,i,j,f,g,_⟩:=h;exact⟨a,b,c,d,f,g.mono (λ_ _=>trivial),e.decls⟩
theorem ir (h:L0 N w gp p) (c:Ej p) {b:Az}{v:Value}(d:Cs N w v b) (e:D9 p.decls b) (l:b.size<=700):∀W,Ac (λb=>w.heap.size<=b) w W->Calls prog 98 #[.pointer (some ⟨gp,0,none⟩),v] W (Dr W (BU p.decls b)):=λW a=>by obtain⟨f,g,i,j,k⟩:=h.rH c;exact(Xl b.size).2 W gp f g i j p.aD p.decls b v (k.later a) (Ab _) (by omega) e (Vc a (d.mono (λ_ _ _=>trivial)))
theorem jD (h:L0 N w gp p) (C:Ej p):Calls prog 58 #[.pointer (some ⟨gp,0,none⟩)] w (Dr w (text p)):=by
 obtain⟨vd,vr,vh,vm,hs,rs,p1,p2,p3,p4,p5,am,nm,cm,rfl⟩:=id h;obtain⟨hn,c0,c1,c2,c3,c4,gl⟩:=zp7 C.decls.len (p1.cell 0) (p1.cell 1) (p1.cell 2) (p1.cell 3) (p1.cell 4) p1.lt;obtain⟨ad,cd,rfl⟩:=p2.bz;obtain⟨ah,ch,rfl⟩:=p3.has.bz;obtain⟨ar,cr,rfl⟩:=p3.ky.bz;simp at c0 c1 c2 c3 c4;obtain⟨bm,M⟩:∃b,Eo p.rules=some b:=Option.isSome_iff_exists.1 C.qn;have be:=IS C (k:= -1) M;have D:∀W,Ac (λb=>w.heap.size<=b) w W->Calls prog 98 #[.pointer (some ⟨gp,0,none⟩),.slice am nm cm] W (Dr W (BU p.decls bm)):=ir h C (by have:=p4.vm;rw[M]at this;exact this) be.1 be.2;have iO:=El C.decls be.1;have cD:Rh p=[111,110,32,109,105,115,115,32]++BU p.decls bm++[10]:=by unfold Rh;rw[M];rfl
 obtain⟨bf,bg,cL,iP⟩:=zp4 (Qt C) (MC C) (Ri C) C.aD;obtain⟨bh,eR,cW,eS,eT,H,HP,E⟩:=zq8 D cD bf bg cL h C p3;have cY:=Aa p4;generalize hL:p.decls.length=L at*;have HL:=Aa hL;clear D cD bf bg cL h C p1 p2 p3 p4 p5 M hL;go_enter func58,ntmps58;go_wp2_with fail
 go_loopg [13,3] L (λgg eV O wr=>∃k:Nat,k<=L/\L-k<=gg/\eV= .int .i64 k/\O= .string ⟨(E8 p k).toArray⟩/\Ac (λb=>w.heap.size<=b) w wr)
 case atStart=>exact⟨0,AQ _,by omega,rfl,rfl,Ac.refl _ _⟩
 case round=>
  obtain⟨k,V,hg,rfl,rfl,f⟩:=hrel;have hZ:=cW.out k V;by_cases iQ:k<L
  ·obtain⟨gd,eW,u,f1,f2,f3,f4,f5,f6,f7⟩:=H.out.decl (k:=k) (by have:=HL.out;omega);obtain⟨a,b,c,d,e⟩:=LV HP.out (k:=k) (by have:=HL.out;omega);rw[c0]at u;injection u with u;injection u with u e0 bj;subst u bj;clear e0;have z0:=(f.cell (p:=⟨gd,k*3,none⟩) (by simp only;omega)).trans f5;have z1:=(f.cell (p:=⟨gd,k*3+1,none⟩) (by simp only;omega)).trans f6;have z2:=(f.cell (p:=⟨gd,k*3+2,none⟩) (by simp only;omega)).trans f7;have zl:=An f3 f.size;rw[ju a]at z0;have iW:=NG (Aq p.decls (k:Int)).kind;have i9:=(FM (n:=(Aq p.decls (k:Int)).max) (by omega) (by omega)).2.1;have r:=O8 e;have l:∀W,Ac (λb=>w.heap.size<=b) w W->AE W wr.heap.size 224 [vs (Ip (Aq p.decls (k:Int)).kind),vs (Aq p.decls (k:Int)).name,.int .i64 (Aq p.decls (k:Int)).max]->Calls prog 97 #[.int .i64 (Aq p.decls (k:Int)).max] W λy w'=>y= .returned (vs (Ci (Aq p.decls (k:Int)).max))/\Ac (λb=>w.heap.size<=b) w w'/\AE w' wr.heap.size 224 [vs (Ip (Aq p.decls (k:Int)).kind),vs (Aq p.decls (k:Int)).name,.int .i64 (Aq p.decls (k:Int)).max]:=λW V hr=>by refine(Rd (n:=(Aq p.decls (k:Int)).max) (by omega) (by omega)).mono ?_;rintro y w' ⟨h1,h2⟩;exact⟨h1,V.trans (h2.mono (λb hb=>Ad V.size hb)),hr.kept h2 (λe=>by have:=hr.lt;omega)⟩
   have da:Kj (Aq p.decls (k:Int))=Ip (Aq p.decls (k:Int)).kind++Cb++(Aq p.decls (k:Int)).name++Cb++Ci (Aq p.decls (k:Int)).max++[59,10]:=rfl;rw[da]at r;generalize Ip (Aq p.decls (k:Int)).kind=m at*;generalize (Aq p.decls (k:Int)).name=g at*;generalize fa:(Aq p.decls (k:Int)).max=F at*;generalize Ci F=Q at*;generalize o:E8 p k=z at*;have s1:=B7 (P:=prog) (a:=⟨m.toArray⟩) (b:=⟨#[32]⟩) (by simp only[Ag,Ay,Af,Ak];omega);have s2:=B7 (P:=prog) (a:=⟨m.toArray⟩++⟨#[32]⟩) (b:=⟨g.toArray⟩) (by simp only[Ag,Ay,Af,Ak];omega);have O:=B7 (P:=prog) (a:=⟨m.toArray⟩++⟨#[32]⟩++⟨g.toArray⟩) (b:=⟨#[32]⟩) (by simp only[Ag,Ay,Af,Ak];omega);have s4:=B7 (P:=prog) (a:=⟨m.toArray⟩++⟨#[32]⟩++⟨g.toArray⟩++⟨#[32]⟩) (b:=⟨Q.toArray⟩) (by simp only[Ag,Ay,Af,Ak];omega);have s5:=B7 (P:=prog) (a:=⟨m.toArray⟩++⟨#[32]⟩++⟨g.toArray⟩++⟨#[32]⟩++⟨Q.toArray⟩) (b:=⟨#[59,10]⟩) (by simp only[Ag,Ay,Af,Ak];omega);have s6:=B7 (P:=prog) (a:=⟨z.toArray⟩) (b:=⟨m.toArray⟩++⟨#[32]⟩++⟨g.toArray⟩++⟨#[32]⟩++⟨Q.toArray⟩++⟨#[59,10]⟩) (by simp only[Ag,Ay,Af,Ak];omega);have i:(⟨z.toArray⟩:ByteArray)++(⟨m.toArray⟩++⟨#[32]⟩++⟨g.toArray⟩++⟨#[32]⟩++⟨Q.toArray⟩++⟨#[59,10]⟩)=⟨(E8 p (k+1)).toArray⟩:=by rw[r,BI,BI,BI,BI,BI,BI];rfl
   obtain⟨q,G⟩:=zq2 i l;have A:AE (wr.alloc (.cells #[vs m,vs g,.int .i64 F] 224)).drew wr.heap.size 224 [vs m,vs g,.int .i64 F]:=(AE.new wr 224 _).drew;have kq:Ac (λb=>w.heap.size<=b) w (wr.alloc (.cells #[vs m,vs g,.int .i64 F] 224)).drew:=(f.alloc f.size _).drew;clear i l r da o e f5 f6 f7 f fa;unfold vs at*;go_wp2_with fail
   go_region_law (go_simp;go_at_call 97;refine(G.out _ ?_ ?_).mono ?_;assumption;assumption;rintro y wq ⟨rfl,kq,A⟩;have bp:=A.cell 0;have bq:=A.cell 1;have br:=A.cell 2;have zl:=A.lt;simp at bp bq br)
   all_goals
    have bt:=Aa kq;clear kq A;go_wp2;go_roundg (L-(k+1))
    case measure=>omega
    case rel=>exact⟨k+1,by omega,by omega,by go_num,AG Value.string q.out,bt.out⟩
  ·have fd:k=L:=by omega
   subst fd;have s:=Aa f;have kl:=f.size;have c0:=(f.cell (p:=⟨gp,0,none⟩) (by simp only;omega)).trans c0;have c1:=(f.cell (p:=⟨gp,1,none⟩) (by simp only;omega)).trans c1;clear f;go_upto_if 36 with fail;go_cut [3] (λO wx=>O= .string ⟨(E8 p k++DQ p.aD).toArray⟩/\Ac (λb=>w.heap.size<=b) w wx)
   case first=>
    generalize o:E8 p k=z at*;by_cases R:0<p.aD
    ·have l:=λW=>Rd (w:=W) (n:=p.aD) (by omega) (by omega);have bf:=(FM (n:=p.aD) (by omega) (by omega)).2.1;have I:DQ p.aD=[102,114,101,113,32]++Ci p.aD++[59,10]:=by unfold DQ;rw[Al R];simp[Cb]
     have e1:decide (p.aD>0)=true:=DX R;generalize p.aD=fq at*;generalize Ci fq=Q at*;have s1:=B7 (P:=prog) (a:=⟨#[102,114,101,113,32]⟩) (b:=⟨Q.toArray⟩) (by simp only[Ag,Ay,Af,Ak];omega);have s2:=B7 (P:=prog) (a:=⟨#[102,114,101,113,32]⟩++⟨Q.toArray⟩) (b:=⟨#[59,10]⟩) (by simp only[Ag,Ay,Af,Ak];omega);have O:=B7 (P:=prog) (a:=⟨z.toArray⟩) (b:=⟨#[102,114,101,113,32]⟩++⟨Q.toArray⟩++⟨#[59,10]⟩) (by simp only[Ag,Ay,Af,Ak];omega);have i:(⟨z.toArray⟩:ByteArray)++(⟨#[102,114,101,113,32]⟩++⟨Q.toArray⟩++⟨#[59,10]⟩)=⟨(z++DQ fq).toArray⟩:=by rw[I,BI,BI,BI]
     obtain⟨q,G⟩:=zq2 i l;clear i l I o;go_wp2_with fail;refine(G.out _).mono ?_;rintro y w2 ⟨rfl,db⟩;have bu:=Aa db;clear db;unfold vs;go_wp2;go_meet;exact⟨AG Value.string q.out,s.out.trans (bu.out.mono (λb hb=>Ad kl hb))⟩
    ·have e1:decide (p.aD>0)=false:=Ck R;have I:DQ p.aD=[]:=by unfold DQ;rw[Ai R]
     have fi:=Aa I;clear I o;generalize p.aD=fq at*;go_wp2;go_meet;exact⟨by rw[fi.out,AM],s.out⟩
   obtain⟨rfl,k2⟩:=hcut;have bu:=Aa k2;have c0:=(k2.cell (p:=⟨gp,0,none⟩) (by simp only;omega)).trans (by assumption:w.cell? ⟨gp,0,none⟩=_);have jr:=k2.size;have jZ:(E8 p k++DQ p.aD).length<=1000:=by rw[Ao];have:=eT.out;have:=cW.out k (Ab _);omega
   generalize dc:E8 p k++DQ p.aD=S at*;have fj:=Aa dc;clear k2 dc;go_wp2_with fail
   go_loopg [51,3] k (λgg fm O wr=>∃j:Nat,j<=k/\k-j<=gg/\fm= .int .i64 j/\O= .string ⟨(S++Bz p j).toArray⟩/\Ac (λb=>w.heap.size<=b) w wr)
   case atStart=>exact⟨0,AQ _,by omega,rfl,by rw[show Bz p 0=[]from rfl,AM],bu.out⟩
   case round=>
    obtain⟨j,hj,li,rfl,rfl,f⟩:=hrel;have bg:=eS.out j;have wl:=f.size;by_cases X:j<k
    ·obtain⟨gd,eW,u,f1,f2,f3,f4,f5,f6,f7⟩:=H.out.decl (k:=j) (by have:=HL.out;omega);obtain⟨a,b,c,d,e⟩:=LV HP.out (k:=j) (by have:=HL.out;omega);have bx:w.cell? ⟨gp,0,none⟩=some (.slice ad k cd):=by assumption
     have bC:w.cell? ⟨gp,2,none⟩=some (.slice ar k cr):=by assumption
     have bD:w.cell? ⟨gp,3,none⟩=some (.slice ah k ch):=by assumption
     rw[bx]at u;injection u with u;injection u with u e0 bj;subst u bj;clear e0;obtain⟨gh,lj,eh,_,h1,h2,h3⟩:=E.out.has.form (by omega);injection eh with eh _ fp;subst eh fp;have hc:=E.out.has.1.cellAt j (by omega);rw[At,cY.out.hs j X]at hc;obtain⟨gr,lm,er,_,r1,r2,r3⟩:=E.out.ky.form (by omega);injection er with er _ fP;subst er fP;obtain⟨v,hv,J⟩:=cY.out.rs j X;obtain⟨av,nv,cv,rfl⟩:=E.out.shape v (Aw hv);have rc:=E.out.ky.1.cellAt j (by omega);rw[hv]at rc;have z0:=(f.cell (p:=⟨gd,j*3,none⟩) (by simp only;omega)).trans f5;have z1:=(f.cell (p:=⟨gd,j*3+1,none⟩) (by simp only;omega)).trans f6;have z2:=(f.cell (p:=⟨gd,j*3+2,none⟩) (by simp only;omega)).trans f7;have zh:=(f.cell (p:=⟨gh,j,none⟩) (by simp only;omega)).trans hc;have zr:=(f.cell (p:=⟨gr,j,none⟩) (by simp only;omega)).trans rc;have y2:=(f.cell (p:=⟨gp,2,none⟩) (by simp only;omega)).trans bC;have y3:=(f.cell (p:=⟨gp,3,none⟩) (by simp only;omega)).trans bD;obtain⟨zl,lx,lA⟩:=zp3 (An f3 f.size) (An h3 f.size) (An r3 f.size);have n1:¬gp=wr.heap.size:=by omega
     have n2:¬gh=wr.heap.size:=by omega
     have n3:¬gr=wr.heap.size:=by omega
     have n4:gp<wr.heap.size:=by omega
     have T:Bz p (j+1)=Bz p j++FG p j:=rfl;unfold maxLen at h2 r2;simp only[B8]at zh;have bE:Bu p.decls (j:Int)=(Aq p.decls (j:Int)).name:=rfl;cases t:Bj p.rules (j:Int)with
     |none=>
      have B:FG p j=[]:=by unfold FG;rw[t]
      rw[t]at zh;obtain⟨fR,s⟩:=zq2 (show Bz p (j+1)=Bz p j by rw[T,B,AM]) f;generalize B5 (Aq p.decls (j:Int)).kind=m at*;generalize (Aq p.decls (j:Int)).name=g at*;generalize (Aq p.decls (j:Int)).max=F at*;clear T B f hc hv J rc f5 f6 f7 bx bC bD t e bE;simp only[cR]at zh;unfold vs at*;go_wp2;go_roundg (k-(j+1))
      case measure=>omega
      case rel=>exact⟨j+1,by omega,by omega,by go_num,by rw[fR.out],s.out.alloc wl _⟩
     |some bl=>
      have B:FG p j=TF++Cb++Bu p.decls (j:Int)++Cb++BU p.decls bl++[10]:=by unfold FG;rw[t]
      rw[t]at zh J;rw[Ic]at J;obtain⟨Y,di⟩:=IS HP.out t;have lB:=El HP.out.decls Y;have dj:=ir H.out HP.out J Y di;rw[bE]at B;generalize B5 (Aq p.decls (j:Int)).kind=m at*;generalize (Aq p.decls (j:Int)).name=g at*;generalize (Aq p.decls (j:Int)).max=F at*;generalize bF:BU p.decls bl=U at*;have Z:∀W,Ac (λb=>w.heap.size<=b) w W->AE W wr.heap.size 224 [vs m,vs g,.int .i64 F]->Calls prog 98 #[.pointer (some ⟨gp,0,none⟩),.slice av nv cv] W λy w'=>y= .returned (vs U)/\Ac (λb=>w.heap.size<=b) w w'/\AE w' wr.heap.size 224 [vs m,vs g,.int .i64 F]:=λW V hr=>by refine(dj W V).mono ?_;rintro y w' ⟨q1,q2⟩;exact⟨q1,V.trans (q2.mono (λb hb=>Ad V.size hb)),hr.kept q2 (λe=>by have:=hr.lt;omega)⟩
      have gQ:(S++Bz p j).length<=600000:=by rw[Ao];omega
      have K:S++Bz p (j+1)=(S++Bz p j)++([111,110,32]++g++[32]++U++[10]):=by rw[T,B];simp[Cb]
      generalize o:S++Bz p j=z at*;have s1:=B7 (P:=prog) (a:=⟨#[111,110,32]⟩) (b:=⟨g.toArray⟩) (by simp only[Ag,Ay,Af,Ak];omega);have s2:=B7 (P:=prog) (a:=⟨#[111,110,32]⟩++⟨g.toArray⟩) (b:=⟨#[32]⟩) (by simp only[Ag,Ay,Af,Ak];omega);have O:=B7 (P:=prog) (a:=⟨#[111,110,32]⟩++⟨g.toArray⟩++⟨#[32]⟩) (b:=⟨U.toArray⟩) (by simp only[Ag,Ay,Af,Ak];omega);have s4:=B7 (P:=prog) (a:=⟨#[111,110,32]⟩++⟨g.toArray⟩++⟨#[32]⟩++⟨U.toArray⟩) (b:=⟨#[10]⟩) (by simp only[Ag,Ay,Af,Ak];omega);have s5:=B7 (P:=prog) (a:=⟨z.toArray⟩) (b:=⟨#[111,110,32]⟩++⟨g.toArray⟩++⟨#[32]⟩++⟨U.toArray⟩++⟨#[10]⟩) (by simp only[Ag,Ay,Af,Ak];omega);have i:(⟨z.toArray⟩:ByteArray)++(⟨#[111,110,32]⟩++⟨g.toArray⟩++⟨#[32]⟩++⟨U.toArray⟩++⟨#[10]⟩)=⟨(S++Bz p (j+1)).toArray⟩:=by rw[K,BI,BI,BI,BI,BI]
      obtain⟨q,dm⟩:=zq2 i Z;have A:AE (wr.alloc (.cells #[vs m,vs g,.int .i64 F] 224)).drew wr.heap.size 224 [vs m,vs g,.int .i64 F]:=(AE.new wr 224 _).drew;have kq:Ac (λb=>w.heap.size<=b) w (wr.alloc (.cells #[vs m,vs g,.int .i64 F] 224)).drew:=(f.alloc f.size _).drew;clear T B f hc hv J rc f5 f6 f7 bx bC bD t e bE dj Z i K o bF;simp only[Option.isSome_some]at zh;unfold vs at*;go_wp2_with fail
      go_region_law (go_simp;go_at_call 98;refine(dm.out _ ?_ ?_).mono ?_;assumption;assumption;rintro y wq ⟨rfl,kq,A⟩;have bp:=A.cell 0;have bq:=A.cell 1;have br:=A.cell 2;have zl:=A.lt;simp at bp bq br)
      all_goals
       have bt:=Aa kq;clear kq A;go_wp2;go_roundg (k-(j+1))
       case measure=>omega
       case rel=>exact⟨j+1,by omega,by omega,by go_num,AG Value.string q.out,bt.out⟩
    ·have gX:j=k:=by omega
     subst gX;have gY:w.cell? ⟨gp,4,none⟩=some (.slice am nm cm):=by assumption
     have y4:=(f.cell (p:=⟨gp,4,none⟩) (by simp only;omega)).trans gY;have s:=Aa f;have gQ:(S++Bz p j).length<=600000:=by rw[Ao];omega
     have K:text p=(S++Bz p j)++[111,110,32,109,105,115,115,32]++BU p.decls bm++[10]:=by
      have e1:E8 p j=(p.decls.map Kj).flatten:=by unfold E8;rw[←HL.out,J7]
      unfold text;rw[eR.out,HL.out,←e1,←fj.out];simp only[AK]
     have gZ:=Aa K;generalize o:S++Bz p j=z at*;generalize bF:BU p.decls bm=U at*;have s1:=B7 (P:=prog) (a:=⟨z.toArray⟩) (b:=⟨#[111,110,32,109,105,115,115,32]⟩) (by simp only[Ag,Ay,Af,Ak];omega);have s2:=B7 (P:=prog) (a:=⟨z.toArray⟩++⟨#[111,110,32,109,105,115,115,32]⟩) (b:=⟨U.toArray⟩) (by simp only[Ag,Ay,Af,Ak];omega);have O:=B7 (P:=prog) (a:=⟨z.toArray⟩++⟨#[111,110,32,109,105,115,115,32]⟩++⟨U.toArray⟩) (b:=⟨#[10]⟩) (by simp only[Ag,Ay,Af,Ak];omega);clear f K o bF;go_wp2_with fail;refine(bh.out _ s.out).mono ?_;rintro y w5 ⟨rfl,dr⟩;have hH:=Aa dr;clear dr;unfold vs;go_wp2;go_ret;refine⟨?_,s.out.trans (hH.out.mono (λb hb=>Ad wl hb))⟩;rw[gZ.out];refine AG (λx=>Ending.returned (.string x)) ?_;rw[BI,BI,BI]
end
theorem Sh {T e:TypeId}{B b:Nat}{c:List Value}{w w':World}(h:Lib.IsBuilder T e B b c w) (i:Ac (λk=>w.heap.size<=k) w w'):Lib.IsBuilder T e B b c w':=by
 have a:∀p,Lib.BuilderAt T e B b p c w->Lib.BuilderAt T e B b p c w':=by
  rintro p ⟨r,v,j,l,s⟩;have m:∀(g:Nat) o,w.heap[g]?=some o->g<w.heap.size:=λg o n=>by
   rcases Be g w.heap.size with h|h
   ·exact h
   ·rw[Ch h]at n;cases n
  refine⟨r,v,(i.block b (λh=>by have:=m b _ j;omega)).trans j,⟨l.1,?_⟩,s⟩;rcases l.2 with h|⟨g,d,f,t,u,q,y⟩
  ·exact .inl h
  ·exact .inr ⟨g,d,f,t,u,(i.block g (λh=>by have:=m g _ q;omega)).trans q,y⟩
 exact h.elim (λx=>.inl (a _ x)) (λx=>.inr (a _ x))
theorem wC (w:World):Lib.IsBuilder 140 5 w.heap.size w.heap.size (Lib.byteCells []) (w.alloc (.cells #[.pointer none,.slice none 0 0] 140)):=
 .inl ⟨Ab _,.slice none 0 0,PH w _,⟨rfl,.inl ⟨rfl,rfl⟩⟩,λh=>by cases h⟩
theorem FP.pN {N:Nat->Prop}{w:World}{bm:Nat}{a:List (Int×Az)}(h:FP N w bm a) (k:Int):∃v,(∀W,Ac (λb=>w.heap.size<=b) w W->∀c,(Instr.lookup 61 (.map (some bm)) (.int .i64 k) c).run prog W=
  .ok (if c then .tuple #[v,.bool (Bj a k).isSome]else v) W)/\(match Bj a k with|some b=>DD N w v b|none=>v= .slice none 0 0):=by
 obtain⟨M,g,l,m⟩:=h;have f:=SY M a l m k;have d:∀W,Ac (λb=>w.heap.size<=b) w W->BQ W bm .i64 M:=λW e=>g.kept e (λi=>by have:=g.lt;omega);cases j:Bj a k with
 |none=>
  rw[j]at f;refine⟨.slice none 0 0,λW e c=>?_,rfl⟩;rw[(d W e).lookup (P:=prog) Fb C9 Pi k c,show FV M k=none from f];rfl
 |some b=>
  rw[j]at f;obtain⟨v,n,i⟩:=f;refine⟨v,λW e c=>?_,i⟩;rw[(d W e).lookup (P:=prog) Fb C9 Pi k c,n];rfl
theorem Th {B b:Nat}{l s:Ah}{w0 W:World}{x:ByteArray}(h:Lib.IsBuilder 140 5 B b (Lib.byteCells l) W) (c:B<=w0.heap.size) (a:Ac (λk=>B<=k) w0 W) (d:x=⟨s.toArray⟩) (j:l.length+s.length<=1000000000):
  Calls prog 48 #[.pointer (some ⟨b,0,none⟩),.string x] W λe w'=>(∃n,e= .returned (.tuple #[.int .i64 n,.nilIface]))/\Lib.IsBuilder 140 5 B b (Lib.byteCells (l++s)) w'/\Ac (λk=>B<=k) w0 w':=by
 subst d;refine(fS h (by omega) (Ad c a.size)).mono ?_;rintro e w' ⟨f,g,i⟩;exact⟨f,g,a.trans i⟩
theorem px (W:World):(Instr.index 143 (.agg #[.string ⟨#[113,117,101,117,101]⟩,.string ⟨#[103,104,111,115,116]⟩,.string ⟨#[118,97,114]⟩]) (.int .i64 0)).run prog W= .ok (.string ⟨EK.toArray⟩) W:=by kernel_rfl
theorem pu (W:World):(Instr.index 143 (.agg #[.string ⟨#[113,117,101,117,101]⟩,.string ⟨#[103,104,111,115,116]⟩,.string ⟨#[118,97,114]⟩]) (.int .i64 1)).run prog W= .ok (.string ⟨Ge.toArray⟩) W:=by kernel_rfl
theorem pt (W:World):(Instr.index 143 (.agg #[.string ⟨#[113,117,101,117,101]⟩,.string ⟨#[103,104,111,115,116]⟩,.string ⟨#[118,97,114]⟩]) (.int .i64 2)).run prog W= .ok (.string ⟨Jo.toArray⟩) W:=by kernel_rfl
section
variable {S:Nat->Prop}{w:World}{gp bm:Nat}{p:Ax}{vd:Value}
theorem it (h:ZA w gp vd (.map (some bm)) p.aD p.decls) {N:Nat->Prop}{b:Az}{v:Value}(c:DD N w v b) (d:D9 p.decls b) (g:b.size<=700):∀W,Ac (λb=>w.heap.size<=b) w W->Calls prog 50 #[.pointer (some ⟨gp,0,none⟩),v] W (Dr W (BU p.decls b)):=λW a=>by obtain⟨cs,e,f⟩:=c;exact(Z4 b.size).2 W gp vd (.map (some bm)) p.aD p.decls b v (h.later a) (Ab _) (by omega) d (Ya a ⟨cs,e.mono (λ_ _ _=>trivial),A1.mono (λ_ _ _=>trivial) b cs f⟩)
theorem ox (h:ZA w gp vd (.map (some bm)) p.aD p.decls) (hr:FP S w bm p.rules) (hp:Ej p):Calls prog 24 #[.pointer (some ⟨gp,0,none⟩)] w (Dr w (text p)):=by
 obtain⟨hn,c0,c1,c2,gl⟩:=zp5 hp.decls.len (h.ba.cell 0) (h.ba.cell 1) (h.ba.cell 2) h.ba.lt;obtain⟨ad,cd,rfl⟩:=h.decls.bz;simp at c0 c1 c2;have da:∀k,k<p.decls.length->∃C,ad=some ⟨C,0,none⟩/\p.decls.length<=cd/\cd<=9223372036854775807/\C<w.heap.size/\w.cell? ⟨C,k*3,none⟩=some (.int .i64 (Aq p.decls (k:Int)).kind)/\w.cell? ⟨C,k*3+1,none⟩=some (vs (Aq p.decls (k:Int)).name)/\w.cell? ⟨C,k*3+2,none⟩=some (.int .i64 (Aq p.decls (k:Int)).max):=by
  intro k m;obtain⟨C,iU,ed,_,M,E,q3⟩:=h.decls.form (by omega);injection ed with ed _ eT;subst ed eT;have e:p.decls[k]?=some (Aq p.decls (k:Int)):=by unfold Aq;rw[As,Ae m];rfl
  unfold maxLen at E;exact⟨C,rfl,M,E,q3,h.decls.at_ (λ_=>rfl) e (j:=0) (by omega),h.decls.at_ (λ_=>rfl) e (j:=1) (by omega),h.decls.at_ (λ_=>rfl) e (j:=2) (by omega)⟩
 have dc:=Aa da;obtain⟨bu,bx,dh,iV⟩:=zp4 (Qt hp) (MC hp) (Ri hp) hp.aD;obtain⟨di,eU,eV,H,HR,HP⟩:=zq6 bu bx dh h hr hp;have dj:=wC w;have k0:Ac (λb=>w.heap.size<=b) w (w.alloc (.cells #[.pointer none,.slice none 0 0] 140)):=(Ac.refl _ w).alloc (Ab _) _;obtain⟨eW,K0⟩:=zq2 dj k0;generalize hL:p.decls.length=L at*;have HL:=Aa hL;have e0:¬gp=w.heap.size:=by omega
 clear bu bx dh h hr hp hL dj k0 da;go_enter func24,ntmps24;go_wp2_with fail
 go_loopg [15] L (λgg eY wr=>∃k:Nat,k<=L/\L-k<=gg/\eY= .int .i64 k/\Ac (λb=>w.heap.size<=b) w wr/\Lib.IsBuilder 140 5 w.heap.size w.heap.size (Lib.byteCells (E8 p k)) wr)
 case atStart=>exact⟨0,AQ _,by omega,rfl,K0.out,eW.out⟩
 case round=>
  obtain⟨k,m,hg,rfl,f,N⟩:=hrel;have iN:=di.out k m;obtain⟨Y,t⟩:=zq2 f N;clear N;by_cases eZ:k<L
  ·obtain⟨C,rfl,M,E,q3,x0,x1,x2⟩:=dc.out k eZ;obtain⟨a,b,c,d,e⟩:=LV HP.out (k:=k) (by have:=HL.out;omega);have z0:=(f.cell (p:=⟨C,k*3,none⟩) (by simp only;omega)).trans x0;have z1:=(f.cell (p:=⟨C,k*3+1,none⟩) (by simp only;omega)).trans x1;have z2:=(f.cell (p:=⟨C,k*3+2,none⟩) (by simp only;omega)).trans x2;have zl:=An q3 f.size;have jj:=(FM (n:=(Aq p.decls (k:Int)).max) (by omega) (by omega)).2.1;have jk:=NG (Aq p.decls (k:Int)).kind;have D:=O8 e;have dm:Kj (Aq p.decls (k:Int))=Ip (Aq p.decls (k:Int)).kind++Cb++(Aq p.decls (k:Int)).name++Cb++Ci (Aq p.decls (k:Int)).max++[59,10]:=rfl;rw[dm]at D;have hit:∀W,Calls prog 49 #[.int .i64 (Aq p.decls (k:Int)).max] W λe w'=>e= .returned (vs (Ci (Aq p.decls (k:Int)).max))/\w'=W:=λW=>by
    have:=Ti (Aq p.decls (k:Int)).max.toNat (by omega) W;rw[Li (by omega)]at this;have e:(((Aq p.decls (k:Int)).max.toNat:Nat):Int)=(Aq p.decls (k:Int)).max:=by omega
    rw[e]at this;exact this
   generalize fa:(Aq p.decls (k:Int)).kind=kd at*;generalize bg:Ip kd=s at*;generalize (Aq p.decls (k:Int)).name=i at*;generalize (Aq p.decls (k:Int)).max=K at*;generalize Ci K=dg at*;generalize u:E8 p k=SS at*;have s1:=B7 (P:=prog) (a:=⟨s.toArray⟩) (b:=⟨#[32]⟩) (by simp only[Ag,Ay,Af,Ak];omega);have s2:=B7 (P:=prog) (a:=⟨s.toArray⟩++⟨#[32]⟩) (b:=⟨i.toArray⟩) (by simp only[Ag,Ay,Af,Ak];omega);have s3:=B7 (P:=prog) (a:=⟨s.toArray⟩++⟨#[32]⟩++⟨i.toArray⟩) (b:=⟨#[32]⟩) (by simp only[Ag,Ay,Af,Ak];omega);have s4:=B7 (P:=prog) (a:=⟨s.toArray⟩++⟨#[32]⟩++⟨i.toArray⟩++⟨#[32]⟩) (b:=⟨dg.toArray⟩) (by simp only[Ag,Ay,Af,Ak];omega);have s5:=B7 (P:=prog) (a:=⟨s.toArray⟩++⟨#[32]⟩++⟨i.toArray⟩++⟨#[32]⟩++⟨dg.toArray⟩) (b:=⟨#[59,10]⟩) (by simp only[Ag,Ay,Af,Ak];omega);have hx:(⟨s.toArray⟩:ByteArray)++⟨#[32]⟩++⟨i.toArray⟩++⟨#[32]⟩++⟨dg.toArray⟩++⟨#[59,10]⟩=⟨(s++Cb++i++Cb++dg++[59,10]).toArray⟩:=by rw[BI,BI,BI,BI,BI];rfl
   have ka:Ac (λb=>wr.heap.size<=b) wr (wr.alloc (.cells #[.int .i64 (kd:Int),vs i,.int .i64 K] 83)).drew:=((Ac.refl _ wr).alloc (Ab _) _).drew;have X:=Th (w0:=w) (Sh t.out ka) (Ab _) (f.trans (ka.mono (λb r=>Ad f.size r))) hx (by simp only[Ao,Af,Ak,Cb];omega);rw[←D]at X;obtain⟨HW,bD⟩:=zq2 X hit;clear X hit hx ka D dm u e f t fa x0 x1 x2;unfold vs at*;have jr:∀W,(Instr.index 143 (.agg #[.string ⟨#[113,117,101,117,101]⟩,.string ⟨#[103,104,111,115,116]⟩,.string ⟨#[118,97,114]⟩]) (.int .i64 (kd:Int))).run prog W= .ok (.string ⟨s.toArray⟩) W:=by
    intro W;have fd:kd=0\/kd=1\/kd=2:=by omega
    rw[←bg];rcases fd with rfl|rfl|rfl
    ·exact px W
    ·exact pu W
    ·exact pt W
   clear a bg;go_wp2_with fail
   go_region_law (first
    |(go_simp;go_at_call 49;refine(bD.out _).mono ?_;rintro y w5 ⟨rfl,rfl⟩)
    |(go_simp;go_at_call 48;refine HW.out.mono ?_;rintro y w5 ⟨⟨n5,rfl⟩,z,A⟩;have F5:=Aa (And.intro z A);clear z A))
   all_goals
    go_wp2;go_roundg (L-(k+1))
    case measure=>omega
    case rel=>exact⟨k+1,by omega,by omega,by go_num,F5.out.2,F5.out.1⟩
  ·have fi:k=L:=by omega
   subst fi;have kl:=f.size;have jZ:=(f.cell (p:=⟨gp,0,none⟩) (by simp only;omega)).trans c0;have ky:=(f.cell (p:=⟨gp,1,none⟩) (by simp only;omega)).trans c1;clear f;go_upto_if 39 with fail;go_cut [] (λwx=>Ac (λb=>w.heap.size<=b) w wx/\Lib.IsBuilder 140 5 w.heap.size w.heap.size (Lib.byteCells (E8 p k++DQ p.aD)) wx)
   case first=>
    generalize u:E8 p k=SS at*;by_cases Z:0<p.aD
    ·have hit:∀W,Calls prog 49 #[.int .i64 p.aD] W λe w'=>e= .returned (vs (Ci p.aD))/\w'=W:=λW=>by
      have:=Ti p.aD.toNat (by omega) W;rw[Li (by omega)]at this;have e:((p.aD.toNat:Nat):Int)=p.aD:=by omega
      rw[e]at this;exact this
     have bu:=(FM (n:=p.aD) (by omega) (by omega)).2.1;have F:DQ p.aD=[102,114,101,113,32]++Ci p.aD++[59,10]:=by unfold DQ;rw[Al Z];simp[Cb]
     have e1:decide (p.aD>0)=true:=DX Z;generalize p.aD=fq at*;generalize Ci fq=dg at*;have s1:=B7 (P:=prog) (a:=⟨#[102,114,101,113,32]⟩) (b:=⟨dg.toArray⟩) (by simp only[Ag,Ay,Af,Ak];omega);have s2:=B7 (P:=prog) (a:=⟨#[102,114,101,113,32]⟩++⟨dg.toArray⟩) (b:=⟨#[59,10]⟩) (by simp only[Ag,Ay,Af,Ak];omega);have hx:(⟨#[102,114,101,113,32]⟩:ByteArray)++⟨dg.toArray⟩++⟨#[59,10]⟩=⟨(DQ fq).toArray⟩:=by rw[F,BI,BI]
     have X:=Th (w0:=w) t.out (Ab _) Y.out hx (by rw[F];simp only[Ao,Af,Ak];omega);obtain⟨HW,bD⟩:=zq2 X hit;clear X hit hx F u;unfold vs at*;go_wp2_with fail;refine(bD.out _).mono ?_;rintro y w2 ⟨rfl,rfl⟩;go_wp2_with fail;refine HW.out.mono ?_;rintro y w5 ⟨⟨n5,rfl⟩,z,A⟩;have F5:=Aa (And.intro z A);clear z A;go_wp2;go_meet;exact⟨F5.out.2,F5.out.1⟩
    ·have e1:decide (p.aD>0)=false:=Ck Z;have F:DQ p.aD=[]:=by unfold DQ;rw[Ai Z]
     have fm:=Aa F;clear F u;generalize p.aD=fq at*;go_wp2;go_meet;exact⟨Y.out,by rw[fm.out,AM];exact t.out⟩
   obtain⟨k2,dv⟩:=hcut;obtain⟨fo,fp⟩:=zq2 k2 dv;have li:=k2.size;have c0:=(k2.cell (p:=⟨gp,0,none⟩) (by simp only;omega)).trans c0;have lj:=(k2.cell (p:=⟨gp,2,none⟩) (by simp only;omega)).trans c2;have ll:(E8 p k++DQ p.aD).length<=1000:=by rw[Ao];have:=eV.out;have:=di.out k (Ab _);omega
   generalize dy:E8 p k++DQ p.aD=TT at*;have ft:=Aa dy;clear k2 dy dv;go_wp2_with fail
   go_loopg [53] k (λgg fP wr=>∃j:Nat,j<=k/\k-j<=gg/\fP= .int .i64 j/\Ac (λb=>w.heap.size<=b) w wr/\Lib.IsBuilder 140 5 w.heap.size w.heap.size (Lib.byteCells (TT++Bz p j)) wr)
   case atStart=>exact⟨0,AQ _,by omega,rfl,fo.out,by rw[show Bz p 0=[]from rfl,AM];exact fp.out⟩
   case round=>
    obtain⟨j,hj,lm,rfl,f,N⟩:=hrel;have bx:=eU.out j;have wl:=f.size;obtain⟨Y,t⟩:=zq2 f N;clear N;have y2:=(f.cell (p:=⟨gp,2,none⟩) (by simp only;omega)).trans c2;have n1:¬gp=wr.heap.size:=by omega
    have n4:gp<wr.heap.size:=by omega
    by_cases dz:j<k
    ·obtain⟨C,rfl,M,E,q3,x0,x1,x2⟩:=dc.out j dz;have z0:=(f.cell (p:=⟨C,j*3,none⟩) (by simp only;omega)).trans x0;have z1:=(f.cell (p:=⟨C,j*3+1,none⟩) (by simp only;omega)).trans x1;have z2:=(f.cell (p:=⟨C,j*3+2,none⟩) (by simp only;omega)).trans x2;have zl:=An q3 f.size;obtain⟨a,b,c,d,e⟩:=LV HP.out (k:=j) (by have:=HL.out;omega);obtain⟨v,o,l⟩:=HR.out.pN (j:Int);have be:Bz p (j+1)=Bz p j++FG p j:=rfl;have bF:Bu p.decls (j:Int)=(Aq p.decls (j:Int)).name:=rfl;have bf:∀cs,Ac (λb=>w.heap.size<=b) w (wr.alloc (.cells cs 83)):=λcs=>f.alloc f.size _;cases q:Bj p.rules (j:Int)with
     |none=>
      have G:FG p j=[]:=by unfold FG;rw[q]
      rw[q]at o l;simp only at l;subst l;have fR:=Aa (show Bz p (j+1)=Bz p j by rw[be,G,AM]);generalize (Aq p.decls (j:Int)).kind=s at*;generalize (Aq p.decls (j:Int)).name=i at*;generalize (Aq p.decls (j:Int)).max=K at*;have lk:=o _ (bf #[.int .i64 (s:Int),vs i,.int .i64 K]) true;have ka:Ac (λb=>wr.heap.size<=b) wr (wr.alloc (.cells #[.int .i64 (s:Int),vs i,.int .i64 K] 83)):=(Ac.refl _ wr).alloc (Ab _) _;have KA:=Aa ka;clear be G f x0 x1 x2 q e bF o bf ka;simp only[cR,A6]at lk;unfold vs at*;go_wp2;go_roundg (k-(j+1))
      case measure=>omega
      case rel=>exact⟨j+1,by omega,by omega,by go_num,Y.out.trans (KA.out.mono (λb r=>Ad wl r)),by rw[fR.out];exact Sh t.out KA.out⟩
     |some I=>
      have G:FG p j=TF++Cb++Bu p.decls (j:Int)++Cb++BU p.decls I++[10]:=by unfold FG;rw[q]
      rw[q]at o l;simp only at l;obtain⟨gv,cv,rfl⟩:∃g c,v= .slice (some ⟨g,0,none⟩) I.length c:=by obtain⟨_,h1,_⟩:=l;exact h1.2
      obtain⟨B,O⟩:=IS HP.out q;have gY:=El HP.out.decls B;have J:=it H.out l B O;rw[bF]at G;generalize (Aq p.decls (j:Int)).kind=s at*;generalize (Aq p.decls (j:Int)).name=i at*;generalize (Aq p.decls (j:Int)).max=K at*;generalize bG:BU p.decls I=Q at*;have bp:∀W,Ac (λb=>wr.heap.size<=b) wr W->AE W wr.heap.size 83 [.int .i64 (s:Int),vs i,.int .i64 K]->Calls prog 50 #[.pointer (some ⟨gp,0,none⟩),.slice (some ⟨gv,0,none⟩) I.length cv] W λy w'=>y= .returned (vs Q)/\Ac (λb=>wr.heap.size<=b) wr w'/\AE w' wr.heap.size 83 [.int .i64 (s:Int),vs i,.int .i64 K]:=λW m hr=>by refine(J W (f.trans (m.mono (λb r=>Ad wl r)))).mono ?_;rintro y w' ⟨M,E⟩;exact⟨M,m.trans (E.mono (λb r=>Ad m.size r)),hr.kept E (λe=>by have:=hr.lt;omega)⟩
      have gZ:(TT++Bz p j).length<=600000:=by rw[Ao];omega
      have R:TT++Bz p (j+1)=(TT++Bz p j)++([111,110,32]++i++[32]++Q++[10]):=by rw[be,G];simp[Cb]
      generalize u:TT++Bz p j=SS at*;have s1:=B7 (P:=prog) (a:=⟨#[111,110,32]⟩) (b:=⟨i.toArray⟩) (by simp only[Ag,Ay,Af,Ak];omega);have s2:=B7 (P:=prog) (a:=⟨#[111,110,32]⟩++⟨i.toArray⟩) (b:=⟨#[32]⟩) (by simp only[Ag,Ay,Af,Ak];omega);have s3:=B7 (P:=prog) (a:=⟨#[111,110,32]⟩++⟨i.toArray⟩++⟨#[32]⟩) (b:=⟨Q.toArray⟩) (by simp only[Ag,Ay,Af,Ak];omega);have s4:=B7 (P:=prog) (a:=⟨#[111,110,32]⟩++⟨i.toArray⟩++⟨#[32]⟩++⟨Q.toArray⟩) (b:=⟨#[10]⟩) (by simp only[Ag,Ay,Af,Ak];omega);have hx:(⟨#[111,110,32]⟩:ByteArray)++⟨i.toArray⟩++⟨#[32]⟩++⟨Q.toArray⟩++⟨#[10]⟩=⟨([111,110,32]++i++[32]++Q++[10]).toArray⟩:=by rw[BI,BI,BI,BI]
      have X:=λW (m:Ac (λb=>wr.heap.size<=b) wr W)=>Th (w0:=w) (Sh t.out m) (Ab _) (f.trans (m.mono (λb r=>Ad wl r))) hx (by simp only[Ao,Af,Ak];omega);rw[←R]at X;obtain⟨HW,dA⟩:=zq2 X bp;have rq:AE (wr.alloc (.cells #[.int .i64 (s:Int),vs i,.int .i64 K] 83)).drew wr.heap.size 83 [.int .i64 (s:Int),vs i,.int .i64 K]:=(AE.new wr 83 _).drew;have kq:Ac (λb=>wr.heap.size<=b) wr (wr.alloc (.cells #[.int .i64 (s:Int),vs i,.int .i64 K] 83)).drew:=((Ac.refl _ wr).alloc (Ab _) _).drew;have lk:=o _ (bf #[.int .i64 (s:Int),vs i,.int .i64 K]) true;clear be G f l x0 x1 x2 q e bF J bp R u bG o bf hx X;simp only[Option.isSome_some,A6]at lk;unfold vs at*;go_wp2_with fail
      go_region_law (first
       |(go_simp;go_at_call 50;refine(dA.out _ ?_ ?_).mono ?_;assumption;assumption;rintro y wq ⟨rfl,kq,rq⟩;have hI:=rq.cell 0;have hQ:=rq.cell 1;have hU:=rq.cell 2;have zl:=rq.lt;simp at hI hQ hU)
       |(go_simp;go_at_call 48;refine(HW.out _ ?_).mono ?_;assumption;rintro y w5 ⟨⟨n5,rfl⟩,z,A⟩;have F5:=Aa (And.intro z A);clear z A))
      all_goals
       go_wp2;go_roundg (k-(j+1))
       case measure=>omega
       case rel=>exact⟨j+1,by omega,by omega,by go_num,F5.out.2,F5.out.1⟩
    ·have hY:j=k:=by omega
     subst hY;obtain⟨I,q⟩:∃b,Eo p.rules=some b:=Option.isSome_iff_exists.1 HP.out.qn;have T:Bj p.rules (-1)=some I:=q;obtain⟨v,o,l⟩:=HR.out.pN (-1);rw[T]at o l;simp only at l;obtain⟨gv,cv,rfl⟩:∃g c,v= .slice (some ⟨g,0,none⟩) I.length c:=by obtain⟨_,h1,_⟩:=l;exact h1.2
     obtain⟨B,O⟩:=IS HP.out T;have gY:=El HP.out.decls B;have J:=it H.out l B O;have gZ:(TT++Bz p j).length<=600000:=by rw[Ao];omega
     have R:text p=(TT++Bz p j)++[111,110,32,109,105,115,115,32]++BU p.decls I++[10]:=by
      have e1:E8 p j=(p.decls.map Kj).flatten:=by unfold E8;rw[←HL.out,J7]
      unfold text Rh;rw[q,HL.out,←e1,←ft.out];simp[Cb]
     have hZ:=Aa R;generalize u:TT++Bz p j=SS at*;generalize bG:BU p.decls I=Q at*;have s1:=B7 (P:=prog) (a:=⟨SS.toArray⟩) (b:=⟨#[111,110,32,109,105,115,115,32]⟩) (by simp only[Ag,Ay,Af,Ak];omega);have s2:=B7 (P:=prog) (a:=⟨SS.toArray⟩++⟨#[111,110,32,109,105,115,115,32]⟩) (b:=⟨Q.toArray⟩) (by simp only[Ag,Ay,Af,Ak];omega);have s3:=B7 (P:=prog) (a:=⟨SS.toArray⟩++⟨#[111,110,32,109,105,115,115,32]⟩++⟨Q.toArray⟩) (b:=⟨#[10]⟩) (by simp only[Ag,Ay,Af,Ak];omega);have U:∀W,Ac (λb=>wr.heap.size<=b) wr W->Calls prog 50 #[.pointer (some ⟨gp,0,none⟩),.slice (some ⟨gv,0,none⟩) I.length cv] W λy w'=>y= .returned (vs Q)/\Ac (λb=>wr.heap.size<=b) wr w':=λW m=>by refine(J W (f.trans (m.mono (λb r=>Ad wl r)))).mono ?_;rintro y w' ⟨M,E⟩;exact⟨M,m.trans (E.mono (λb r=>Ad m.size r))⟩
     have V:∀W,Ac (λb=>w.heap.size<=b) w W->Calls prog 50 #[.pointer (some ⟨gp,0,none⟩),.slice (some ⟨gv,0,none⟩) I.length cv] W λy w'=>y= .returned (vs Q)/\Ac (λb=>w.heap.size<=b) w w':=λW m=>by refine(J W m).mono ?_;rintro y w' ⟨M,E⟩;exact⟨M,m.trans (E.mono (λb r=>Ad m.size r))⟩
     have eg:∀W,Ac (λb=>wr.heap.size<=b) wr W->Calls prog 51 #[.pointer (some ⟨w.heap.size,0,none⟩)] W λy w'=>y= .returned (vs SS)/\Ac (λb=>w.heap.size<=b) w w':=λW m=>by refine(Tryz.Builder_String_any w.heap.size w.heap.size SS W (Sh t.out m) (Ad wl m.size)).mono ?_;rintro y w' ⟨M,E⟩;exact⟨M,(f.trans (m.mono (λb r=>Ad wl r))).trans (Ac.cY E (λk m=>m))⟩
     have bq:∀W,Ac (λb=>wr.heap.size<=b) wr W->(Instr.lookup 61 (.map (some bm)) (.int .i64 (-1)) false).run prog W= .ok (.slice (some ⟨gv,0,none⟩) I.length cv) W:=λW m=>o W (f.trans (m.mono (λb r=>Ad wl r))) false;have br:∀W,Ac (λb=>w.heap.size<=b) w W->(Instr.lookup 61 (.map (some bm)) (.int .i64 (-1)) false).run prog W= .ok (.slice (some ⟨gv,0,none⟩) I.length cv) W:=λW m=>o W m false;have kq:Ac (λb=>wr.heap.size<=b) wr wr.drew:=(Ac.refl _ wr).drew;have lq:=bq _ kq;obtain⟨ic,ie,ig,eF,ii⟩:=zq5 U V eg br c2;clear f R u bG U V eg o bq br J l q T;unfold vs at*;go_wp2_with fail
     go_region_law (first
      |(go_simp;go_at_call 50;refine(ic.out _ ?_).mono ?_;assumption;rintro y wq ⟨rfl,kq⟩;have FB:=Aa kq)
      |(go_simp;go_at_call 50;refine(ie.out _ ?_).mono ?_;assumption;rintro y wq ⟨rfl,kz⟩)
      |(go_simp;go_at_call 51;refine(ig.out _ ?_).mono ?_;assumption;rintro y wq ⟨rfl,kz⟩;have lz:=eF.out _ kz;have zc:=(kz.cell (p:=⟨gp,2,none⟩) (by simp only;omega)).trans ii.out;have zs:=kz.size))
     all_goals
      have KZ:=Aa kz;clear kz kq;go_wp2;go_ret;refine⟨?_,KZ.out⟩;rw[hZ.out];refine AG (λx=>Ending.returned (.string x)) ?_;rw[BI,BI,BI]
end
section
variable {S:Nat->Prop}{w:World}{ge:Nat}{e:EX}
theorem lP (g:GR S w ge e) (f:Ol w):Calls prog 9 #[.pointer (some ⟨ge,0,none⟩)] w (Dr w (text e.p)):=by obtain⟨o,gs,q,gp,i,r,c,j,k,s,A,t,h⟩:=g;obtain⟨l,u,m,v⟩:=zp4 (h.row.cell 0) h.row.lt (h.prog.code.row.cell 0) h.prog.code.row.lt;simp at l m;have a:ZA w gp j (.map (some i)) e.p.aD e.p.decls:=⟨h.prog.ba,h.prog.decls.mono (λ_ _=>trivial),h.pw.decls,f⟩;have n:=Aa (ox a h.prog.rules h.pw);clear h a f;go_enter func9,ntmps9;go_wp2_with fail;refine n.out.mono ?_;rintro y w1 ⟨rfl,b⟩;have d:=Aa b;clear b;go_wp2;go_ret;exact⟨rfl,d.out⟩
end
end Go.Proofs.YtepoejiigmhlbaaGreatDoor.Ev
