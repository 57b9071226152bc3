/- Lemmas for a law's walk. Conditions: none. -/
import Derived.Test.YtepoejiigmhlbaaGreatDoorZa16
set_option linter.all false
set_option maxRecDepth 100000
set_option maxHeartbeats 8000000
namespace Go.Proofs.YtepoejiigmhlbaaGreatDoor.Ev
open _root_.Go.Proofs.Tryz
open Go Go.RowKit
def qQ (o:AO MS):AO MS:=o.bind λn st=>.ok n (if 0<=find st.decls n.text then note CW n.pos st else st)
def yP (o:AO MS):AO MS:=o.bind λn st=>.ok n (if st.decls.length=8 then note N8 n.pos st else st)
theorem uG (e pos:Nat) (st:PS):(note e pos st).decls=st.decls:=by unfold note;cases st.bC<;>rfl
abbrev Fc.qj (r:Fc) (d:Bi):Fc:={r with decls:=r.decls++[d]}
section
variable {B:Nat}{w w2:World}{g gp:Nat}{tl:Value}{ts:List CM}{f:Int}{vr vh vm:Value}{ms:Bool}{r r2 r3:Fc}{vd:Value}{s:Ah}{st:PS}{x:CM}{o:AO MS}
theorem zU1 (h:nw r2.decls x o) (b:0<=find r2.decls x.br) (a:Bo s r3 (OM CW x.pos o)):Bo s r3 (qQ o):=by
 cases o with
 |bad e p=>exact a
 |ok n st=>
  obtain⟨c,d,i⟩:=h n st rfl;show AF s r3 (if 0<=find st.decls n.text then note CW n.pos st else st);rw[i,←d,Al b,←c];exact a
theorem Agb (h:nw r2.decls x o) (b:¬0<=find r2.decls x.br) (a:Bo s r3 o):Bo s r3 (qQ o):=by
 cases o with
 |bad e p=>exact a
 |ok n st=>
  obtain⟨i,c,d⟩:=h n st rfl;show AF s r3 (if 0<=find st.decls n.text then note CW n.pos st else st);rw[d,←c,Ai b];exact a
theorem Agc {a:List Bi}(h:nw a x o):nw a x (qQ o):=by
 cases o with
 |bad e p=>intro t st e;cases e
 |ok n st=>
  obtain⟨c,d,b⟩:=h n st rfl;intro t i e;injection e with e1 j;subst e1 j;refine⟨c,d,?_⟩;split
  ·rw[uG];exact b
  ·exact b
theorem zU0 (h:nw r2.decls x o) (b:r2.decls.length=8) (a:Bo s r3 (OM N8 x.pos o)):Bo s r3 (yP o):=by
 cases o with
 |bad e p=>exact a
 |ok n st=>
  obtain⟨c,i,d⟩:=h n st rfl;show AF s r3 (if st.decls.length=8 then note N8 n.pos st else st);rw[d,Al b,←c];exact a
theorem Aga (h:nw r2.decls x o) (b:¬r2.decls.length=8) (a:Bo s r3 o):Bo s r3 (yP o):=by
 cases o with
 |bad e p=>exact a
 |ok n st=>
  obtain⟨d,i,c⟩:=h n st rfl;show AF s r3 (if st.decls.length=8 then note N8 n.pos st else st);rw[c,Ai b];exact a
theorem Sc (c:st.t.kind≠Cx):decl s st=(want s Cf (next s st)).bind λn st1=>
  (number s 1 (Cp st.t.kind) (Bh n st1)).bind λm b=>(want s AN b).bind λ_ a=>.ok () {a with decls:=a.decls++[⟨Er st.t.kind,n.text,m⟩]}:=by
 unfold decl;simp only;rw[Ai c]
theorem qP {n:MS}{st1:PS}:yP (qQ (.ok n st1))= .ok n (Bh n st1):=rfl
theorem lU {K:Ah}{v:Int}{d:Fc}(y:st.t.kind=K) (A:K≠Cx) (h:∀n st1,BC s Cf (AO.ok () (next s st))= .ok n st1->x.br=n.text)
  (k:∀m l,Ha s 1 (Cp K) (yP (qQ (BC s Cf (AO.ok () (next s st)))))= .ok m l->v=m)
  (b:Bo s d (BC s AN (Ha s 1 (Cp K) (yP (qQ (BC s Cf (AO.ok () (next s st)))))))):Bo s (d.qj ⟨Er K,x.br,v⟩) (decl s st):=by
 rw[Sc (by rw[y];exact A),y];have C:BC s Cf (AO.ok () (next s st))=want s Cf (next s st):=rfl;rw[C]at h k b;cases q:want s Cf (next s st)with
 |bad e p=>
  rw[q]at b;have a:DI s d e p:=b;exact⟨a.lt,a.bad,a.fm,a.ne,a.fk⟩
 |ok n st1=>
  rw[q,qP]at b k;have D:=h n st1 q;show Bo s _ ((number s 1 (Cp K) (Bh n st1)).bind _);have e1:Ha s 1 (Cp K) (AO.ok n (Bh n st1))=number s 1 (Cp K) (Bh n st1):=rfl;rw[e1]at b k;cases u:number s 1 (Cp K) (Bh n st1)with
  |bad e p=>
   rw[u]at b;have a:DI s d e p:=b;exact⟨a.lt,a.bad,a.fm,a.ne,a.fk⟩
  |ok m c=>
   rw[u]at b;have E:=k m c u;show Bo s _ ((want s AN c).bind _);have F:BC s AN (AO.ok m c)=want s AN c:=rfl;rw[F]at b;cases z:want s AN c with
   |bad e p=>
    rw[z]at b;have a:DI s d e p:=b;exact⟨a.lt,a.bad,a.fm,a.ne,a.fk⟩
   |ok t j=>
    rw[z]at b;have a:AF s d j:=b;exact⟨a.pos.of rfl rfl,⟨a.ok.i,a.ok.pos,a.ok.more,a.ok.num,a.ok.name⟩,a.deep,a.loops,a.bad,a.bC,by show d.decls++_=j.decls++_;rw[a.decls,D,E],a.aD,a.seen,a.f0,a.fk⟩
theorem VU {st':PS}(j:st.t.kind≠Cx) (e:decl s st= .ok () st'):st'.aD=st.aD:=by
 rw[Sc j]at e;obtain⟨n,st1,e1,e⟩:=AC e;obtain⟨m,a,k,e⟩:=AC e;obtain⟨t,b,l,e⟩:=AC e;injection e with _ e;obtain⟨E,c,q,h⟩:=AC (show(want s Bv (Bh n st1)).bind _=_ from k);injection h with _ h;have i:∀(e p:Nat) (z:PS),(note e p z).aD=z.aD:=λe p z=>by unfold note;cases z.bC<;>rfl
 have u:st1.aD=st.aD:=by rw[(BF e1).2.2];rfl
 have v:(Bh n st1).aD=st1.aD:=by
  unfold Bh;simp only;have d:(if 0<=find st1.decls n.text then note CW n.pos st1 else st1).aD=st1.aD:=by
   split
   ·rw[i]
   ·rfl
  generalize (if 0<=find st1.decls n.text then note CW n.pos st1 else st1)=y at*;split
  ·rw[i];exact d
  ·exact d
 have A:c.aD=(Bh n st1).aD:=by rw[(BF q).2.2];rfl
 have C:a.aD=c.aD:=by
  rw[←h];split
  ·rw[i]
  ·rfl
 have D:b.aD=a.aD:=by rw[(BF l).2.2];rfl
 rw[←e];show b.aD=st.aD;rw[D,C,A,v,u]
theorem RP.plus (h:RP B w g gp tl ts f vr vh vm ms r vd) (d:Bi) {c:Value}{n:Nat}{xs E:List Value}(G:r.decls.length=n) (y:r.decls.flatMap FL=xs) (z:FL d=E) (p:Sl (λb=>B<=b) w2 224 3 c (n+1) (xs++E))
  (j:Ac (λb=>vd.ownBlock=some b\/w.heap.size<=b) w w2) (H:r.decls.length+1<=1000):
  Ac (λb=>B<=b) w (w2.setCell ⟨gp,0,none⟩ c)/\RP B (w2.setCell ⟨gp,0,none⟩ c) g gp tl ts f vr vh vm ms (r.qj d) c:=by
 subst G y z;have A:∀b,vd.ownBlock=some b\/w.heap.size<=b->B<=b:=λb a=>a.elim (λa=>h.sl.2 b a) (λa=>Ad h.sz a);have l:∀{t:TypeId} {cs:List Value} {b:Nat},AE w b t cs->t≠224->¬(vd.ownBlock=some b\/w.heap.size<=b):=by
  intro t cs b u v a;rcases a with a|a
  ·exact h.sl.bD u (λe=>v e.symm) a
  ·have:=u.lt;omega
 have k:=h.rd.row.kept j (l h.rd.row (by decide));have i:=h.rd.ba.kept j (l h.rd.ba (by decide));obtain⟨N,v⟩:=h.rd.jj;have q:=v.kept j (λb a=>by obtain⟨cs,u⟩:=v.row a;exact l u (by decide));have C:Ac (λb=>b=gp) w2 (w2.setCell ⟨gp,0,none⟩ c):=Ac.one w2 ⟨gp,0,none⟩ c;have D:=i.bt k (by decide);have m:=p.kept C (λb a e=>p.bD i (by decide) (e▸a));have F:(r.qj d).decls.length=r.decls.length+1:=by simp
 have I:(r.qj d).decls.flatMap FL=r.decls.flatMap FL++FL d:=by simp
 rw[←F,←I]at m;refine⟨(j.mono A).trans (C.mono (λb a=>a▸h.p0)),⟨?_,h.g0,h.p0,m,by have:=j.size;have:=h.sz;simp;omega⟩⟩;exact⟨k.dc (λe=>D e.symm) _,⟨N,q.kept C (λb a e=>q.bD i (by decide) (e▸a))⟩,h.rd.tl,i.bF 0 _,⟨_,c,rfl,m⟩,by rw[F];exact H⟩
end
theorem RP.pW {B:Nat}{w:World}{g gp:Nat}{tl:Value}{ts:List CM}{f:Int}{vr vh vm:Value}{ms:Bool}{r:Fc}{vd:Value}(h:RP B w g gp tl ts f vr vh vm ms r vd) {D:Nat}{cs:List Value}(c:AE w D 224 cs) (d:vd.ownBlock≠some D) (i:Nat) (u:Value):
  RP B (w.setCell ⟨D,i,none⟩ u) g gp tl ts f vr vh vm ms r vd:=by
 have k:Ac (λb=>b=D) w (w.setCell ⟨D,i,none⟩ u):=Ac.one w ⟨D,i,none⟩ _;obtain⟨N,l⟩:=h.rd.jj;have a:=h.sl.kept k (λb j e=>d (e▸j));exact⟨⟨h.rd.row.dc (h.rd.row.bt c (by decide)) _,⟨N,l.kept k (λb j e=>l.bD c (by decide) (e▸j))⟩,h.rd.tl,h.rd.ba.dc (h.rd.ba.bt c (by decide)) _,⟨_,vd,rfl,a⟩,h.rd.dl⟩,h.g0,h.p0,a,by simpa using h.sz⟩
theorem kZ:(prog.info? 224).map (λi=>(i.zero,i.size,i.bytes))=some (some (.agg #[vs [],vs [],.int .i64 0]),3,40):=by kernel_rfl
section
variable {B:Nat}{w:World}{g gp:Nat}{tl:Value}{ts:List CM}{f:Int}{r:Fc}{vd:Value}{s:Ah}{st:PS}
theorem Qe {K:Ah}(G:K=EK\/K=Ge\/K=Jo) (h:RP B w g gp tl ts f A4 A4 A4 false r vd) (hs:AF s r st) (ht:D6 ts (jj s)) (P:st.t.kind=K) (pV:r.decls.length<=900) (dy:f=st.aD):
  Calls prog 118 #[.pointer (some ⟨g,0,none⟩)] w (rN B w g gp tl ts s r.decls.length (decl s st)):=by
 obtain⟨x,hx,dz⟩:=AF.tok hs ht;obtain⟨gt,ct,rfl,h1,h2,h3,h4,h5,t0,t1,t2⟩:=h.rd.at_ hx;have p7:(K==Cx)=false:=by rcases G with rfl|rfl|rfl<;>decide
 have mX:decide (K=Cx)=false:=by rcases G with rfl|rfl|rfl<;>decide
 have dA:K≠Eh:=by rcases G with rfl|rfl|rfl<;>decide
 have dB:K≠Bw:=by rcases G with rfl|rfl|rfl<;>decide
 have eg:GS K=K:=by rcases G with rfl|rfl|rfl<;>decide
 have eF:B5 (Er K)=K:=by rcases G with rfl|rfl|rfl<;>decide
 have bq:K≠Cx:=by rcases G with rfl|rfl|rfl<;>decide
 have bH:=Aa (And.intro eF bq);have eG:x.is=K:=by rw[dz.1,P];exact eg
 rw[eG]at t0;obtain⟨c0,c1,_⟩:=h.rd.cells;have qb:=h.rd.row.lt;have ff:=λj=>h.rd.row.frozen j;have h8:=h.rd.tl;have qe:r.k<ts.length:=h3;unfold maxLen at h2;have eR:Bo s r.nx (AO.ok () (next s st)):=hs.next (by rw[P];exact dA) (by rw[P];exact dB);have bI:Kg g w ((w.setCell ⟨g,1,none⟩ (.int .i64 ((r.k:Int)+1))).alloc (.cells #[vs K,vs x.br,.int .i64 x.pos] 255)).drew:=
  (((Ac.refl _ w).setCell (p:=⟨g,1,none⟩) (.inl rfl) _).alloc (.inr (by simp)) _).drew
 have q1:=h.call (r':=r.nx) bI (((h.rd.put 1 (.int .i64 ((r.k:Int)+1)) (r':=r.nx) rfl rfl).alloc (.cells #[vs K,vs x.br,.int .i64 x.pos] 255)).drewN 1) rfl;have b1:AE ((w.setCell ⟨g,1,none⟩ (.int .i64 ((r.k:Int)+1))).alloc (.cells #[vs K,vs x.br,.int .i64 x.pos] 255)).drew w.heap.size 255 [vs K,vs x.br,.int .i64 x.pos]:=by have:=AE.new (w.setCell ⟨g,1,none⟩ (.int .i64 ((r.k:Int)+1))) 255 [vs K,vs x.br,.int .i64 x.pos];simp only[cN]at this;exact this
 have S:=EO q1.rd eR ht (kd:=Cf) (kr:=Cf) (by decide) (by decide) (by decide) (by decide);obtain⟨HT,Q1,cy,B1,T,HP,cz⟩:=zq7 ht q1 bI b1 S h (And.intro P dy);generalize ky:r.k=kq at*;generalize li:ts.length=LL at*;clear hx dz hs eR eG P ky li h q1 bI ht S b1 dy dA dB eg eF bq;unfold vs at*;go_enter func118,ntmps118;go_wp2;go_region;go_wp2_with fail;refine T.out.mono ?_;rintro e w2 ⟨a,rfl,i,eS,r2,eT,J,cD⟩;have q2:=Q1.out.call i eT cD;have b2:=Em i B1.out (B1.out.bt Q1.out.rd.row (by decide));have cL:nw r2.decls a (BC s Cf (AO.ok () (next s st))):=λt U ho=>ZK ho (eS t U ho) J;obtain⟨kA,qA,bA,bB⟩:=zp4 ((Kg.trans cy.out i).alloc (.inr (cy.out.trans i).size) (.cells #[vs a.is,vs a.br,.int .i64 a.pos] 255)) (q2.call (((Ac.refl (λb=>b=g\/w2.heap.size<=b) w2).alloc (.inr (Ab _)) (.cells #[vs a.is,vs a.br,.int .i64 a.pos] 255)).drewN 1) ((q2.rd.alloc (.cells #[vs a.is,vs a.br,.int .i64 a.pos] 255)).drewN 1) rfl) ((b2.alloc (.cells #[vs a.is,vs a.br,.int .i64 a.pos] 255)).drewN 1) (AE.new w2 255 [vs a.is,vs a.br,.int .i64 a.pos]);have V:=Po a.br gp r2.decls vd _ qA.sl qA.rd.dl qA.rd.ba.lt (qA.rd.ba.cell 0);have qf:¬g=w2.heap.size:=by have:=q2.rd.row.lt;omega
 have c8:=((q2.rd.alloc (.cells #[vs a.is,vs a.br,.int .i64 a.pos] 255)).cells).2.2.2.2.2.2.2.2.1;have d1:=bB.cell 1;simp at d1;obtain⟨HF,QA,KA,BA,BB,cX,bg,ln⟩:=zq8 V qA (kA.drewN 1) bA (bB.drewN 1) J cL (λt U ho=>(cL t U ho).2.1);have bh:=Aa (show r2.decls=r.decls from cD);clear c0 c1 t0 t1 t2 ff Q1 cy T B1 q2 b2 cL kA qA bA bB V J cD eS eT i;unfold ED;unfold vs at*;go_wp2_with fail
 (refine Ds 6 (by kernel_rfl) (by kernel_rfl) ?_;simp only[Au,AH,Av,AJ];repeat still_step)
 refine BS ?_;go_wp2_with fail;refine HF.out.mono ?_;rintro e w3 ⟨rfl,H⟩;have q3:=QA.out.call (Jn H) (QA.out.rd.kg (Jn H) (H.block g QA.out.rd.row.lt)) rfl;have b3:=(H.block _ BA.out.lt).trans BA.out;have cY:=(H.block _ BB.out.lt).trans BB.out;have d2:=AE.cell cY 2;simp at d2;have n1:=Hu (e:=CW) q3.rd cX.out (by decide) a.pos;obtain⟨eV,Q3,K3,B3,bi⟩:=zq5 n1 q3 (Kg.trans KA.out (Jn H)) (show AE w3 w.heap.size 255 [vs K,vs x.br,.int .i64 x.pos]from b3) (show AE w3 w2.heap.size 255 [vs a.is,vs a.br,.int .i64 a.pos]from cY);clear HF QA KA BA BB n1 q3 b3 cY H c8 d1;unfold vs at*;go_upto_if 61 with fail;go_cut [] (λy=>Kg g w y/\AE y w.heap.size 255 [vs K,vs x.br,.int .i64 x.pos]/\AE y w2.heap.size 255 [vs a.is,vs a.br,.int .i64 a.pos]/\∃r3,RP B y g gp (.slice (some ⟨gt,0,none⟩) LL ct) ts f A4 A4 A4 false r3 vd/\Bo s r3 (qQ (BC s Cf (AO.ok () (next s st))))/\r3.decls=r.decls)
 case first=>
  by_cases hf:0<=find r2.decls a.br
  ·have I:=Aa hf;go_wp2_with fail;refine eV.out.mono ?_;rintro e w4 ⟨rfl,eX,l,eY,L,M⟩;have F:=Aa (And.intro eX (And.intro eY (And.intro L M)));clear eX eY L M;go_wp2;go_meet;obtain⟨Q,f2,f3,f4⟩:=F.out;exact⟨Kg.trans K3.out Q,Em Q B3.out (B3.out.bt Q3.out.rd.row (by decide)),Em Q bi.out (bi.out.bt Q3.out.rd.row (by decide)),l,Q3.out.call Q f2 f4,zU1 bg.out I.out f3,f4.trans bh.out⟩
  ·have I:=Aa hf;go_wp2;go_meet;exact⟨K3.out,B3.out,bi.out,r2,Q3.out,Agb bg.out (by have:=I.out;omega) cX.out,bh.out⟩
 case rest=>
  obtain⟨k4,b4,da,l,q4,L,M⟩:=hcut;have W:=Aa (show nw l.decls a (qQ (BC s Cf (AO.ok () (next s st))))from by rw[M,←bh.out];exact Agc bg.out);have n2:=Hu (e:=N8) q4.rd L (by decide) a.pos;obtain⟨av,cv,rfl⟩:=q4.sl.bz;obtain⟨c8,p0,eZ⟩:=zp3 q4.rd.cells.2.2.2.2.2.2.2.2.1 (q4.rd.ba.cell 0) (AE.cell da 2);simp at eZ p0;obtain⟨fa,Q4,K4,B4,bj,fc,lw⟩:=zq7 n2 q4 k4 b4 da L M;clear n2 q4 k4 b4 da L M eV Q3 K3 B3 bi bg cX bh d2;unfold vs at*;go_upto_if 74 with fail;go_cut [] (λy=>Kg g w y/\AE y w.heap.size 255 [vs K,vs x.br,.int .i64 x.pos]/\AE y w2.heap.size 255 [vs a.is,vs a.br,.int .i64 a.pos]/\∃r5,RP B y g gp (.slice (some ⟨gt,0,none⟩) LL ct) ts f A4 A4 A4 false r5 (.slice av l.decls.length cv)/\Bo s r5 (yP (qQ (BC s Cf (AO.ok () (next s st)))))/\r5.decls=l.decls)
  case first=>
   by_cases hf:l.decls.length=8
   ·have I:=Aa hf;have e1:((l.decls.length:Int)==8)=true:=by simp;omega
    have e2:decide ((l.decls.length:Int)=8)=true:=by simp;omega
    clear hf;go_wp2_with fail;refine fa.out.mono ?_;rintro e w5 ⟨rfl,fd,r5,fh,N,O⟩;have F:=Aa (And.intro fd (And.intro fh (And.intro N O)));clear fd fh N O;go_wp2;go_meet;obtain⟨Q,f2,f3,f4⟩:=F.out;exact⟨Kg.trans K4.out Q,Em Q B4.out (B4.out.bt Q4.out.rd.row (by decide)),Em Q bj.out (bj.out.bt Q4.out.rd.row (by decide)),r5,Q4.out.call Q f2 f4,zU0 W.out I.out f3,f4⟩
   ·have I:=Aa hf;have e1:((l.decls.length:Int)==8)=false:=by simp;omega
    have e2:decide ((l.decls.length:Int)=8)=false:=by simp;omega
    clear hf;go_wp2;go_meet;exact⟨K4.out,B4.out,bj.out,l,Q4.out,Aga W.out I.out fc.out,rfl⟩
  case rest=>
   obtain⟨k5,b5,z,r5,q5,N,O⟩:=hcut;have u0:=AE.cell b5 0;have u1:=AE.cell z 1;simp at u0 u1;have bE:r5.decls=r.decls:=O.trans lw.out;go_upto_region 14 with fail;go_cut [81] (λlx y=>lx= .bool (K==Jo)/\y=wc)
   case first=>
    cases X:(K==Jo)
    all_goals
     have fi:=X;rw[GF,PL]at fi;have HV:=Aa X;go_wp2;go_meet;exact⟨by simpa using fi,rfl⟩
   obtain⟨rfl,rfl⟩:=hcut;go_upto_if 81 with fail;go_cut [4] (λs4 y=>s4= .int .i64 (Cp K)/\y=wc)
   case first=>
    cases X:(K==Jo)
    all_goals
     have HV:=Aa (show decide (K=Jo)=(K==Jo) by rw[GF,decide_eq_true_iff,PL]);rw[X]at HV;clear X;go_wp2;go_meet;have:=HV.out;simp at this;exact⟨by simp[Cp,this],rfl⟩
   obtain⟨rfl,rfl⟩:=hcut;have fj:=Kl (q5.rd.drewN 1) N HT.out 1 (Cp K);have fm:=Kl ((q5.rd.alloc (.cells #[vs [],vs [],.int .i64 0] 224)).drewN 1) N HT.out 1 (Cp K);have hA:∀d,Kg g (wc.drewN 1) d->d.cell? ⟨w.heap.size,0,none⟩=some (vs K)/\d.cell? ⟨w2.heap.size,1,none⟩=some (vs a.br):=λd P=>by have y0:=AE.cell (Em P (b5.drewN 1) (b5.bt q5.rd.row (by decide))) 0;have y1:=AE.cell (Em P (z.drewN 1) (z.bt q5.rd.row (by decide))) 1;exact⟨y0,y1⟩
   have hB:∀d,Kg g ((wc.alloc (.cells #[vs [],vs [],.int .i64 0] 224)).drewN 1) d->d.cell? ⟨w.heap.size,0,none⟩=some (vs K)/\d.cell? ⟨w2.heap.size,1,none⟩=some (vs a.br)/\AE d wc.heap.size 224 [vs [],vs [],.int .i64 0]:=λd P=>by have qh:=(q5.rd.alloc (.cells #[vs [],vs [],.int .i64 0] 224)).drewN 1;have y0:=AE.cell (Em P ((b5.alloc (.cells #[vs [],vs [],.int .i64 0] 224)).drewN 1) (b5.bt q5.rd.row (by decide))) 0;have y1:=AE.cell (Em P ((z.alloc (.cells #[vs [],vs [],.int .i64 0] 224)).drewN 1) (z.bt q5.rd.row (by decide))) 1;have y2:=Em P ((AE.new wc 224 [vs [],vs [],.int .i64 0]).drewN 1) (λe=>(AE.new wc 224 [vs [],vs [],.int .i64 0]).bt (q5.rd.alloc (.cells #[vs [],vs [],.int .i64 0] 224)).row (by decide) e);exact⟨y0,y1,y2⟩
   have lB:¬w.heap.size=wc.heap.size:=by have:=AE.lt b5;omega
   have lC:¬w2.heap.size=wc.heap.size:=by have:=AE.lt z;omega
   have l5:=AE.lt b5;have lD:=AE.lt z;obtain⟨ft,fP,HA,HB,Q5,K5,db,fR⟩:=zq8 fj fm hA hB q5 k5 bE (show r5.decls=l.decls from O);clear fj fm hA hB q5 k5 b5 z N O bE fa Q4 K4 B4 bj fc W c8 p0 eZ;unfold vs at*;go_upto_region 16 with fail;go_cut [5] (λs5 y=>∃(D:Nat) (v:Int) (r6:Fc),s5= .pointer (some ⟨D,0,none⟩)/\w.heap.size<=D/\Kg g w y/\AE y D 224 [vs K,vs a.br,.int .i64 v]/\RP B y g gp (.slice (some ⟨gt,0,none⟩) LL ct) ts f A4 A4 A4 false r6 (.slice av l.decls.length cv)/\
    Bo s r6 (Ha s 1 (Cp K) (yP (qQ (BC s Cf (AO.ok () (next s st))))))/\(∀n U,Ha s 1 (Cp K) (yP (qQ (BC s Cf (AO.ok () (next s st)))))= .ok n U->v=n)/\r6.decls=r.decls)
   case first=>
    go_region_law (first|(go_simp;go_at_call 136;refine ft.out.mono ?_;rintro e d ⟨v,rfl,A,X,r6,Y,C,E⟩;have F6:=Aa (And.intro A (And.intro X (And.intro Y (And.intro C E))));have z6:=HA.out d A;obtain⟨y0,y1⟩:=z6;have ly:wc.heap.size<=d.heap.size:=A.size;have n6:¬w2.heap.size=d.heap.size:=(by omega);have n7:¬w.heap.size=d.heap.size:=(by omega);have m6:w2.heap.size<d.heap.size:=(by omega);have m7:w.heap.size<d.heap.size:=(by omega);clear A X Y C E)|(go_simp;go_at_call 136;refine fP.out.mono ?_;rintro e d ⟨v,rfl,A,X,r6,Y,C,E⟩;have F6:=Aa (And.intro A (And.intro X (And.intro Y (And.intro C E))));have z6:=HB.out d A;obtain⟨y0,y1,y2⟩:=z6;have yl:=y2.lt;have yf:=λj=>y2.frozen j;have e0:=y2.cell 0;have e1:=y2.cell 1;have e2:=y2.cell 2;have Y2:=Aa y2;simp at e0 e1 e2;clear A X Y C E y2))
    all_goals go_wp2
    all_goals go_meet
    all_goals
     obtain⟨Q,f2,f3,f4,f5⟩:=F6.out;have m:w.heap.size<=wc.heap.size:=K5.out.size
     first
     |(have kA:Kg g wc d:=Kg.trans ((Ac.refl _ wc).drewN 1) Q
       have pA:=Q5.out.call kA f3 f5;refine⟨d.heap.size,v,r6,rfl,Ad m kA.size,(Kg.trans K5.out kA).alloc (.inr (Ad m kA.size)) _,AE.new d _ _,pA.call ((Ac.refl (λb=>b=g\/d.heap.size<=b) d).alloc (.inr (Ab _)) _) (f3.alloc _) rfl,f4,f2,f5.trans db.out⟩)
     |(have kB:Kg g wc d:=Kg.trans (((Ac.refl (λb=>b=g\/wc.heap.size<=b) wc).alloc (.inr (Ab _)) (.cells #[vs [],vs [],.int .i64 0] 224)).drewN 1) Q
       have pB:=Q5.out.call kB f3 f5;have dc:(Value.slice av l.decls.length cv).ownBlock≠some wc.heap.size:=λe=>by have:=Q5.out.sl.lt e;omega
       have z0:=Y2.out.bF 0 (vs K);have z1:=z0.bF 1 (vs a.br);have p2:=((pB.pW Y2.out dc 0 (vs K)).pW z0 dc 1 (vs a.br)).pW z1 dc 2 (.int .i64 v);exact⟨wc.heap.size,v,r6,rfl,m,(((Kg.trans K5.out kB).setCell (p:=⟨wc.heap.size,0,none⟩) (.inr m) _).setCell (p:=⟨wc.heap.size,1,none⟩) (.inr m) _).setCell (p:=⟨wc.heap.size,2,none⟩) (.inr m) _,z1.bF 2 (.int .i64 v),p2,f4,f2,f5.trans db.out⟩)
   case rest=>
    obtain⟨D,v,r6,rfl,hD,k6,y6,q6,C,gQ,E⟩:=hcut;clear ft fP HA HB u0 u1 lB lC l5 lD Q5 K5;have S:=EO q6.rd C HT.out (kd:=AN) (kr:=AN) (by decide) (by decide) (by decide) (by decide);obtain⟨T,Q6,K6,Y6,lJ,gX⟩:=zq6 S q6 k6 y6 gQ E;clear S q6 k6 y6 C gQ E;unfold vs at*;go_wp2_with fail;refine T.out.mono ?_;rintro e R ⟨x7,rfl,bo,_,r7,gY,gZ,bp⟩;have q7:=Q6.out.call bo gY bp;have y7:=Em bo Y6.out (Y6.out.bt Q6.out.rd.row (by decide));have pM:D≠g:=Y6.out.bt Q6.out.rd.row (by decide);have q:r7.decls.length=l.decls.length:=AG List.length (bp.trans (gX.out.trans (db.out.symm.trans fR.out)));obtain⟨K7,D7,lL⟩:=zq3 (Kg.trans K6.out bo) (show r7.decls=r.decls from bp.trans gX.out) gZ;have c:RP B ((R.alloc (.cells #[vs K,vs a.br,.int .i64 v] 224)).drew) g gp (.slice (some ⟨gt,0,none⟩) LL ct) ts f A4 A4 A4 false r7 (.slice av l.decls.length cv):=q7.call (((Ac.refl (λb=>b=g\/R.heap.size<=b) R).alloc (.inr (Ab _)) _).drew) ((q7.rd.alloc _).drewN 1) rfl;have s1:=c.sl;rw[q]at s1;have hI:B<=((R.alloc (.cells #[vs K,vs a.br,.int .i64 v] 224)).drew).heap.size:=c.sz;have hQ:=C7 R [vs K,vs a.br,.int .i64 v] 224;have hU:∀u∈ [vs K,vs a.br,.int .i64 v],u.oneCell'=true:=by intro u hu;simp at hu;rcases hu with rfl|rfl|rfl<;>rfl
    have qo:l.decls.length<=999:=by rw[←q,D7.out];omega
    have lS:l.decls.length+1<=maxLen:=by unfold maxLen;omega
    have l8:(l.decls.length+1)*40<=140737488355328:=by omega
    have mF:(R.alloc (.cells #[vs K,vs a.br,.int .i64 v] 224)).drew.frozen? ⟨gp,0,none⟩=false:=c.rd.ba.frozen 0;have pn:¬((Value.slice av l.decls.length cv).ownBlock=some gp\/((R.alloc (.cells #[vs K,vs a.br,.int .i64 v] 224)).drew).heap.size<=gp):=by
     rintro(hb|hb)
     ·exact c.sl.bD c.rd.ba (by decide) hb
     ·exact absurd c.rd.ba.lt (CJ.2 hb)
    have gn:¬((Value.slice av l.decls.length cv).ownBlock=some g\/((R.alloc (.cells #[vs K,vs a.br,.int .i64 v] 224)).drew).heap.size<=g):=by
     rintro(hb|hb)
     ·exact c.sl.bD c.rd.row (by decide) hb
     ·exact absurd c.rd.row.lt (CJ.2 hb)
    obtain⟨b8,b0,c8,p0,qr,z0,z1,z2⟩:=zp8 c.rd.cells.2.2.2.2.2.2.2.2.1 (c.rd.ba.cell 0) q7.rd.cells.2.2.2.2.2.2.2.2.1 (q7.rd.ba.cell 0) q7.rd.ba.lt (y7.cell 0) (y7.cell 1) (y7.cell 2);have zl:=y7.lt;have zr:=q7.rd.row.lt;obtain⟨S1,mG,mH,mJ,PN,GN,mM,Z⟩:=zq8 s1 hI hQ hU pn gn c q;obtain⟨i0,mN,hY,hZ,ic⟩:=Bg kZ;simp only[AI]at b0;simp at p0 z0 z1 z2;clear s1 hI hQ hU pn gn c bo gY gZ bp q7 y7 T Q6 K6 Y6 q;unfold ED;unfold vs at*;go_wp2_with fail
    go_region_law (first
     |(refine EI underlying217 mN hY hZ ic rfl (by decide) S1.out mG.out rfl _ _ (by rfl) (by rfl) ⟨R.heap.size,0,none⟩ 1 1 [.string ⟨K.toArray⟩,.string ⟨a.br.toArray⟩,.int .i64 v] (by rfl) (by rfl) mH.out mJ.out lS l8 (by omega) ?_;intro g2 pU qx J i ie;have e1:=(i.cell (p:=⟨g,8,none⟩) GN.out).trans b8;have e0:=(i.cell (p:=⟨gp,0,none⟩) PN.out).trans b0;have e2:=(i.frozen (p:=⟨gp,0,none⟩) PN.out).trans mF;have mQ:=Aa J;have mS:=Aa i;clear J i ie))
    all_goals
     go_wp2;go_end0;have hf:=mM.out.plus ⟨Er K,a.br,v⟩ Z.out rfl (show FL ⟨Er K,a.br,v⟩=[vs K,vs a.br,.int .i64 v] by unfold FL;rw[bH.out.1]) mQ.out mS.out (by rw[Z.out];omega);have ek:Ac (λb=>B<=b) R ((R.alloc (.cells #[vs K,vs a.br,.int .i64 v] 224)).drew):=((Ac.refl _ R).alloc (Ad HP.out.sz K7.out.size) _).drew;have mT:Cp EK=50:=by decide
     refine⟨rfl,((Vq K7.out HP.out.g0 HP.out.sz).trans ek).trans hf.1,f,_,_,hf.2,lU cz.out.1 bH.out.2 ln.out lJ.out lL.out,λst' e=>?_,?_⟩
     ·rw[VU (by rw[cz.out.1];exact bH.out.2) e];exact cz.out.2
     ·have:=AG List.length D7.out;simp;omega
end
end Go.Proofs.YtepoejiigmhlbaaGreatDoor.Ev
