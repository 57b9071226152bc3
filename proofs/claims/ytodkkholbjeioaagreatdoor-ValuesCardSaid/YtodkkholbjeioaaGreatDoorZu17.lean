/- Lemmas for a law's walk. Conditions: none. -/
import Derived.Test.YtodkkholbjeioaaGreatDoorZu16
set_option linter.all false
set_option maxRecDepth 100000
set_option maxHeartbeats 8000000
namespace Go.Proofs.YtodkkholbjeioaaGreatDoor.Ev
open _root_.Go.Proofs.Tryz
open Go Go.RowKit
def rM (o:AQ M9):AQ M9:=o.bind λn st=>.ok n (if 0<=find st.decls n.text then note CY n.pos st else st)
def zx (o:AQ M9):AQ M9:=o.bind λn st=>.ok n (if st.decls.length=8 then note Ov n.pos st else st)
theorem vy (e pos:Nat) (st:PS):(note e pos st).decls=st.decls:=by unfold note;cases st.bJ<;>rfl
abbrev Fh.qZ (r:Fh) (d:Bi):Fh:={r with decls:=r.decls++[d]}
section
variable {B:Nat}{w w2:World}{g gp:Nat}{tl:Value}{ts:List CN}{f:Int}{vr vh vm:Value}{ms:Bool}{r r2 r3:Fh}{vd:Value}{s:Ah}{st:PS}{x:CN}{o:AQ M9}
theorem Aay (h:oe r2.decls x o) (b:0<=find r2.decls x.bZ) (a:Bp s r3 (Pc CY x.pos o)):Bp s r3 (rM o):=by
 cases o with
 |bad e p=>exact a
 |ok n st=>
  obtain⟨c,d,i⟩:=h n st rfl;show AG s r3 (if 0<=find st.decls n.text then note CY n.pos st else st);rw[i,←d,Al b,←c];exact a
theorem Ag1 (h:oe r2.decls x o) (b:¬0<=find r2.decls x.bZ) (a:Bp s r3 o):Bp s r3 (rM o):=by
 cases o with
 |bad e p=>exact a
 |ok n st=>
  obtain⟨i,c,d⟩:=h n st rfl;show AG s r3 (if 0<=find st.decls n.text then note CY n.pos st else st);rw[d,←c,Ai b];exact a
theorem Ag2 {a:List Bi}(h:oe a x o):oe a x (rM o):=by
 cases o with
 |bad e p=>intro t st e;cases e
 |ok n st=>
  obtain⟨c,d,b⟩:=h n st rfl;intro t i e;injection e with e1 j;subst e1 j;refine⟨c,d,?_⟩;split
  ·rw[vy];exact b
  ·exact b
theorem Aax (h:oe r2.decls x o) (b:r2.decls.length=8) (a:Bp s r3 (Pc Ov x.pos o)):Bp s r3 (zx o):=by
 cases o with
 |bad e p=>exact a
 |ok n st=>
  obtain⟨c,i,d⟩:=h n st rfl;show AG s r3 (if st.decls.length=8 then note Ov n.pos st else st);rw[d,Al b,←c];exact a
theorem Ag0 (h:oe r2.decls x o) (b:¬r2.decls.length=8) (a:Bp s r3 o):Bp s r3 (zx o):=by
 cases o with
 |bad e p=>exact a
 |ok n st=>
  obtain⟨d,i,c⟩:=h n st rfl;show AG s r3 (if st.decls.length=8 then note Ov n.pos st else st);rw[c,Ai b];exact a
theorem SI (c:st.t.kind≠Cy):decl s st=(want s Ch (next s st)).bind λn st1=>
  (number s 1 (Cq st.t.kind) (Bh n st1)).bind λm b=>(want s AP b).bind λ_ a=>.ok () {a with decls:=a.decls++[⟨Eu st.t.kind,n.text,m⟩]}:=by
 unfold decl;simp only;rw[Ai c]
theorem rL {n:M9}{st1:PS}:zx (rM (.ok n st1))= .ok n (Bh n st1):=rfl
theorem mw {K:Ah}{v:Int}{d:Fh}(y:st.t.kind=K) (A:K≠Cy) (h:∀n st1,BE s Ch (AQ.ok () (next s st))= .ok n st1->x.bZ=n.text)
  (k:∀m l,Hg s 1 (Cq K) (zx (rM (BE s Ch (AQ.ok () (next s st)))))= .ok m l->v=m)
  (b:Bp s d (BE s AP (Hg s 1 (Cq K) (zx (rM (BE s Ch (AQ.ok () (next s st)))))))):Bp s (d.qZ ⟨Eu K,x.bZ,v⟩) (decl s st):=by
 rw[SI (by rw[y];exact A),y];have C:BE s Ch (AQ.ok () (next s st))=want s Ch (next s st):=rfl;rw[C]at h k b;cases q:want s Ch (next s st)with
 |bad e p=>
  rw[q]at b;have a:DM s d e p:=b;exact⟨a.lt,a.bad,a.fT,a.ne,a.fk⟩
 |ok n st1=>
  rw[q,rL]at b k;have D:=h n st1 q;show Bp s _ ((number s 1 (Cq K) (Bh n st1)).bind _);have e1:Hg s 1 (Cq K) (AQ.ok n (Bh n st1))=number s 1 (Cq K) (Bh n st1):=rfl;rw[e1]at b k;cases u:number s 1 (Cq K) (Bh n st1)with
  |bad e p=>
   rw[u]at b;have a:DM s d e p:=b;exact⟨a.lt,a.bad,a.fT,a.ne,a.fk⟩
  |ok m c=>
   rw[u]at b;have E:=k m c u;show Bp s _ ((want s AP c).bind _);have F:BE s AP (AQ.ok m c)=want s AP c:=rfl;rw[F]at b;cases z:want s AP c with
   |bad e p=>
    rw[z]at b;have a:DM s d e p:=b;exact⟨a.lt,a.bad,a.fT,a.ne,a.fk⟩
   |ok t j=>
    rw[z]at b;have a:AG s d j:=b;exact⟨a.pos.of rfl rfl,⟨a.ok.i,a.ok.pos,a.ok.more,a.ok.num,a.ok.name⟩,a.deep,a.loops,a.bad,a.bJ,by show d.decls++_=j.decls++_;rw[a.decls,D,E],a.bI,a.seen,a.f0,a.fk⟩
theorem Wp {st':PS}(j:st.t.kind≠Cy) (e:decl s st= .ok () st'):st'.bI=st.bI:=by
 rw[SI j]at e;obtain⟨n,st1,e1,e⟩:=AD e;obtain⟨m,a,k,e⟩:=AD e;obtain⟨t,b,l,e⟩:=AD e;injection e with _ e;obtain⟨E,c,q,h⟩:=AD (show(want s Bw (Bh n st1)).bind _=_ from k);injection h with _ h;have i:∀(e p:Nat) (z:PS),(note e p z).bI=z.bI:=λe p z=>by unfold note;cases z.bJ<;>rfl
 have u:st1.bI=st.bI:=by rw[(BH e1).2.2];rfl
 have v:(Bh n st1).bI=st1.bI:=by
  unfold Bh;simp only;have d:(if 0<=find st1.decls n.text then note CY n.pos st1 else st1).bI=st1.bI:=by
   split
   ·rw[i]
   ·rfl
  generalize (if 0<=find st1.decls n.text then note CY n.pos st1 else st1)=y at*;split
  ·rw[i];exact d
  ·exact d
 have A:c.bI=(Bh n st1).bI:=by rw[(BH q).2.2];rfl
 have C:a.bI=c.bI:=by
  rw[←h];split
  ·rw[i]
  ·rfl
 have D:b.bI=a.bI:=by rw[(BH l).2.2];rfl
 rw[←e];show b.bI=st.bI;rw[D,C,A,v,u]
theorem RP.plus (h:RP B w g gp tl ts f vr vh vm ms r vd) (d:Bi) {c:Value}{n:Nat}{xs E:List Value}(G:r.decls.length=n) (y:r.decls.flatMap FN=xs) (z:FN d=E) (p:Sl (λb=>B<=b) w2 87 3 c (n+1) (xs++E))
  (j:Ac (λb=>vd.ownBlock=some b\/w.heap.size<=b) w w2) (H:r.decls.length+1<=1000):
  Ac (λb=>B<=b) w (w2.setCell ⟨gp,0,none⟩ c)/\RP B (w2.setCell ⟨gp,0,none⟩ c) g gp tl ts f vr vh vm ms (r.qZ d) c:=by
 subst G y z;have A:∀b,vd.ownBlock=some b\/w.heap.size<=b->B<=b:=λb a=>a.elim (λa=>h.sl.2 b a) (λa=>Ad h.sz a);have l:∀{t:TypeId} {cs:List Value} {b:Nat},AF w b t cs->t≠87->¬(vd.ownBlock=some b\/w.heap.size<=b):=by
  intro t cs b u v a;rcases a with a|a
  ·exact h.sl.bK u (λe=>v e.symm) a
  ·have:=u.lt;omega
 have k:=h.rd.row.kept j (l h.rd.row (by decide));have i:=h.rd.bQ.kept j (l h.rd.bQ (by decide));obtain⟨N,v⟩:=h.rd.ji;have q:=v.kept j (λb a=>by obtain⟨cs,u⟩:=v.row a;exact l u (by decide));have C:Ac (λb=>b=gp) w2 (w2.setCell ⟨gp,0,none⟩ c):=Ac.one w2 ⟨gp,0,none⟩ c;have D:=i.cZ k (by decide);have m:=p.kept C (λb a e=>p.bK i (by decide) (e▸a));have F:(r.qZ d).decls.length=r.decls.length+1:=by simp
 have I:(r.qZ d).decls.flatMap FN=r.decls.flatMap FN++FN d:=by simp
 rw[←F,←I]at m;refine⟨(j.mono A).trans (C.mono (λb a=>a▸h.p0)),⟨?_,h.g0,h.p0,m,by have:=j.size;have:=h.sz;simp;omega⟩⟩;exact⟨k.dK (λe=>D e.symm) _,⟨N,q.kept C (λb a e=>q.bK i (by decide) (e▸a))⟩,h.rd.tl,i.bM 0 _,⟨_,c,rfl,m⟩,by rw[F];exact H⟩
end
theorem RP.qG {B:Nat}{w:World}{g gp:Nat}{tl:Value}{ts:List CN}{f:Int}{vr vh vm:Value}{ms:Bool}{r:Fh}{vd:Value}(h:RP B w g gp tl ts f vr vh vm ms r vd) {D:Nat}{cs:List Value}(c:AF w D 87 cs) (d:vd.ownBlock≠some D) (i:Nat) (u:Value):
  RP B (w.setCell ⟨D,i,none⟩ u) g gp tl ts f vr vh vm ms r vd:=by
 have k:Ac (λb=>b=D) w (w.setCell ⟨D,i,none⟩ u):=Ac.one w ⟨D,i,none⟩ _;obtain⟨N,l⟩:=h.rd.ji;have a:=h.sl.kept k (λb j e=>d (e▸j));exact⟨⟨h.rd.row.dK (h.rd.row.cZ c (by decide)) _,⟨N,l.kept k (λb j e=>l.bK c (by decide) (e▸j))⟩,h.rd.tl,h.rd.bQ.dK (h.rd.bQ.cZ c (by decide)) _,⟨_,vd,rfl,a⟩,h.rd.dl⟩,h.g0,h.p0,a,by simpa using h.sz⟩
theorem lM:(prog.info? 87).map (λi=>(i.zero,i.size,i.bytes))=some (some (.agg #[vs [],vs [],.int .i64 0]),3,40):=by kernel_rfl
section
variable {B:Nat}{w:World}{g gp:Nat}{tl:Value}{ts:List CN}{f:Int}{r:Fh}{vd:Value}{s:Ah}{st:PS}
theorem QF {K:Ah}(G:K=EO\/K=Gg\/K=Jy) (h:RP B w g gp tl ts f A6 A6 A6 false r vd) (hs:AG s r st) (ht:Eb ts (ji s)) (P:st.t.kind=K) (qt:r.decls.length<=900) (dU:f=st.bI):
  Calls prog 54 #[.pointer (some ⟨g,0,none⟩)] w (sK B w g gp tl ts s r.decls.length (decl s st)):=by
 obtain⟨x,hx,dV⟩:=AG.tok hs ht;obtain⟨gt,ct,rfl,h1,h2,h3,h4,h5,t0,t1,t2⟩:=h.rd.at_ hx;have qB:(K==Cy)=false:=by rcases G with rfl|rfl|rfl<;>decide
 have nK:decide (K=Cy)=false:=by rcases G with rfl|rfl|rfl<;>decide
 have dW:K≠Ek:=by rcases G with rfl|rfl|rfl<;>decide
 have dX:K≠Bx:=by rcases G with rfl|rfl|rfl<;>decide
 have fc:GU K=K:=by rcases G with rfl|rfl|rfl<;>decide
 have fd:B6 (Eu K)=K:=by rcases G with rfl|rfl|rfl<;>decide
 have bU:K≠Cy:=by rcases G with rfl|rfl|rfl<;>decide
 have cj:=Aa (And.intro fd bU);have fx:x.is=K:=by rw[dV.1,P];exact fc
 rw[fx]at t0;obtain⟨c0,c1,_⟩:=h.rd.cells;have qE:=h.rd.row.lt;have ff:=λj=>h.rd.row.frozen j;have h8:=h.rd.tl;have qH:r.k<ts.length:=h3;unfold maxLen at h2;have fy:Bp s r.nx (AQ.ok () (next s st)):=hs.next (by rw[P];exact dW) (by rw[P];exact dX);have cu:Kg g w ((w.setCell ⟨g,1,none⟩ (.int .i64 ((r.k:Int)+1))).alloc (.cells #[vs K,vs x.bZ,.int .i64 x.pos] 138)).drew:=
  (((Ac.refl _ w).setCell (p:=⟨g,1,none⟩) (.inl rfl) _).alloc (.inr (by simp)) _).drew
 have q1:=h.call (r':=r.nx) cu (((h.rd.put 1 (.int .i64 ((r.k:Int)+1)) (r':=r.nx) rfl rfl).alloc (.cells #[vs K,vs x.bZ,.int .i64 x.pos] 138)).drewN 1) rfl;have b1:AF ((w.setCell ⟨g,1,none⟩ (.int .i64 ((r.k:Int)+1))).alloc (.cells #[vs K,vs x.bZ,.int .i64 x.pos] 138)).drew w.heap.size 138 [vs K,vs x.bZ,.int .i64 x.pos]:=by have:=AF.new (w.setCell ⟨g,1,none⟩ (.int .i64 ((r.k:Int)+1))) 138 [vs K,vs x.bZ,.int .i64 x.pos];simp only[dv]at this;exact this
 have S:=ET q1.rd fy ht (kd:=Ch) (kr:=Ch) (by decide) (by decide) (by decide) (by decide);obtain⟨HT,Q1,cw,B1,T,HP,cy⟩:=zq7 ht q1 cu b1 S h (And.intro P dU);generalize lm:r.k=kq at*;generalize lP:ts.length=LL at*;clear hx dV hs fy fx P lm lP h q1 cu ht S b1 dU dW dX fc fd bU;unfold vs at*;go_enter func54,ntmps54;go_wp2;go_region;go_wp2_with fail;refine T.out.mono ?_;rintro e w2 ⟨a,rfl,i,fB,r2,fC,J,cz⟩;have q2:=Q1.out.call i fC cz;have b2:=Ep i B1.out (B1.out.cZ Q1.out.rd.row (by decide));have da:oe r2.decls a (BE s Ch (AQ.ok () (next s st))):=λt U ho=>Z8 ho (fB t U ho) J;obtain⟨kA,qA,bA,bB⟩:=zp4 ((Kg.trans cw.out i).alloc (.inr (cw.out.trans i).size) (.cells #[vs a.is,vs a.bZ,.int .i64 a.pos] 138)) (q2.call (((Ac.refl (λb=>b=g\/w2.heap.size<=b) w2).alloc (.inr (Ab _)) (.cells #[vs a.is,vs a.bZ,.int .i64 a.pos] 138)).drewN 1) ((q2.rd.alloc (.cells #[vs a.is,vs a.bZ,.int .i64 a.pos] 138)).drewN 1) rfl) ((b2.alloc (.cells #[vs a.is,vs a.bZ,.int .i64 a.pos] 138)).drewN 1) (AF.new w2 138 [vs a.is,vs a.bZ,.int .i64 a.pos]);have V:=PM a.bZ gp r2.decls vd _ qA.sl qA.rd.dl qA.rd.bQ.lt (qA.rd.bQ.cell 0);have qI:¬g=w2.heap.size:=by have:=q2.rd.row.lt;omega
 have c8:=((q2.rd.alloc (.cells #[vs a.is,vs a.bZ,.int .i64 a.pos] 138)).cells).2.2.2.2.2.2.2.2.1;have d1:=bB.cell 1;simp at d1;obtain⟨HF,QA,KA,BA,BB,dF,bL,lT⟩:=zq8 V qA (kA.drewN 1) bA (bB.drewN 1) J da (λt U ho=>(da t U ho).2.1);have bN:=Aa (show r2.decls=r.decls from cz);clear c0 c1 t0 t1 t2 ff Q1 cw T B1 q2 b2 da kA qA bA bB V J cz fB fC i;unfold EG;unfold vs at*;go_wp2_with fail
 (refine Du 6 (by kernel_rfl) (by kernel_rfl) ?_;simp only[Au,AI,Av,AK];repeat still_step)
 refine BT ?_;go_wp2_with fail;refine HF.out.mono ?_;rintro e w3 ⟨rfl,H⟩;have q3:=QA.out.call (Jx H) (QA.out.rd.kg (Jx H) (H.block g QA.out.rd.row.lt)) rfl;have b3:=(H.block _ BA.out.lt).trans BA.out;have dG:=(H.block _ BB.out.lt).trans BB.out;have d2:=AF.cell dG 2;simp at d2;have n1:=H6 (e:=CY) q3.rd dF.out (by decide) a.pos;obtain⟨fE,Q3,K3,B3,bO⟩:=zq5 n1 q3 (Kg.trans KA.out (Jx H)) (show AF w3 w.heap.size 138 [vs K,vs x.bZ,.int .i64 x.pos]from b3) (show AF w3 w2.heap.size 138 [vs a.is,vs a.bZ,.int .i64 a.pos]from dG);clear HF QA KA BA BB n1 q3 b3 dG H c8 d1;unfold vs at*;go_upto_if 61 with fail;go_cut [] (λy=>Kg g w y/\AF y w.heap.size 138 [vs K,vs x.bZ,.int .i64 x.pos]/\AF y w2.heap.size 138 [vs a.is,vs a.bZ,.int .i64 a.pos]/\∃r3,RP B y g gp (.slice (some ⟨gt,0,none⟩) LL ct) ts f A6 A6 A6 false r3 vd/\Bp s r3 (rM (BE s Ch (AQ.ok () (next s st))))/\r3.decls=r.decls)
 case first=>
  by_cases hf:0<=find r2.decls a.bZ
  ·have I:=Aa hf;go_wp2_with fail;refine fE.out.mono ?_;rintro e w4 ⟨rfl,fG,l,fH,L,M⟩;have F:=Aa (And.intro fG (And.intro fH (And.intro L M)));clear fG fH L M;go_wp2;go_meet;obtain⟨Q,f2,f3,f4⟩:=F.out;exact⟨Kg.trans K3.out Q,Ep Q B3.out (B3.out.cZ Q3.out.rd.row (by decide)),Ep Q bO.out (bO.out.cZ Q3.out.rd.row (by decide)),l,Q3.out.call Q f2 f4,Aay bL.out I.out f3,f4.trans bN.out⟩
  ·have I:=Aa hf;go_wp2;go_meet;exact⟨K3.out,B3.out,bO.out,r2,Q3.out,Ag1 bL.out (by have:=I.out;omega) dF.out,bN.out⟩
 case rest=>
  obtain⟨k4,b4,dI,l,q4,L,M⟩:=hcut;have W:=Aa (show oe l.decls a (rM (BE s Ch (AQ.ok () (next s st))))from by rw[M,←bN.out];exact Ag2 bL.out);have n2:=H6 (e:=Ov) q4.rd L (by decide) a.pos;obtain⟨av,cv,rfl⟩:=q4.sl.cB;obtain⟨c8,p0,fJ⟩:=zp3 q4.rd.cells.2.2.2.2.2.2.2.2.1 (q4.rd.bQ.cell 0) (AF.cell dI 2);simp at fJ p0;obtain⟨fK,Q4,K4,B4,bP,fM,lY⟩:=zq7 n2 q4 k4 b4 dI L M;clear n2 q4 k4 b4 dI L M fE Q3 K3 B3 bO bL dF bN d2;unfold vs at*;go_upto_if 74 with fail;go_cut [] (λy=>Kg g w y/\AF y w.heap.size 138 [vs K,vs x.bZ,.int .i64 x.pos]/\AF y w2.heap.size 138 [vs a.is,vs a.bZ,.int .i64 a.pos]/\∃r5,RP B y g gp (.slice (some ⟨gt,0,none⟩) LL ct) ts f A6 A6 A6 false r5 (.slice av l.decls.length cv)/\Bp s r5 (zx (rM (BE s Ch (AQ.ok () (next s st)))))/\r5.decls=l.decls)
  case first=>
   by_cases hf:l.decls.length=8
   ·have I:=Aa hf;have e1:((l.decls.length:Int)==8)=true:=by simp;omega
    have e2:decide ((l.decls.length:Int)=8)=true:=by simp;omega
    clear hf;go_wp2_with fail;refine fK.out.mono ?_;rintro e w5 ⟨rfl,fN,r5,fO,N,O⟩;have F:=Aa (And.intro fN (And.intro fO (And.intro N O)));clear fN fO N O;go_wp2;go_meet;obtain⟨Q,f2,f3,f4⟩:=F.out;exact⟨Kg.trans K4.out Q,Ep Q B4.out (B4.out.cZ Q4.out.rd.row (by decide)),Ep Q bP.out (bP.out.cZ Q4.out.rd.row (by decide)),r5,Q4.out.call Q f2 f4,Aax W.out I.out f3,f4⟩
   ·have I:=Aa hf;have e1:((l.decls.length:Int)==8)=false:=by simp;omega
    have e2:decide ((l.decls.length:Int)=8)=false:=by simp;omega
    clear hf;go_wp2;go_meet;exact⟨K4.out,B4.out,bP.out,l,Q4.out,Ag0 W.out I.out fM.out,rfl⟩
  case rest=>
   obtain⟨k5,b5,z,r5,q5,N,O⟩:=hcut;have u0:=AF.cell b5 0;have u1:=AF.cell z 1;simp at u0 u1;have bY:r5.decls=r.decls:=O.trans lY.out;go_upto_region 14 with fail;go_cut [81] (λlZ y=>lZ= .bool (K==Jy)/\y=wc)
   case first=>
    cases X:(K==Jy)
    all_goals
     have fP:=X;rw[GH,Qb]at fP;have HV:=Aa X;go_wp2;go_meet;exact⟨by simpa using fP,rfl⟩
   obtain⟨rfl,rfl⟩:=hcut;go_upto_if 81 with fail;go_cut [4] (λs4 y=>s4= .int .i64 (Cq K)/\y=wc)
   case first=>
    cases X:(K==Jy)
    all_goals
     have HV:=Aa (show decide (K=Jy)=(K==Jy) by rw[GH,decide_eq_true_iff,Qb]);rw[X]at HV;clear X;go_wp2;go_meet;have:=HV.out;simp at this;exact⟨by simp[Cq,this],rfl⟩
   obtain⟨rfl,rfl⟩:=hcut;have fR:=Kw (q5.rd.drewN 1) N HT.out 1 (Cq K);have fS:=Kw ((q5.rd.alloc (.cells #[vs [],vs [],.int .i64 0] 87)).drewN 1) N HT.out 1 (Cq K);have hA:∀d,Kg g (wc.drewN 1) d->d.cell? ⟨w.heap.size,0,none⟩=some (vs K)/\d.cell? ⟨w2.heap.size,1,none⟩=some (vs a.bZ):=λd P=>by have y0:=AF.cell (Ep P (b5.drewN 1) (b5.cZ q5.rd.row (by decide))) 0;have y1:=AF.cell (Ep P (z.drewN 1) (z.cZ q5.rd.row (by decide))) 1;exact⟨y0,y1⟩
   have hB:∀d,Kg g ((wc.alloc (.cells #[vs [],vs [],.int .i64 0] 87)).drewN 1) d->d.cell? ⟨w.heap.size,0,none⟩=some (vs K)/\d.cell? ⟨w2.heap.size,1,none⟩=some (vs a.bZ)/\AF d wc.heap.size 87 [vs [],vs [],.int .i64 0]:=λd P=>by have qK:=(q5.rd.alloc (.cells #[vs [],vs [],.int .i64 0] 87)).drewN 1;have y0:=AF.cell (Ep P ((b5.alloc (.cells #[vs [],vs [],.int .i64 0] 87)).drewN 1) (b5.cZ q5.rd.row (by decide))) 0;have y1:=AF.cell (Ep P ((z.alloc (.cells #[vs [],vs [],.int .i64 0] 87)).drewN 1) (z.cZ q5.rd.row (by decide))) 1;have y2:=Ep P ((AF.new wc 87 [vs [],vs [],.int .i64 0]).drewN 1) (λe=>(AF.new wc 87 [vs [],vs [],.int .i64 0]).cZ (q5.rd.alloc (.cells #[vs [],vs [],.int .i64 0] 87)).row (by decide) e);exact⟨y0,y1,y2⟩
   have l8:¬w.heap.size=wc.heap.size:=by have:=AF.lt b5;omega
   have l9:¬w2.heap.size=wc.heap.size:=by have:=AF.lt z;omega
   have l5:=AF.lt b5;have ma:=AF.lt z;obtain⟨gH,gI,HA,HB,Q5,K5,dJ,ik⟩:=zq8 fR fS hA hB q5 k5 bY (show r5.decls=l.decls from O);clear fR fS hA hB q5 k5 b5 z N O bY fK Q4 K4 B4 bP fM W c8 p0 fJ;unfold vs at*;go_upto_region 16 with fail;go_cut [5] (λs5 y=>∃(D:Nat) (v:Int) (r6:Fh),s5= .pointer (some ⟨D,0,none⟩)/\w.heap.size<=D/\Kg g w y/\AF y D 87 [vs K,vs a.bZ,.int .i64 v]/\RP B y g gp (.slice (some ⟨gt,0,none⟩) LL ct) ts f A6 A6 A6 false r6 (.slice av l.decls.length cv)/\
    Bp s r6 (Hg s 1 (Cq K) (zx (rM (BE s Ch (AQ.ok () (next s st))))))/\(∀n U,Hg s 1 (Cq K) (zx (rM (BE s Ch (AQ.ok () (next s st)))))= .ok n U->v=n)/\r6.decls=r.decls)
   case first=>
    go_region_law (first|(go_simp;go_at_call 85;refine gH.out.mono ?_;rintro e d ⟨v,rfl,A,X,r6,Y,C,E⟩;have F6:=Aa (And.intro A (And.intro X (And.intro Y (And.intro C E))));have z6:=HA.out d A;obtain⟨y0,y1⟩:=z6;have ly:wc.heap.size<=d.heap.size:=A.size;have n6:¬w2.heap.size=d.heap.size:=(by omega);have n7:¬w.heap.size=d.heap.size:=(by omega);have m6:w2.heap.size<d.heap.size:=(by omega);have m7:w.heap.size<d.heap.size:=(by omega);clear A X Y C E)|(go_simp;go_at_call 85;refine gI.out.mono ?_;rintro e d ⟨v,rfl,A,X,r6,Y,C,E⟩;have F6:=Aa (And.intro A (And.intro X (And.intro Y (And.intro C E))));have z6:=HB.out d A;obtain⟨y0,y1,y2⟩:=z6;have yl:=y2.lt;have yf:=λj=>y2.frozen j;have e0:=y2.cell 0;have e1:=y2.cell 1;have e2:=y2.cell 2;have Y2:=Aa y2;simp at e0 e1 e2;clear A X Y C E y2))
    all_goals go_wp2
    all_goals go_meet
    all_goals
     obtain⟨Q,f2,f3,f4,f5⟩:=F6.out;have m:w.heap.size<=wc.heap.size:=K5.out.size
     first
     |(have kA:Kg g wc d:=Kg.trans ((Ac.refl _ wc).drewN 1) Q
       have pA:=Q5.out.call kA f3 f5;refine⟨d.heap.size,v,r6,rfl,Ad m kA.size,(Kg.trans K5.out kA).alloc (.inr (Ad m kA.size)) _,AF.new d _ _,pA.call ((Ac.refl (λb=>b=g\/d.heap.size<=b) d).alloc (.inr (Ab _)) _) (f3.alloc _) rfl,f4,f2,f5.trans dJ.out⟩)
     |(have kB:Kg g wc d:=Kg.trans (((Ac.refl (λb=>b=g\/wc.heap.size<=b) wc).alloc (.inr (Ab _)) (.cells #[vs [],vs [],.int .i64 0] 87)).drewN 1) Q
       have pB:=Q5.out.call kB f3 f5;have dK:(Value.slice av l.decls.length cv).ownBlock≠some wc.heap.size:=λe=>by have:=Q5.out.sl.lt e;omega
       have z0:=Y2.out.bM 0 (vs K);have z1:=z0.bM 1 (vs a.bZ);have p2:=((pB.qG Y2.out dK 0 (vs K)).qG z0 dK 1 (vs a.bZ)).qG z1 dK 2 (.int .i64 v);exact⟨wc.heap.size,v,r6,rfl,m,(((Kg.trans K5.out kB).setCell (p:=⟨wc.heap.size,0,none⟩) (.inr m) _).setCell (p:=⟨wc.heap.size,1,none⟩) (.inr m) _).setCell (p:=⟨wc.heap.size,2,none⟩) (.inr m) _,z1.bM 2 (.int .i64 v),p2,f4,f2,f5.trans dJ.out⟩)
   case rest=>
    obtain⟨D,v,r6,rfl,hD,k6,y6,q6,C,iu,E⟩:=hcut;clear gH gI HA HB u0 u1 l8 l9 l5 ma Q5 K5;have S:=ET q6.rd C HT.out (kd:=AP) (kr:=AP) (by decide) (by decide) (by decide) (by decide);obtain⟨T,Q6,K6,Y6,mg,iw⟩:=zq6 S q6 k6 y6 iu E;clear S q6 k6 y6 C iu E;unfold vs at*;go_wp2_with fail;refine T.out.mono ?_;rintro e R ⟨x7,rfl,bS,_,r7,ix,iy,bT⟩;have q7:=Q6.out.call bS ix bT;have y7:=Ep bS Y6.out (Y6.out.cZ Q6.out.rd.row (by decide));have py:D≠g:=Y6.out.cZ Q6.out.rd.row (by decide);have q:r7.decls.length=l.decls.length:=AH List.length (bT.trans (iw.out.trans (dJ.out.symm.trans ik.out)));obtain⟨K7,D7,mi⟩:=zq3 (Kg.trans K6.out bS) (show r7.decls=r.decls from bT.trans iw.out) iy;have c:RP B ((R.alloc (.cells #[vs K,vs a.bZ,.int .i64 v] 87)).drew) g gp (.slice (some ⟨gt,0,none⟩) LL ct) ts f A6 A6 A6 false r7 (.slice av l.decls.length cv):=q7.call (((Ac.refl (λb=>b=g\/R.heap.size<=b) R).alloc (.inr (Ab _)) _).drew) ((q7.rd.alloc _).drewN 1) rfl;have s1:=c.sl;rw[q]at s1;have iA:B<=((R.alloc (.cells #[vs K,vs a.bZ,.int .i64 v] 87)).drew).heap.size:=c.sz;have iB:=C9 R [vs K,vs a.bZ,.int .i64 v] 87;have iC:∀u∈ [vs K,vs a.bZ,.int .i64 v],u.oneCell'=true:=by intro u hu;simp at hu;rcases hu with rfl|rfl|rfl<;>rfl
    have qQ:l.decls.length<=999:=by rw[←q,D7.out];omega
    have ml:l.decls.length+1<=maxLen:=by unfold maxLen;omega
    have mu:(l.decls.length+1)*40<=140737488355328:=by omega
    have mz:(R.alloc (.cells #[vs K,vs a.bZ,.int .i64 v] 87)).drew.frozen? ⟨gp,0,none⟩=false:=c.rd.bQ.frozen 0;have pn:¬((Value.slice av l.decls.length cv).ownBlock=some gp\/((R.alloc (.cells #[vs K,vs a.bZ,.int .i64 v] 87)).drew).heap.size<=gp):=by
     rintro(hb|hb)
     ·exact c.sl.bK c.rd.bQ (by decide) hb
     ·exact absurd c.rd.bQ.lt (CL.2 hb)
    have gn:¬((Value.slice av l.decls.length cv).ownBlock=some g\/((R.alloc (.cells #[vs K,vs a.bZ,.int .i64 v] 87)).drew).heap.size<=g):=by
     rintro(hb|hb)
     ·exact c.sl.bK c.rd.row (by decide) hb
     ·exact absurd c.rd.row.lt (CL.2 hb)
    obtain⟨b8,b0,c8,p0,qS,z0,z1,z2⟩:=zp8 c.rd.cells.2.2.2.2.2.2.2.2.1 (c.rd.bQ.cell 0) q7.rd.cells.2.2.2.2.2.2.2.2.1 (q7.rd.bQ.cell 0) q7.rd.bQ.lt (y7.cell 0) (y7.cell 1) (y7.cell 2);have zl:=y7.lt;have zr:=q7.rd.row.lt;obtain⟨S1,mG,nw,ny,PN,GN,nz,Z⟩:=zq8 s1 iA iB iC pn gn c q;obtain⟨i0,nA,iD,iE,iF⟩:=Bg lM;simp only[AJ]at b0;simp at p0 z0 z1 z2;clear s1 iA iB iC pn gn c bS ix iy bT q7 y7 T Q6 K6 Y6 q;unfold EG;unfold vs at*;go_wp2_with fail
    go_region_law (first
     |(refine EL underlying80 nA iD iE iF rfl (by decide) S1.out mG.out rfl _ _ (by rfl) (by rfl) ⟨R.heap.size,0,none⟩ 1 1 [.string ⟨K.toArray⟩,.string ⟨a.bZ.toArray⟩,.int .i64 v] (by rfl) (by rfl) nw.out ny.out ml mu (by omega) ?_;intro g2 qr qW J i iG;have e1:=(i.cell (p:=⟨g,8,none⟩) GN.out).trans b8;have e0:=(i.cell (p:=⟨gp,0,none⟩) PN.out).trans b0;have e2:=(i.frozen (p:=⟨gp,0,none⟩) PN.out).trans mz;have nC:=Aa J;have nD:=Aa i;clear J i iG))
    all_goals
     go_wp2;go_end0;have hf:=nz.out.plus ⟨Eu K,a.bZ,v⟩ Z.out rfl (show FN ⟨Eu K,a.bZ,v⟩=[vs K,vs a.bZ,.int .i64 v] by unfold FN;rw[cj.out.1]) nC.out nD.out (by rw[Z.out];omega);have ek:Ac (λb=>B<=b) R ((R.alloc (.cells #[vs K,vs a.bZ,.int .i64 v] 87)).drew):=((Ac.refl _ R).alloc (Ad HP.out.sz K7.out.size) _).drew;have nH:Cq EO=50:=by decide
     refine⟨rfl,((VX K7.out HP.out.g0 HP.out.sz).trans ek).trans hf.1,f,_,_,hf.2,mw cy.out.1 cj.out.2 lT.out mg.out mi.out,λst' e=>?_,?_⟩
     ·rw[Wp (by rw[cy.out.1];exact cj.out.2) e];exact cy.out.2
     ·have:=AH List.length D7.out;simp;omega
end
end Go.Proofs.YtodkkholbjeioaaGreatDoor.Ev
