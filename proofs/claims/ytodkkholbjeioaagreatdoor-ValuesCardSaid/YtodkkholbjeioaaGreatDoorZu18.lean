/- Lemmas for a law's walk. Conditions: none. -/
import Derived.Test.YtodkkholbjeioaaGreatDoorZu16
set_option linter.all false
set_option maxRecDepth 100000
set_option maxHeartbeats 8000000
namespace Go.Proofs.YtodkkholbjeioaaGreatDoor.Ev
open _root_.Go.Proofs.Tryz
open Go Go.RowKit
section
variable {w:World}{g gp:Nat}{tl:Value}{ts:List CN}{pc:List Value}{r:Fh}{s:Ah}{st:PS}
theorem Ct.jj {w w':World}{N:Nat->Prop}{v:Value}{b:Az}{t:List Value}(h:Ct N w v b) (c:Kg g w w') (d:AF w g 136 t):Ct N w' v b:=h.kept (λ_ _ _ a=>In c a.lt (a.cZ d (by decide)))
theorem Ct.fD {w:World}{N:Nat->Prop}{v:Value}{b:Az}(h:Ct N w v b) {D:Nat}(a:∀k,N k->k≠D) (i:Nat) (u:Value):Ct N (w.setCell ⟨D,i,none⟩ u) v b:=
 h.kept (λk _ c _=>F8 w ⟨D,i,none⟩ u k (a k c))
theorem Ct.fJ {w:World}{N:Nat->Prop}{v:Value}{b:Az}(h:Ct N w v b) {C:Nat}(a:∀k,N k->k≠C) (i j l m n o p q t u c d e f:Value):Ct N (NC w C i j l m n o p q t u c d e f) v b:=
 (((((((((((((h.fD a 0 i).fD a 1 j).fD a 2 l).fD a 3 m).fD a 4 n).fD a 5 o).fD a 6 p).fD a 7 q).fD a 8 t).fD a 9 u).fD a 10 c).fD a 11 d).fD a 12 e).fD a 13 f
def vS (s:Ah) (n:Nat) (o:AQ Unit):AQ Az:=
 (CC s (n+1) o).bind λc st=>(block s n st).bind λt st=>
  if st.t.kind=Dn then(block s n (next s st)).bind λe st=>.ok (.ite c t true e .nil) st else .ok (.ite c t false .nil .nil) st
theorem YR {n:Nat}{o:AQ Unit}(h:(CZ s n (CA (CC s (n+1) o))).cj Dn=true):CA (vS s n o)=CA (CZ s n (D1 s Dn (CZ s n (CA (CC s (n+1) o))))):=by
 unfold vS;cases b:CC s (n+1) o with
 |bad e p=>rw[b]at h;cases h
 |ok c st1=>
  rw[b]at h;have e1:CZ s n (CA (AQ.ok c st1))=block s n st1:=rfl;rw[e1]at h ⊢;show CA ((block s n st1).bind _)=_;cases d:block s n st1 with
  |bad e p=>rw[d]at h;cases h
  |ok t a=>
   rw[d]at h;have f:a.t.kind=Dn:=by simpa[AQ.cj]using h
   show CA (if a.t.kind=Dn then _ else _)=_;rw[Al f];have i:D1 s Dn (AQ.ok t a)= .ok () (next s a):=by show AQ.ok () (take s Dn a).2=_;unfold take;rw[Al f]
   rw[i];show CA ((block s n (next s a)).bind _)=CA (block s n (next s a));cases block s n (next s a)<;>rfl
theorem eA {n:Nat}{o:AQ Unit}(h:(CZ s n (CA (CC s (n+1) o))).cj Dn=false):CA (vS s n o)=CA (D1 s Dn (CZ s n (CA (CC s (n+1) o)))):=by
 rw[Gs h];unfold vS;cases b:CC s (n+1) o with
 |bad e p=>rfl
 |ok c st1=>
  rw[b]at h;have e1:CZ s n (CA (AQ.ok c st1))=block s n st1:=rfl;rw[e1]at h ⊢;show CA ((block s n st1).bind _)=_;cases d:block s n st1 with
  |bad e p=>rfl
  |ok t a=>
   rw[d]at h;have f:¬a.t.kind=Dn:=by simpa[AQ.cj]using h
   show CA (if a.t.kind=Dn then _ else _)=_;rw[Ai f];rfl
theorem fv {n:Nat}{o:AQ Unit}{x:Az}{d:PS}(h:(CZ s n (CA (CC s (n+1) o))).cj Dn=true) (e:vS s n o= .ok x d):
  ∃c st1 t a b,CC s (n+1) o= .ok c st1/\CZ s n (CA (CC s (n+1) o))= .ok t a/\CZ s n (D1 s Dn (CZ s n (CA (CC s (n+1) o))))= .ok b d/\x= .ite c t true b .nil:=by
 unfold vS at e;obtain⟨c,st1,i,e⟩:=AD e;obtain⟨t,a,k,e⟩:=AD e;have e1:CZ s n (CA (CC s (n+1) o))= .ok t a:=by rw[i];exact k
 rw[e1]at h;have j:a.t.kind=Dn:=by simpa[AQ.cj]using h
 rw[Al j]at e;obtain⟨b,l,m,e⟩:=AD e;injection e with f p;subst f p;refine⟨c,st1,t,a,b,i,e1,?_,rfl⟩;rw[e1];have f:D1 s Dn (AQ.ok t a)= .ok () (next s a):=by show AQ.ok () (take s Dn a).2=_;unfold take;rw[Al j]
 rw[f];exact m
theorem qj {n:Nat}{o:AQ Unit}{x:Az}{a:PS}(h:(CZ s n (CA (CC s (n+1) o))).cj Dn=false) (e:vS s n o= .ok x a):
  ∃c st1 t,CC s (n+1) o= .ok c st1/\CZ s n (CA (CC s (n+1) o))= .ok t a/\x= .ite c t false .nil .nil:=by
 unfold vS at e;obtain⟨c,st1,d,e⟩:=AD e;obtain⟨t,b,f,e⟩:=AD e;have e1:CZ s n (CA (CC s (n+1) o))= .ok t b:=by rw[d];exact f
 rw[e1]at h;have i:¬b.t.kind=Dn:=by simpa[AQ.cj]using h
 rw[Ai i]at e;injection e with j k;subst j k;exact⟨c,st1,t,d,e1,rfl⟩
theorem PC {N:Nat->Prop}{w:World}{c:C5}{t e:Az}{o:Bool}{a ve:Value}{cs:List Value}(b:cs=JE c a o ve) (f:Ct N w a t) (d:if o then Ct N w ve e else ve=A6/\e= .nil):AN N w (.ite c t o e .nil) cs:=by
 refine⟨a,ve,[],by rw[b,AO],f,?_,rfl⟩;cases o with
 |true=>exact d
 |false=>exact d
theorem UH {N:Nat->Prop}{w:World}{c:C5}{t:Az}{n:Int}{a:Value}{cs:List Value}(b:cs=Ie n c a) (d:Ct N w a t):AN N w (.rep n c t .nil) cs:=
 ⟨a,[],by rw[b,AO],d,rfl⟩
theorem pi (n:Nat) (dS:Te g gp tl ts pc s n) (h:Gl w g gp tl ts pc r) (hs:AG s r st) (ht:Eb ts (ji s)) (hl:s.length<=1000) (hd:st.depth<=8) (dV:st.loops<=2) (hn:2*left s st<=n) (i:st.t.kind=Jk):
  Calls prog 122 #[.pointer (some ⟨g,0,none⟩)] w (S0 w g gp tl ts pc s r.decls (vS s n (.ok () (next s st)))):=by
 obtain⟨x,hx,dW⟩:=AG.tok hs ht;obtain⟨gt,ct,rfl,h1,h2,h3,h4,h5,t0,t1,t2⟩:=h.at_ hx;have fc:x.is=Jk:=by rw[dW.1,i];decide
 rw[fc]at t0;obtain⟨c0,c1,_⟩:=h.cells;have lQ:=h.row.lt;have ff:=λj=>h.row.frozen j;have h8:=h.tl;have lR:r.k<ts.length:=h3;unfold maxLen at h2;have fd:Kg g w (w.setCell ⟨g,1,none⟩ (.int .i64 ((r.k:Int)+1))):=(Ac.refl _ w).setCell (p:=⟨g,1,none⟩) (.inl rfl) _;have q1:=(ML.dJ (D:=w.heap.size+1) (RH.dJ (C:=w.heap.size) (ty:=155) fd (h.put 1 (.int .i64 ((r.k:Int)+1)) (r':=r.nx) rfl rfl) (by decide) IN (by simp)) [vs Jk,.int .i64 0,.int .i64 0,.bool false,vs [],.int .i64 0,vs [],.int .i64 0,vs [],.int .i64 0,.int .i64 0,.slice none 0 0,.slice none 0 0,.bool false] (by simp)).drewN 1;have fx:Bp s r.nx (AQ.ok () (next s st)):=AG.next hs (by rw[i];decide) (by rw[i];decide);have fy:(next s st).Ok s:=Ce (AG.ok hs);have fB:=D6 (AG.ok hs) i (by decide) (by decide);have fC:=X5 q1.rd fx ht hl (n:=n+1) (show left s (next s st)<n+1 by omega);obtain⟨HT,M,fE,fF,Q1,HF⟩:=zq6 ht fy dS fC q1 (And.intro (show(next s st).depth<=8 from hd) (And.intro (show(next s st).loops<=2 from dV) (show 2*left s (next s st)+1<=n by omega)));generalize iG:r.k=kq at*;generalize iH:ts.length=LL at*;clear hx dW hs fx fy fc i iG iH h q1 ht t1 t2 fd dS fC fB hn hd dV;unfold vs at*;go_enter Kh,Je;go_wp2;go_region;go_wp2_with fail;refine fF.out.mono ?_;rintro e w1 ⟨Y,Z,a1,n1,a2,n2,j0,rfl,fH,fK,r1,fL,N,fM⟩;have p1:=Q1.out.call fH fL;have z:=λj=>p1.bO.frozen j;obtain⟨e0,e1,F,e3,e4,e5,e6,e7,e8,e9,l,m,o,q⟩:=CS p1.bO;have q2:=((((((p1.cy 4 (vs Y)).cy 5 (.int .i64 Z)).cy 6 (vs a1)).cy 7 (.int .i64 n1)).cy 8 (vs a2)).cy 9 (.int .i64 n2)).cy 10 (.int .i64 j0);have u:=fE.out (CA (CC s (n+1) (AQ.ok () (next s st)))) _ r1 q2.rd (by
   cases hc:CC s (n+1) (AQ.ok () (next s st))with
   |bad e p=>rw[hc]at N;exact N
   |ok c st1=>rw[hc]at N;exact N) (λa e=>by
   cases hc:CC s (n+1) (AQ.ok () (next s st))with
   |bad F p=>rw[hc]at e;cases e
   |ok c st1=>
    rw[hc]at e;injection e with _ e;subst e;obtain⟨G,H,f3⟩:=HF.out;obtain⟨d,g2,_⟩:=JH M.out hc;exact⟨by rw[d.depth];exact G,by rw[d.loops];exact H,by omega⟩)
 rw[fM]at u;obtain⟨cw,Q2,fN⟩:=zq3 u q2 fK;clear p1 q2 fH fK fL N fM u fF Q1;unfold vs at*;go_wp2_with fail;clear e0 e1 F e3 e4 e5 e6 e7 e8 e9 l m o q z;refine cw.out.mono ?_;rintro e w2 ⟨I,J,K,rfl,cz,cB,r2,cZ,da,dd⟩;have p2:=Q2.out.call cz cZ;have z:=λj=>p2.bO.frozen j;obtain⟨e0,e1,F,e3,e4,e5,e6,e7,e8,e9,l,m,o,q⟩:=CS p2.bO;have q3:=p2.cy 11 (.slice I J K);have bW:w.heap.size+1<w1.heap.size:=by have:=Q2.out.bO.lt;simp at this;exact this
 have O:∀b a,CZ s n (CA (CC s (n+1) (AQ.ok () (next s st))))= .ok b a->a.bJ=none->Ct (λk=>w.heap.size+1<k) (w2.setCell ⟨w.heap.size+1,11,none⟩ (.slice I J K)) (.slice I J K) b:=λb a e v=>
  ((cB b a e v).mono (λk _ i=>by simp at i;omega)).fD (λk i=>by omega) 11 _
 have A:=FL q3.rd da HT.out (kd:=Dn) (kr:=Dn) (by decide) (by decide) (by decide) (by decide);rw[dd]at A;obtain⟨W,Q3⟩:=zq2 O q3;cases L:(CZ s n (CA (CC s (n+1) (AQ.ok () (next s st))))).cj Dn with
 |true=>
  rw[L]at A;obtain⟨P,B⟩:=zq2 A L;clear p2 q3 cz cB cZ da dd O A L cw Q2 bW;unfold vs at*;go_wp2_with fail;clear e0 e1 F e3 e4 e5 e6 e7 e8 e9 l m o q z;refine P.out.mono ?_;rintro e w3 ⟨rfl,E,r3,Q,R,S⟩;have T:=Q3.out.call E Q;have z:=λj=>T.bO.frozen j;obtain⟨e0,e1,F,e3,e4,e5,e6,e7,e8,e9,l,m,o,q⟩:=CS T.bO;have q4:=T.cy 13 (.bool true);have bX:∀b a,CZ s n (CA (CC s (n+1) (AQ.ok () (next s st))))= .ok b a->a.bJ=none->Ct (λk=>w.heap.size+1<k) (w3.setCell ⟨w.heap.size+1,13,none⟩ (.bool true)) (.slice I J K) b:=λb a e v=>
   ((W.out b a e v).jj E Q3.out.rd.row).fD (λk i=>by omega) 13 _
  have u:=fE.out (D1 s Dn (CZ s n (CA (CC s (n+1) (AQ.ok () (next s st)))))) _ r3 q4.rd R (λa e=>by
   obtain⟨G,H,f3⟩:=HF.out;obtain⟨t1,st1,e1,k1⟩:=AQ.iw B.out;have jd:=e1;rw[e1]at e;obtain⟨c,lU,hc,hb⟩:=AD (show(CC s (n+1) (AQ.ok () (next s st))).bind (λ_ st=>block s n st)= .ok t1 st1 from by
    rw[←jd];cases CC s (n+1) (AQ.ok () (next s st))<;>rfl)
   obtain⟨d,g2,_⟩:=JH M.out hc;obtain⟨b1,_,_,_,_,b6⟩:=DW d.ok (by rw[d.depth];exact G) (by rw[d.loops];exact H) hb;have F:D1 s Dn (AQ.ok t1 st1)= .ok () (next s st1):=by show AQ.ok () (take s Dn st1).2=_;unfold take;rw[Al k1]
   rw[F]at e;injection e with _ e;subst e;have jD:=D6 b1.ok k1 (by decide) (by decide);exact⟨by show st1.depth<=8;rw[b1.depth,d.depth];exact G,by show st1.loops<=2;rw[b1.loops,d.loops];exact H,by omega⟩)
  rw[S]at u;obtain⟨bY,fP,Q4⟩:=zq3 u bX q4;have fR:w.heap.size+1<w3.heap.size:=by have:=Q4.out.bO.lt;simp at this;exact this
  clear T q4 E Q R S u bX P Q3 W;go_wp2_with fail;clear e0 e1 F e3 e4 e5 e6 e7 e8 e9 l m o q z;refine bY.out.mono ?_;rintro e w4 ⟨ua,un,uc,rfl,dH,fT,r4,fU,gH,gI⟩;have p4:=Q4.out.call dH fU;have z:=λj=>p4.bO.frozen j;have y:=λj=>p4.row.frozen j;obtain⟨e0,e1,F,e3,e4,e5,e6,e7,e8,e9,l,m,o,q⟩:=CS p4.bO;obtain⟨f0,G,H,f3,f4,f5,f6,f7,f8,f9,je,jf,jg,jh⟩:=CS p4.row;have jk:¬w.heap.size=w.heap.size+1:=by omega
  have q9:=(p4.cy 12 (.slice ua un uc)).fJ (vs Jk) (.int .i64 0) (.int .i64 0) (.bool false) (vs Y) (.int .i64 Z) (vs a1) (.int .i64 n1) (vs a2) (.int .i64 n2) (.int .i64 j0) (.slice I J K) (.slice ua un uc) (.bool true);have U:∀b a,CZ s n (CA (CC s (n+1) (AQ.ok () (next s st))))= .ok b a->a.bJ=none->Ct (λk=>w.heap.size<=k) (NC (w4.setCell ⟨w.heap.size+1,12,none⟩ (.slice ua un uc)) w.heap.size (vs Jk) (.int .i64 0) (.int .i64 0) (.bool false) (vs Y) (.int .i64 Z) (vs a1) (.int .i64 n1) (vs a2) (.int .i64 n2) (.int .i64 j0) (.slice I J K) (.slice ua un uc) (.bool true)) (.slice I J K) b:=λb a e v=>
   ((((fP.out b a e v).jj dH Q4.out.rd.row).fD (λk i=>by omega) 12 _).fJ (C:=w.heap.size) (λk i=>by omega) _ _ _ _ _ _ _ _ _ _ _ _ _ _).mono (λk _ i=>by omega)
  have iu:∀b a,CZ s n (D1 s Dn (CZ s n (CA (CC s (n+1) (AQ.ok () (next s st))))))= .ok b a->a.bJ=none->Ct (λk=>w.heap.size<=k) (NC (w4.setCell ⟨w.heap.size+1,12,none⟩ (.slice ua un uc)) w.heap.size (vs Jk) (.int .i64 0) (.int .i64 0) (.bool false) (vs Y) (.int .i64 Z) (vs a1) (.int .i64 n1) (vs a2) (.int .i64 n2) (.int .i64 j0) (.slice I J K) (.slice ua un uc) (.bool true)) (.slice ua un uc) b:=λb a e v=>
   (((((fT b a e v).mono (N':=λk=>w.heap.size+1<k) (λk _ i=>by simp at i;omega))).fD (D:=w.heap.size+1) (λk i=>by omega) 12 _).fJ (C:=w.heap.size) (λk i=>by omega) _ _ _ _ _ _ _ _ _ _ _ _ _ _).mono (λk _ i=>by omega)
  obtain⟨dI,jl,Q9,zW16,FD⟩:=zq5 U iu q9 gH gI;clear p4 q9 dH fU gH gI fT U iu bY Q4 fP fR;unfold vs at*;go_wp2;refine AB (AT (cs:=[vs Jk,.int .i64 0,.int .i64 0,.bool false,vs Y,.int .i64 Z,vs a1,.int .i64 n1,vs a2,.int .i64 n2,.int .i64 j0,.slice I J K,.slice ua un uc,.bool true]) Fs JO Hy rfl Q9.out.row) rfl ?_;refine⟨_,rfl,⟨_,_,_,_,_,_,_,_,_,_,_,_,_,_,_,_,_,_,rfl⟩,Q9.out.kg,λx9 a e v=>?_,r4,Q9.out.rd,zW16.out.fS (YR B.out),FD.out⟩;obtain⟨c,st1,tb,f,eb,X,V,u3,rfl⟩:=fv B.out e;have ix:f.bJ=none:=by
   obtain⟨t1,mg,e1,k1⟩:=AQ.iw B.out;rw[V]at e1;injection e1 with _ e1;subst e1;rw[V]at u3;have F:D1 s Dn (AQ.ok tb f)= .ok () (next s f):=by show AQ.ok () (take s Dn f).2=_;unfold take;rw[Al k1]
   rw[F]at u3;obtain⟨G,H,f3⟩:=HF.out;obtain⟨d,g2,_⟩:=JH M.out X;have hb:block s n st1= .ok tb f:=by rw[X]at V;exact V
   obtain⟨b1,_,_,_,_,b6⟩:=DW d.ok (by rw[d.depth];exact G) (by rw[d.loops];exact H) hb;obtain⟨b9,_⟩:=DW (Ce b1.ok) (by show f.depth<=8;rw[b1.depth,d.depth];exact G) (by show f.loops<=2;rw[b1.loops,d.loops];exact H) (show block s n (next s f)= .ok eb a from u3);exact b9.bJ v
  have dN:st1.bJ=none:=by
   obtain⟨G,H,f3⟩:=HF.out;obtain⟨d,g2,_⟩:=JH M.out X;have hb:block s n st1= .ok tb f:=by rw[X]at V;exact V
   exact(DW d.ok (by rw[d.depth];exact G) (by rw[d.loops];exact H) hb).1.bJ ix
  have dO:=fN.out c st1 X dN;exact PC (by unfold JE;rw[←dO];rfl) (dI.out tb f V ix) (jl.out eb a u3 v)
 |false=>
  rw[L]at A;obtain⟨P,B⟩:=zq2 A L;clear p2 q3 cz cB cZ da dd O A L cw Q2 bW;unfold vs at*;go_wp2_with fail;clear e0 e1 F e3 e4 e5 e6 e7 e8 e9 l m o q z;refine P.out.mono ?_;rintro e w3 ⟨rfl,E,r3,Q,R,S⟩;have T:=Q3.out.call E Q;have z:=λj=>T.bO.frozen j;have y:=λj=>T.row.frozen j;obtain⟨e0,e1,F,e3,e4,e5,e6,e7,e8,e9,l,m,o,q⟩:=CS T.bO;obtain⟨f0,G,H,f3,f4,f5,f6,f7,f8,f9,je,jf,jg,jh⟩:=CS T.row;have jk:¬w.heap.size=w.heap.size+1:=by omega
  have q9:=(T.cy 13 (.bool false)).fJ (vs Jk) (.int .i64 0) (.int .i64 0) (.bool false) (vs Y) (.int .i64 Z) (vs a1) (.int .i64 n1) (vs a2) (.int .i64 n2) (.int .i64 j0) (.slice I J K) (.slice none 0 0) (.bool false);have U:∀b a,CZ s n (CA (CC s (n+1) (AQ.ok () (next s st))))= .ok b a->a.bJ=none->Ct (λk=>w.heap.size<=k) (NC (w3.setCell ⟨w.heap.size+1,13,none⟩ (.bool false)) w.heap.size (vs Jk) (.int .i64 0) (.int .i64 0) (.bool false) (vs Y) (.int .i64 Z) (vs a1) (.int .i64 n1) (vs a2) (.int .i64 n2) (.int .i64 j0) (.slice I J K) (.slice none 0 0) (.bool false)) (.slice I J K) b:=λb a e v=>
   ((((W.out b a e v).jj E Q3.out.rd.row).fD (λk i=>by omega) 13 _).fJ (C:=w.heap.size) (λk i=>by omega) _ _ _ _ _ _ _ _ _ _ _ _ _ _).mono (λk _ i=>by omega)
  obtain⟨dI,Q9,zW16,FD⟩:=zq4 U q9 R S;clear T q9 E Q R S U P Q3 W;unfold vs at*;go_wp2;refine AB (AT (cs:=[vs Jk,.int .i64 0,.int .i64 0,.bool false,vs Y,.int .i64 Z,vs a1,.int .i64 n1,vs a2,.int .i64 n2,.int .i64 j0,.slice I J K,.slice none 0 0,.bool false]) Fs JO Hy rfl Q9.out.row) rfl ?_;refine⟨_,rfl,⟨_,_,_,_,_,_,_,_,_,_,_,_,_,_,_,_,_,_,rfl⟩,Q9.out.kg,λx9 a e v=>?_,r3,Q9.out.rd,zW16.out.fS (eA B.out),FD.out⟩;obtain⟨c,st1,tb,X,V,rfl⟩:=qj B.out e;have dN:st1.bJ=none:=by
   obtain⟨G,H,f3⟩:=HF.out;obtain⟨d,g2,_⟩:=JH M.out X;have hb:block s n st1= .ok tb a:=by rw[X]at V;exact V
   exact(DW d.ok (by rw[d.depth];exact G) (by rw[d.loops];exact H) hb).1.bJ v
  have dO:=fN.out c st1 X dN;exact PC (by unfold JE;rw[←dO];rfl) (dI.out tb a V v) ⟨rfl,rfl⟩
end
def N1 (o:AQ Unit):Bool:=match o with
 | .ok _ st=>decide (st.t.kind=Cx/\st.depth=8)
 | .bad _ _=>false
def goB (o:AQ Unit):Bool:=match o with
 | .ok _ st=>!(st.t.kind==DC)
 | .bad _ _=>false
theorem QM {o:AQ Unit}(h:N1 o=true):Nz o=o.ma SG:=by
 cases o with
 |bad e p=>cases h
 |ok a st=>
  have b:st.t.kind=Cx/\st.depth=8:=Cm h;show(if _ then _ else _)=_;rw[Al b];rfl
theorem Tv {o:AQ Unit}(h:N1 o=false):Nz o=o:=by
 cases o with
 |bad e p=>rfl
 |ok a st=>
  have b:¬(st.t.kind=Cx/\st.depth=8):=P3 h;show(if _ then _ else _)=_;rw[Ai b]
theorem wK {o:AQ Unit}(h:goB o=true):∃st,o= .ok () st/\(AQ.ok () st:AQ Unit).cj DC=false:=by
 cases o with
 |bad e p=>cases h
 |ok a st=>
  refine⟨st,rfl,?_⟩;have b:(!(st.t.kind==DC))=true:=h;simpa[AQ.cj]using b
theorem Aat {o:AQ Unit}(h:goB o=false):o.cj DC=true\/∃e p,o= .bad e p:=by
 cases o with
 |bad e p=>exact .inr ⟨e,p,rfl⟩
 |ok a st=>
  have b:(!(st.t.kind==DC))=false:=h;exact .inl (by simpa[AQ.cj]using b)
section
variable {w:World}{g gp:Nat}{tl:Value}{ts:List CN}{pc:List Value}{r:Fh}{s:Ah}{α:Type}
abbrev Fh.dp (r:Fh) (D:Int):Fh:={r with deep:=D}
theorem Bp.nQ {o:AQ α}(h:Bp s r o) (D:Int) (c:∀a st,o= .ok a st->D=((st.depth+1:Nat):Int)):Bp s (r.dp D) (nG o):=by
 cases o with
 |bad e p=>
  have b:DM s r e p:=h;exact⟨b.lt,b.bad,b.fT,b.ne,b.fk⟩
 |ok a st=>
  have b:AG s r st:=h;exact⟨b.pos.of rfl rfl,⟨b.ok.i,b.ok.pos,b.ok.more,b.ok.num,b.ok.name⟩,c a st rfl,b.loops,b.bad,b.bJ,b.decls,b.bI,b.seen,b.f0,b.fk⟩
theorem Bp.oD {o:AQ α}(h:Bp s r o) (D:Int) (c:∀a st,o= .ok a st->D=((st.depth-1:Nat):Int)):Bp s (r.dp D) (zW8 o):=by
 cases o with
 |bad e p=>
  have b:DM s r e p:=h;exact⟨b.lt,b.bad,b.fT,b.ne,b.fk⟩
 |ok a st=>
  have b:AG s r st:=h;exact⟨b.pos.of rfl rfl,⟨b.ok.i,b.ok.pos,b.ok.more,b.ok.num,b.ok.name⟩,c a st rfl,b.loops,b.bad,b.bJ,b.decls,b.bI,b.seen,b.f0,b.fk⟩
theorem T5 (n:Nat) (ht:Eb ts (ji s)) (hl:s.length<=1000) (dW:∀m,m<n+1->ii g gp tl ts pc s m):Te g gp tl ts pc s (n+1):=by
 intro o w r h hs dX;rw[mJ];have bL:=Kn h hs ht (kd:=Cx) (kr:=Cx) (by decide) (by decide);obtain⟨_,_,c2,_⟩:=h.cells;obtain⟨HI,HR,HS,fc,HT,iH⟩:=zq6 bL h hs dX ht dW;clear bL h hs dX ht dW;unfold vs at*;go_enter func88,ntmps88;go_upto_region 1 with fail;go_cut [12] (λiI wx=>iI= .bool (N1 o)/\∃n1,wx=w.drewN n1)
 case first=>
  cases o with
  |bad e p=>
   go_wp2_with fail;refine HI.out.mono ?_;rintro x w1 ⟨rfl,n1,rfl⟩;go_wp2;go_meet;exact⟨rfl,n1,rfl⟩
  |ok a st=>
   have v:=AG.deep HS.out;rw[v]at c2;by_cases hk:st.t.kind=Cx
   ·have Y:(AQ.ok a st).cj Cx=true:=by simpa[AQ.cj]using hk
    have hi:=HI.out;rw[Y]at hi;have bX:=Aa hi;clear hi;by_cases h8:st.depth=8
    ·have y:=Aa (show N1 (.ok a st)=true from D0 ⟨hk,h8⟩);rw[h8]at c2;clear hk h8 v Y;go_wp2_with fail;refine bX.out.mono ?_;rintro x w1 ⟨rfl,n1,rfl⟩;go_wp2;go_meet;exact⟨by rw[y.out],n1,rfl⟩
    ·have y:=Aa (show N1 (.ok a st)=false from B9 (λx=>h8 x.2));have e8:((st.depth:Int)==8)=false:=by simp;omega
     clear hk h8 v Y;go_wp2_with fail;refine bX.out.mono ?_;rintro x w1 ⟨rfl,n1,rfl⟩;go_wp2;go_meet;exact⟨by rw[y.out],n1,rfl⟩
   ·have Y:(AQ.ok a st).cj Cx=false:=by simpa[AQ.cj]using hk
    have hi:=HI.out;rw[Y]at hi;obtain⟨bX,y⟩:=zq2 hi (show N1 (.ok a st)=false from B9 (λx=>hk x.1));clear hi hk v Y;go_wp2_with fail;refine bX.out.mono ?_;rintro x w1 ⟨rfl,n1,rfl⟩;go_wp2;go_meet;exact⟨by rw[y.out],n1,rfl⟩
 case rest=>
  obtain⟨rfl,n1,rfl⟩:=hcut;clear c2 HI;go_upto_if 12 with fail;go_cut [] (λwx=>Kg g w wx/\∃r1,Gl wx g gp tl ts pc r1/\Bp s r1 (Nz o)/\r1.decls=r.decls)
  case first=>
   cases y:N1 o with
   |true=>
    have hf:=Np (HR.out.drewN n1) HS.out HT.out (e:=3) (by decide);obtain⟨HF,HD⟩:=zq2 hf y;clear hf y;go_wp2_with fail;refine HF.out.mono ?_;rintro x w1 ⟨rfl,bM,r1,h1,bN,bO⟩;have F:=Aa (And.intro bM (And.intro h1 (And.intro bN bO)));clear bM h1 bN bO;go_wp2;go_meet;obtain⟨f1,f2,f3,f4⟩:=F.out;exact⟨Kg.trans (zAr.drewN n1) f1,r1,f2,by rw[QM HD.out];exact f3,f4⟩
   |false=>
    have HD:=Aa y;clear y;go_wp2;go_meet;exact⟨zAr.drewN n1,r,HR.out.drewN n1,by rw[Tv HD.out];exact HS.out,rfl⟩
  case rest=>
   obtain⟨bM,r1,h1,bN,bO⟩:=hcut;have z:=ET h1 bN HT.out (kd:=Cx) (kr:=Cx) (by decide) (by decide) (by decide) (by decide);obtain⟨bP,K1,fy⟩:=zq3 z bM bO;clear z bM h1 bN bO;unfold vs at*;go_wp2_with fail;refine bP.out.mono ?_;rintro x w2 ⟨x2,rfl,A,_,r2,h2,i,bQ⟩;obtain⟨_,_,c2,_⟩:=h2.cells;have f2:=h2.row.frozen 2;obtain⟨K2,H2,dd,dF⟩:=zq4 (Kg.trans K1.out A) h2 i (bQ.trans fy.out);clear A h2 i bQ bP K1 fy;unfold EG vs;go_upto_region 4 with fail;go_cut [] (λwx=>Kg g w wx/\∃r3,Gl wx g gp tl ts pc r3/\Bp s r3 (nG (BE s Cx (Nz o)))/\r3.decls=r.decls)
   case first=>
    cases B:BE s Cx (Nz o)with
    |bad e p=>
     have i:=dd.out;rw[B]at i;obtain⟨dG,HW⟩:=zq2 i B;clear i B;go_wp2;go_meet;exact⟨K2.out.setCell (p:=⟨g,2,none⟩) (.inl rfl) _,r2.dp (wrap64 (r2.deep+1)),H2.out.put 2 _ rfl rfl,by rw[HW.out];exact dG.out.nQ _ (λa st e=>by cases e),dF.out⟩
    |ok t st=>
     have i:=dd.out;rw[B]at i;have v:=AG.deep i;have fD:st.depth<=8:=by
      cases o with
      |bad e p=>cases B
      |ok a d=>
       have h9:=(fc.out d rfl).1;cases y:N1 (.ok a d)with
       |true=>rw[QM y]at B;cases B
       |false=>
        rw[Tv y]at B;obtain⟨_,_,e⟩:=BH (show want s Cx d= .ok t st from B);rw[e];exact h9
     rw[v]at c2;obtain⟨dG,HW⟩:=zq2 i B;clear i B v;go_wp2;go_meet;exact⟨K2.out.setCell (p:=⟨g,2,none⟩) (.inl rfl) _,r2.dp ((st.depth:Int)+1),H2.out.put 2 _ rfl rfl,by rw[HW.out];exact dG.out.nQ _ (λa st' e=>by injection e with _ e;rw[←e];rfl),dF.out⟩
   case rest=>
    obtain⟨C,r3,h3,E,fE⟩:=hcut;clear c2 f2 K2 H2 dd dF;have T:∃(m:Nat) (U:AQ Unit) (r1:Fh) (done:Az) (j:Nat) (cs:List Value) (a:Option Addr) (c:Nat),(Value.slice none 0 0)= .slice a j c/\zD g gp tl ts pc s r.decls w wc n (nG (BE s Cx (Nz o))) (Df s (nG (BE s Cx (Nz o)))) m U r1 done j cs a c:=by
     have jh:=VW (s:=s) (nG (BE s Cx (Nz o)));have hf:∀st,nG (BE s Cx (Nz o))= .ok () st->2*left s st+2<=n/\st.depth<=8/\st.loops<=2/\1<=st.depth:=by
      intro st e;cases o with
      |bad e2 p=>cases e
      |ok a d=>
       obtain⟨h9,mz,mG⟩:=fc.out d rfl;cases y:N1 (.ok a d)with
       |true=>rw[QM y]at e;cases e
       |false=>
        rw[Tv y]at e;have z:¬(d.t.kind=Cx/\d.depth=8):=P3 y;obtain⟨t,st1,e1,e2⟩:=AD (show(want s Cx d).bind (λ_ st=>AQ.ok () {st with depth:=st.depth+1})= .ok () st from e);obtain⟨k1,_,e3⟩:=BH e1;injection e2 with _ e2;have nw:=D6 (AG.ok HS.out) k1 (by decide) (by decide);subst e3;have el:left s st=left s (next s d):=by rw[←e2];rfl
        have ed:st.depth=d.depth+1:=by rw[←e2];rfl
        have eo:st.loops=d.loops:=by rw[←e2];rfl
        refine⟨by omega,?_,by omega,by omega⟩;rw[ed];have:d.depth≠8:=λh=>z ⟨k1,h⟩;omega
     refine⟨n-1,nG (BE s Cx (Nz o)),r3,.nil,0,[],none,0,rfl,C,h3,E,fE,?_,λst e=>?_,λst e=>?_,Ab _,by omega,Sl.qS _ wc _ _,λst _ _=>⟨rfl,rfl⟩⟩
     ·cases ho:nG (BE s Cx (Nz o))with
      |bad e p=>rfl
      |ok a st=>
       obtain⟨f1,_⟩:=hf st ho;have e9:n-1+1=n:=by omega
       rw[e9];cases KJ s n (AQ.ok a st)<;>rfl
     ·obtain⟨f1,f2,f3,f4⟩:=hf st e;exact⟨by omega,f2,f3,f4⟩
     ·obtain⟨f1,_⟩:=hf st e;omega
    have V:=Aa T;clear T C h3 E fE;generalize fG:nG (BE s Cx (Nz o))=o0 at*;have fH:=Aa fG;clear fG;obtain⟨i0,jl,jm,jn,jo⟩:=Bg lL;go_wp2_with fail
    go_loopg [3] (Df s o0) (λkk v3 wr=>∃(m:Nat) (U:AQ Unit) (r1:Fh) (done:Az) (j:Nat) (cs:List Value) (a:Option Addr) (c:Nat),v3= .slice a j c/\zD g gp tl ts pc s r.decls w wr n o0 kk m U r1 done j cs a c)
    case atStart=>exact V.out
    case round=>
     clear V;obtain⟨m,U,r1,done,j,cs,a,c,rfl,hL⟩:=hrel;obtain⟨_,_,_,_,c4,_⟩:=hL.rd.cells;have bL:=Kn hL.rd hL.fR HT.out (kd:=DC) (kr:=DC) (by decide) (by decide);obtain⟨HI,HL⟩:=zq2 bL hL;clear bL hL;unfold vs at*;go_upto_region 6 with fail;go_cut [33] (λju wx=>ju= .bool (goB U)/\∃n1,wx=wr.drewN n1)
     case first=>
      cases U with
      |bad e p=>
       have hb:r1.bad≠0:=by rw[DM.bad HL.out.fR];exact DM.ne HL.out.fR
       have e1:((r1.bad:Int)==0)=false:=by simpa using hb
       have e2:decide ((r1.bad:Int)=0)=false:=by simpa using hb
       clear hb;go_wp2;go_meet;exact⟨rfl,0,rfl⟩
      |ok a1 st=>
       have hb:(r1.bad:Int)=0:=by rw[AG.bad HL.out.fR];rfl
       rw[hb]at c4;have jD:=Aa (show goB (.ok a1 st)=!((AQ.ok a1 st).cj DC)from rfl);generalize (AQ.ok a1 st).cj DC=bb at*;clear hb;go_wp2_with fail;refine HI.out.mono ?_;rintro x w1 ⟨rfl,n1,rfl⟩;go_wp2;go_meet;exact⟨by rw[jD.out],n1,rfl⟩
     case rest=>
      obtain⟨rfl,n1,rfl⟩:=hcut;clear c4 HI;have q:=HL.out.drewN n1;have f:=Aa q;clear HL;generalize wr.drewN n1=wq at*;cases bY:goB U with
      |true=>
       obtain⟨st,rfl,hc⟩:=wK bY;obtain⟨m,rfl⟩:∃x,m=x+1:=⟨m-1,by have:=(q.fuel st rfl).1;omega⟩;obtain⟨q1,q2,q3,_⟩:=q.fuel st rfl;have bS:=iH.out (m+1) (by have:=q.mn st rfl;omega) st wq r1 q.rd q.fR q2 q3 (by omega);rw[q.decls]at bS;obtain⟨cw,HC⟩:=zq2 bS hc;clear bS hc bY q q1 q2 q3;go_wp2_with fail;refine cw.out.mono ?_;rintro x w2 ⟨L,rfl,⟨k_,n_,m_,t_,G,H,I,J,K,M,j_,N,O,P,Q,R,S,o_,jE⟩,A,hx,r2,h2,i,bQ⟩;subst jE;have fD:2<=maxLen:=by unfold maxLen;omega
       have fN:=f.out.len;have fO:0<left s st:=Pi (AG.ok f.out.fR);have hj:j+1<=1002:=by have:Df s (AQ.ok () st:AQ Unit)=left s st:=rfl;omega
       have fP:Sl (λb=>w.heap.size<=b) w2 155 14 (.slice a j c) j cs:=f.out.sl.kept A (λb hb=>by
        rintro(bT|bT)
        ·exact f.out.sl.bK f.out.rd.row (by decide) (bT▸hb)
        ·have:=f.out.sl.lt hb;omega)
       obtain⟨fS,fT⟩:=zp2 A.size f.out.kg.size;obtain⟨nI,cy⟩:∃L:List Value,[vs k_,.int .i64 n_,.int .i64 m_,.bool t_,vs G,.int .i64 H,vs I,.int .i64 J,vs K,.int .i64 M,.int .i64 j_,.slice N O P,.slice Q R S,.bool o_]=L:=⟨_,rfl⟩;have fU:=fP.alloc (.cells #[vs k_,.int .i64 n_,.int .i64 m_,.bool t_,vs G,.int .i64 H,vs I,.int .i64 J,vs K,.int .i64 M,.int .i64 j_,.slice N O P,.slice Q R S,.bool o_] 155);have q1:w.heap.size<=(w2.alloc (.cells #[vs k_,.int .i64 n_,.int .i64 m_,.bool t_,vs G,.int .i64 H,vs I,.int .i64 J,vs K,.int .i64 M,.int .i64 j_,.slice N O P,.slice Q R S,.bool o_] 155)).heap.size:=by simp;omega
       have q2:=C9 w2 [vs k_,.int .i64 n_,.int .i64 m_,.bool t_,vs G,.int .i64 H,vs I,.int .i64 J,vs K,.int .i64 M,.int .i64 j_,.slice N O P,.slice Q R S,.bool o_] 155;have q3:∀u∈ [vs k_,.int .i64 n_,.int .i64 m_,.bool t_,vs G,.int .i64 H,vs I,.int .i64 J,vs K,.int .i64 M,.int .i64 j_,.slice N O P,.slice Q R S,.bool o_],u.oneCell'=true:=by intro u hu;simp at hu;rcases hu with rfl|rfl|rfl|rfl|rfl|rfl|rfl|rfl|rfl|rfl|rfl|rfl|rfl|rfl<;>rfl
       have q4:j+1<=maxLen:=by unfold maxLen;omega
       have q5:(j+1)*176<=140737488355328:=by omega
       have dO:Ac (λb=>w2.heap.size<=b) w2 (w2.alloc (.cells #[vs k_,.int .i64 n_,.int .i64 m_,.bool t_,vs G,.int .i64 H,vs I,.int .i64 J,vs K,.int .i64 M,.int .i64 j_,.slice N O P,.slice Q R S,.bool o_] 155)):=zAr.alloc (Ab _) _;have bU:=λ(w3:World) (g2 c2:Nat) E C W=>f.out.step (w3:=w3) (g2:=g2) (c2:=c2) HC.out A h2 i bQ hx rfl dO dO.size E C W;obtain⟨dP,jF,Q1,Q2,Q3,mh⟩:=zq6 bU fU q1 q2 q3 cy;clear bU fU q1 q2 q3 cy fP dO hx h2 i bQ A fS fT fN fO cw fD;unfold vs at*;go_wp2_with (at_builtin;go_must (refine DA underlying83 jl jm jn jo rfl (by decide) jF.out Q1.out rfl _ _ rfl rfl ⟨w2.heap.size,0,none⟩ 1 1 [.string ⟨k_.toArray⟩,.int .i64 n_,.int .i64 m_,.bool t_,.string ⟨G.toArray⟩,.int .i64 H,.string ⟨I.toArray⟩,.int .i64 J,.string ⟨K.toArray⟩,.int .i64 M,.int .i64 j_,.slice N O P,.slice Q R S,.bool o_] rfl rfl Q2.out Q3.out q4 q5 (Ci _) ?_;intro g2 gH w3 E C W;have jG:=Aa E;have jM:=Aa C;have gI:=Aa W;clear E C W));have l:=dP.out w3 g2 gH jG.out jM.out gI.out;obtain⟨nO,nP⟩:=zp2 f.out.ghost l.1;have X:=Aa l.2;clear l;go_roundg (Df s ((stmt s (m+1) st).bind λ_ st=>AQ.ok () st))
       case measure=>omega
       case rel=>
        obtain⟨dQ,l⟩:=X.out;exact⟨m,_,r2,dQ,j+1,_,_,_,rfl,l⟩
      |false=>
       have ik:=Aat bY;have z:=ET q.rd q.fR HT.out (kd:=DC) (kr:=DC) (by decide) (by decide) (by decide) (by decide);rw[q.decls]at z;obtain⟨bP,jR⟩:=zq2 z ik;clear z ik bY q;unfold vs at*;go_wp2_with fail;refine bP.out.mono ?_;rintro x w4 ⟨x4,rfl,bZ,_,r4,h4,Z,iu⟩;have hv:∀st,U= .ok () st->st.bJ=none->Ct (λk=>w.heap.size<=k) w4 (.slice a j c) done:=by
        intro st e B;obtain⟨b1,b2⟩:=f.out.nz st e B;have kG:Sl (λk=>w.heap.size<=k) w4 155 14 (.slice a j c) j cs:=f.out.sl.kept bZ (λb hb=>by
         rintro(bT|bT)
         ·exact f.out.sl.bK f.out.rd.row (by decide) (bT▸hb)
         ·have:=f.out.sl.lt hb;omega)
        refine⟨cs,by rw[b1];exact kG,AN.kept (w:=wq) (λk lm hk hr=>In bZ hr.lt (hr.cZ f.out.rd.row (by decide))) _ _ (AN.mono (λk _ hN=>hN.1) _ _ b2)⟩
       obtain⟨_,_,c2,_⟩:=h4.cells;have f2:=h4.row.frozen 2;obtain⟨K4,H4,ix,lP,HV⟩:=zq5 (Kg.trans f.out.kg bZ) h4 Z iu hv;clear bZ h4 Z iu bP hv;unfold EG vs;have l:∀(D:Int),(∀t st,BE s DC U= .ok t st->D=((st.depth-1:Nat):Int))->zE w g gp tl ts pc s r.decls ((KJ s n o0).bind λb st=>.ok b (next s {st with depth:=st.depth-1})) (.returned (.slice a j c)) (w4.setCell ⟨g,2,none⟩ (.int .i64 D)):=by
        intro D y;have iy:Kg g w4 (w4.setCell ⟨g,2,none⟩ (.int .i64 D)):=(Ac.refl _ w4).setCell (p:=⟨g,2,none⟩) (.inl rfl) _;have ci:=ix.out.oD D y;rw[f.out.eq,YT m jR.out done];refine⟨a,j,c,rfl,Kg.trans K4.out iy,λb st e B=>?_,r4.dp D,H4.out.put 2 _ rfl rfl,?_,lP.out⟩
        ·obtain⟨_,st1,e1,e2⟩:=AD e;injection e2 with e2 e3;obtain⟨t2,lQ,e4,e5⟩:=AD e1;injection e5 with _ e5;have lT:lQ.bJ=none:=by rw[←B,←e3,←e5]
         cases ho:U with
         |bad e p=>rw[ho]at e4;cases e4
         |ok a3 iz=>
          have lU:=Vd (s:=s) ho e4 lT;subst e2;exact(HV.out iz ho lU).kept (λk lm hk hr=>In iy hr.lt (hr.cZ H4.out.row (by decide)))
        ·cases hq:zW8 (BE s DC U)with
         |bad e p=>rw[hq]at ci;exact ci
         |ok a3 iz=>rw[hq]at ci;exact ci
       have X:=Aa l;clear l;cases hq:BE s DC U with
       |bad e p=>
        have HQ:=Aa hq;clear hq;go_wp2;go_ret;rw[fH.out];exact X.out _ (λt st e=>by rw[HQ.out]at e;cases e)
       |ok t st=>
        have Z:=ix.out;rw[hq]at Z;have dR:1<=st.depth:=by
         cases U with
         |bad e p=>cases hq
         |ok a0 d=>
          obtain⟨_,_,e⟩:=BH (show want s DC d= .ok t st from hq);rw[e];exact(f.out.fuel d rfl).2.2.2
        have ml:st.depth<=8:=by
         cases U with
         |bad e p=>cases hq
         |ok a0 d=>
          obtain⟨_,_,e⟩:=BH (show want s DC d= .ok t st from hq);rw[e];exact(f.out.fuel d rfl).2.1
        have lX:=Aa dR;have v:=AG.deep Z;rw[v]at c2;have HQ:=Aa hq;clear hq Z v;go_wp2;go_ret;rw[fH.out];exact X.out ((st.depth:Int)-1) (λt' st' e=>by rw[HQ.out]at e;injection e with _ e;rw[←e];have:=lX.out;omega)
end
def J7 {α:Type} (o:AQ α):AQ Unit:=o.bind λ_ st=>.ok () {st with loops:=st.loops+1}
def PR {α:Type} (o:AQ α):AQ Unit:=o.bind λ_ st=>.ok () {st with loops:=st.loops-1}
def pq (s:Ah) (n:Nat) (o:AQ Unit):AQ Az:=
 (Hg s 1 50 o).bind λk st=>(want s Cv st).bind λ_ st=>(cond s (n+1) st).bind λc st=>
  (block s n {st with loops:=st.loops+1}).bind λb st=>.ok (.rep k c b .nil) {st with loops:=st.loops-1}
abbrev Fh.lp (r:Fh) (D:Int):Fh:={r with loops:=D}
section
variable {s:Ah}{n:Nat}{o:AQ Unit}
theorem oL:CA (pq s n o)=CA (PR (CZ s n (J7 (CC s (n+1) (BE s Cv (Hg s 1 50 o)))))):=by
 unfold pq;cases Hg s 1 50 o with
 |bad e p=>rfl
 |ok k st1=>
  show CA ((want s Cv st1).bind _)=CA (PR (CZ s n (J7 (CC s (n+1) (want s Cv st1)))));cases want s Cv st1 with
  |bad e p=>rfl
  |ok t a=>
   show CA ((cond s (n+1) a).bind _)=CA (PR (CZ s n (J7 (cond s (n+1) a))));cases cond s (n+1) a with
   |bad e p=>rfl
   |ok c b=>
    show CA ((block s n _).bind _)=CA (PR (block s n _));cases block s n {b with loops:=b.loops+1}<;>rfl
theorem zW6 {x:Az}{h:PS}(e:pq s n o= .ok x h):∃k st1 t d c f b a,Hg s 1 50 o= .ok k st1/\BE s Cv (Hg s 1 50 o)= .ok t d/\CC s (n+1) (BE s Cv (Hg s 1 50 o))= .ok c f/\
  CZ s n (J7 (CC s (n+1) (BE s Cv (Hg s 1 50 o))))= .ok b a/\x= .rep k c b .nil/\h={a with loops:=a.loops-1}:=by
 unfold pq at e;obtain⟨k,st1,i,e⟩:=AD e;obtain⟨t,d,m,e⟩:=AD e;obtain⟨c,f,p,e⟩:=AD e;obtain⟨b,a,q,e⟩:=AD e;injection e with e1 u;have j:BE s Cv (Hg s 1 50 o)= .ok t d:=by rw[i];exact m
 have l:CC s (n+1) (BE s Cv (Hg s 1 50 o))= .ok c f:=by rw[j];exact p
 exact⟨k,st1,t,d,c,f,b,a,i,j,l,by rw[l];exact q,e1.symm,u.symm⟩
theorem uZ {a b:PS}{c:C5}(h:a.Ok s) (e:CC s (n+1) (BE s Cv (Hg s 1 50 (.ok () a)))= .ok c b):Gn s a b/\left s b<left s a:=by obtain⟨t,d,l,m⟩:=AD e;obtain⟨k,st1,p,i⟩:=AD l;obtain⟨j,l1,_⟩:=GB h (show number s 1 50 a= .ok k st1 from p);obtain⟨_,_,q⟩:=BH (show want s Cv st1= .ok t d from i);have f:=Gn.next j.ok;rw[←q]at f;obtain⟨u,v,_⟩:=JH f.ok (show cond s (n+1) d= .ok c b from m);exact⟨(j.trans f).trans u,by have:=f.left;omega⟩
theorem Bp.mc {α:Type}{o:AQ α}{r:Fh}(h:Bp s r o) (D:Int) (c:∀a st,o= .ok a st->D=((st.loops+1:Nat):Int)):Bp s (r.lp D) (J7 o):=by
 cases o with
 |bad e p=>
  have b:DM s r e p:=h;exact⟨b.lt,b.bad,b.fT,b.ne,b.fk⟩
 |ok a st=>
  have b:AG s r st:=h;exact⟨b.pos.of rfl rfl,⟨b.ok.i,b.ok.pos,b.ok.more,b.ok.num,b.ok.name⟩,b.deep,c a st rfl,b.bad,b.bJ,b.decls,b.bI,b.seen,b.f0,b.fk⟩
theorem Bp.l9 {α:Type}{o:AQ α}{r:Fh}(h:Bp s r o) (D:Int) (c:∀a st,o= .ok a st->D=((st.loops-1:Nat):Int)):Bp s (r.lp D) (PR o):=by
 cases o with
 |bad e p=>
  have b:DM s r e p:=h;exact⟨b.lt,b.bad,b.fT,b.ne,b.fk⟩
 |ok a st=>
  have b:AG s r st:=h;exact⟨b.pos.of rfl rfl,⟨b.ok.i,b.ok.pos,b.ok.more,b.ok.num,b.ok.name⟩,b.deep,c a st rfl,b.bad,b.bJ,b.decls,b.bI,b.seen,b.f0,b.fk⟩
end
section
variable {w:World}{g gp:Nat}{tl:Value}{ts:List CN}{pc:List Value}{r:Fh}{s:Ah}{st:PS}
theorem Vz (h:Gl w g gp tl ts pc r) (q:AG s r st) (u:Eb ts (ji s)) (F:st.t.kind=Bf) (b:st.loops=2):
  Calls prog 122 #[.pointer (some ⟨g,0,none⟩)] w (S0 w g gp tl ts pc s r.decls (fail SG st)):=by
 obtain⟨x,G,c⟩:=AG.tok q u;obtain⟨gt,ct,rfl,h1,L,M,h4,h5,N,O,P⟩:=h.at_ G;have d:x.is=Bf:=by rw[c.1,F];decide
 rw[d]at N;obtain⟨c0,c1,_,c3,_⟩:=h.cells;have Q:=h.row.lt;have ff:=λj=>h.row.frozen j;have h8:=h.tl;have R:r.k<ts.length:=M;unfold maxLen at L;have f:=AG.loops q;rw[f,b]at c3;have v:=(ML.dJ (D:=w.heap.size+1) (RH.dJ (C:=w.heap.size) (ty:=155) (Ac.refl _ w) h (by decide) IN rfl) [vs Bf,.int .i64 0,.int .i64 0,.bool false,vs [],.int .i64 0,vs [],.int .i64 0,vs [],.int .i64 0,.int .i64 0,.slice none 0 0,.slice none 0 0,.bool false] (by simp)).drewN 1;have H:=Np v.rd (show Bp s r (AQ.ok () st)from q) u (e:=3) (by decide);obtain⟨I,J⟩:=zq2 H v;generalize A:r.k=kq at*;generalize B:ts.length=LL at*;clear G c q d F A B h v u O P H f b;unfold vs at*;go_enter Kh,Je;go_wp2;go_region;go_wp2_with fail;refine I.out.mono ?_;rintro e w1 ⟨rfl,i,r1,l,m,p⟩;have a:=J.out.call i l;have z:=λj=>a.bO.frozen j;have y:=λj=>a.row.frozen j;obtain⟨e0,e1,e2,e3,e4,e5,e6,e7,e8,e9,S,T,U,V⟩:=CS a.bO;obtain⟨f0,f1,f2,f3,f4,f5,f6,f7,f8,f9,W,X,Y,Z⟩:=CS a.row;have be:¬w.heap.size=w.heap.size+1:=by omega
 have K:=a.fJ (vs Bf) (.int .i64 0) (.int .i64 0) (.bool false) (vs []) (.int .i64 0) (vs []) (.int .i64 0) (vs []) (.int .i64 0) (.int .i64 0) (.slice none 0 0) (.slice none 0 0) (.bool false);obtain⟨E,zW16,FD⟩:=zq3 K m p;clear a K i l m p I J;unfold vs at*;go_wp2;refine AB (AT (cs:=[vs Bf,.int .i64 0,.int .i64 0,.bool false,vs [],.int .i64 0,vs [],.int .i64 0,vs [],.int .i64 0,.int .i64 0,.slice none 0 0,.slice none 0 0,.bool false]) Fs JO Hy rfl E.out.row) rfl ?_;exact⟨_,rfl,⟨_,_,_,_,_,_,_,_,_,_,_,_,_,_,_,_,_,_,rfl⟩,E.out.kg,λx9 bK e hw=>(by cases e),r1,E.out.rd,zW16.out,FD.out⟩
theorem eQ (h:Gl w g gp tl ts pc r) (v:AG s r st) (A:Eb ts (ji s)) (n1:st.t.kind≠KP) (I:st.t.kind≠Et) (n3:st.t.kind≠Io) (J:st.t.kind≠Dq) (K:st.t.kind≠Mo) (L:st.t.kind≠Mq) (M:st.t.kind≠Ja) (N:st.t.kind≠Jb) (O:st.t.kind≠Jk) (f:st.t.kind≠Bf):
  Calls prog 122 #[.pointer (some ⟨g,0,none⟩)] w (S0 w g gp tl ts pc s r.decls (fail D9 st)):=by
 obtain⟨x,P,i⟩:=AG.tok v A;obtain⟨gt,ct,rfl,h1,h2,h3,h4,h5,t0,t1,t2⟩:=h.at_ P;have c:∀k,k≠KQ->GU k=k->st.t.kind≠k->(x.is==k)=false:=λk hk B hn=>by have:=ba (a:=st.t.kind) (b:=k) v.pos.ot hk;rw[i.1,show(GU st.t.kind==k)=(GU st.t.kind==GU k) by rw[B],this];simpa using hn
 have e1:=c KP (by decide) (by decide) n1;have Q:=c Et (by decide) (by decide) I;have R:=c Io (by decide) (by decide) n3;have S:=c Dq (by decide) (by decide) J;have T:=c Mo (by decide) (by decide) K;have U:=c Mq (by decide) (by decide) L;have V:=c Ja (by decide) (by decide) M;have X:=c Jb (by decide) (by decide) N;have Y:=c Jk (by decide) (by decide) O;have l:=c Bf (by decide) (by decide) f;obtain⟨c0,c1,_⟩:=h.cells;have bR:=h.row.lt;have ff:=λj=>h.row.frozen j;have h8:=h.tl;have bS:r.k<ts.length:=h3;unfold maxLen at h2;have E:=(ML.dJ (D:=w.heap.size+1) (RH.dJ (C:=w.heap.size) (ty:=155) (Ac.refl _ w) h (by decide) IN rfl) [vs x.is,.int .i64 0,.int .i64 0,.bool false,vs [],.int .i64 0,vs [],.int .i64 0,vs [],.int .i64 0,.int .i64 0,.slice none 0 0,.slice none 0 0,.bool false] (by simp)).drewN 1;have Z:=Np E.rd (show Bp s r (AQ.ok () st)from v) A (e:=2) (by decide);obtain⟨HF,Q1⟩:=zq2 Z E;generalize F:r.k=kq at*;generalize G:ts.length=LL at*;clear P i v F G h E A t1 t2 Z c n1 I n3 J K L M N O f;generalize x.is=W at*;unfold vs at*;go_enter Kh,Je;go_wp2;go_region;go_wp2_with fail;clear e1 Q R S T U V X Y l;refine HF.out.mono ?_;rintro e w1 ⟨rfl,m,r1,p,q,u⟩;have d:=Q1.out.call m p;have z:=λj=>d.bO.frozen j;have y:=λj=>d.row.frozen j;obtain⟨e0,e1,Q,R,S,T,U,V,X,Y,l,bT,bU,bV⟩:=CS d.bO;obtain⟨f0,f1,f2,f3,f4,f5,f6,f7,f8,f9,bW,bX,bY,bZ⟩:=CS d.row;have ci:¬w.heap.size=w.heap.size+1:=by omega
 have q9:=d.fJ (vs W) (.int .i64 0) (.int .i64 0) (.bool false) (vs []) (.int .i64 0) (vs []) (.int .i64 0) (vs []) (.int .i64 0) (.int .i64 0) (.slice none 0 0) (.slice none 0 0) (.bool false);obtain⟨H,zW16,FD⟩:=zq3 q9 q u;clear d q9 m p q u HF Q1;unfold vs at*;go_wp2;refine AB (AT (cs:=[vs W,.int .i64 0,.int .i64 0,.bool false,vs [],.int .i64 0,vs [],.int .i64 0,vs [],.int .i64 0,.int .i64 0,.slice none 0 0,.slice none 0 0,.bool false]) Fs JO Hy rfl H.out.row) rfl ?_;exact⟨_,rfl,⟨_,_,_,_,_,_,_,_,_,_,_,_,_,_,_,_,_,_,rfl⟩,H.out.kg,λx9 cw e hw=>(by cases e),r1,H.out.rd,zW16.out,FD.out⟩
theorem kv (n:Nat) (dL:Te g gp tl ts pc s n) (h:Gl w g gp tl ts pc r) (hs:AG s r st) (ht:Eb ts (ji s)) (hl:s.length<=1000) (hd:st.depth<=8) (dN:st.loops<2) (hn:2*left s st<=n) (M:st.t.kind=Bf):
  Calls prog 122 #[.pointer (some ⟨g,0,none⟩)] w (S0 w g gp tl ts pc s r.decls (pq s n (.ok () (next s st)))):=by
 obtain⟨x,hx,dO⟩:=AG.tok hs ht;obtain⟨gt,ct,rfl,h1,h2,h3,h4,h5,t0,t1,t2⟩:=h.at_ hx;have dP:x.is=Bf:=by rw[dO.1,M];decide
 rw[dP]at t0;obtain⟨c0,c1,_,c3,_⟩:=h.cells;have nz:=h.row.lt;have ff:=λj=>h.row.frozen j;have h8:=h.tl;have nA:r.k<ts.length:=h3;unfold maxLen at h2;have dQ:=AG.loops hs;rw[dQ]at c3;have jf:((st.loops:Int)==2)=false:=by simp;omega
 have jg:decide ((st.loops:Int)=2)=false:=by simp;omega
 have dR:Kg g w (w.setCell ⟨g,1,none⟩ (.int .i64 ((r.k:Int)+1))):=(Ac.refl _ w).setCell (p:=⟨g,1,none⟩) (.inl rfl) _;have q1:=(ML.dJ (D:=w.heap.size+1) (RH.dJ (C:=w.heap.size) (ty:=155) dR (h.put 1 (.int .i64 ((r.k:Int)+1)) (r':=r.nx) rfl rfl) (by decide) IN (by simp)) [vs Bf,.int .i64 0,.int .i64 0,.bool false,vs [],.int .i64 0,vs [],.int .i64 0,vs [],.int .i64 0,.int .i64 0,.slice none 0 0,.slice none 0 0,.bool false] (by simp)).drewN 1;have dS:Bp s r.nx (AQ.ok () (next s st)):=AG.next hs (by rw[M];decide) (by rw[M];decide);have N:(next s st).Ok s:=Ce (AG.ok hs);have dU:=D6 (AG.ok hs) M (by decide) (by decide);have P:=Kw q1.rd dS ht 1 50;have Q:∀c d,CC s (n+1) (BE s Cv (Hg s 1 50 (AQ.ok () (next s st))))= .ok c d->Gn s (next s st) d/\2*left s d+1<=n:=λc d e=>by obtain⟨a,b⟩:=uZ N e;exact⟨a,by omega⟩
 have B:=Aa Q;clear Q;have dV:∀k st1,Hg s 1 50 (AQ.ok () (next s st))= .ok k st1->Gn s (next s st) st1/\2*left s st1+1<=n:=λk st1 e=>by obtain⟨a,b,_⟩:=GB N (show number s 1 50 (next s st)= .ok k st1 from e);exact⟨a,by omega⟩
 obtain⟨HT,nC,jk,R,Q1,jl,HF⟩:=zq7 ht N dL P q1 dV (And.intro (show(next s st).depth<=8 from hd) (show(next s st).loops<2 from dN));generalize jm:r.k=kq at*;generalize jn:ts.length=LL at*;clear hx dO hs dS N dP M jm jn h q1 ht t1 t2 dR dL P dU hn hd dN dQ dV;unfold vs at*;go_enter Kh,Je;go_wp2;go_region;go_wp2_with fail;clear jf jg c3;refine R.out.mono ?_;rintro e w1 ⟨v1,rfl,dW,dX,r1,fc,fd,fx⟩;have p1:=Q1.out.call dW fc;have z:=λj=>p1.bO.frozen j;obtain⟨e0,e1,S,T,e4,e5,e6,e7,e8,e9,E,F,G,H⟩:=CS p1.bO;have q2:=p1.cy 1 (.int .i64 v1);have X:=ET q2.rd fd HT.out (kd:=Cv) (kr:=Cv) (by decide) (by decide) (by decide) (by decide);rw[fx]at X;obtain⟨fy,Q2,ju⟩:=zq3 X q2 dX;clear p1 q2 dW dX fc fd fx X R Q1;unfold vs at*;go_wp2_with fail;clear e0 e1 S T e4 e5 e6 e7 e8 e9 E F G H z;refine fy.out.mono ?_;rintro e w2 ⟨x9,rfl,fB,_,r2,fC,fE,fF⟩;have q3:=Q2.out.call fB fC;have Y:=X5 q3.rd fE HT.out hl (n:=n+1) (by
  cases l:BE s Cv (Hg s 1 50 (AQ.ok () (next s st)))with
  |bad e p=>exact Ci _
  |ok t Z=>
   cases be:Hg s 1 50 (AQ.ok () (next s st))with
   |bad e p=>rw[be]at l;cases l
   |ok k st1=>
    rw[be]at l;obtain⟨v,f2⟩:=jl.out k st1 be;obtain⟨_,_,T⟩:=BH (show want s Cv st1= .ok t Z from l);have:=(Gn.next v.ok).left;rw[←T]at this;show left s Z<n+1;omega)
 rw[fF]at Y;obtain⟨fH,Q3⟩:=zq2 Y q3;clear q3 fB fC fE fF Y fy Q2;unfold EG vs;go_wp2_with fail;refine fH.out.mono ?_;rintro e w3 ⟨a0,n0,a1,n1,a2,n2,j0,rfl,fK,fL,r3,O,m,fM⟩;have p3:=Q3.out.call fK O;have z:=λj=>p3.bO.frozen j;obtain⟨e0,e1,S,T,e4,e5,e6,e7,e8,e9,E,F,G,H⟩:=CS p3.bO;obtain⟨_,_,_,d3,_⟩:=O.cells;have fr:=λj=>O.row.frozen j;have nH:¬w.heap.size+1=g:=λe=>p3.bO.cZ p3.rd.row (by decide) e;have q4:=((((((p3.cy 4 (vs a0)).cy 5 (.int .i64 n0)).cy 6 (vs a1)).cy 7 (.int .i64 n1)).cy 8 (vs a2)).cy 9 (.int .i64 n2)).cy 10 (.int .i64 j0);obtain⟨Q4,bI,bK,jE⟩:=zq4 q4 m fM fL;clear p3 q4 fK fL O m fM fH Q3;unfold vs at*;go_upto_region 41 with fail;generalize World.setCell _ ⟨w.heap.size+1,10,none⟩ _=wy at*;have d3:=(Q4.out.rd.cells).2.2.2.1;have fr:=λj=>Q4.out.rd.row.frozen j;clear e0 e1 S T e4 e5 e6 e7 e8 e9 E F G H z;go_cut [] (λwx=>∃r4,ML w wx g gp (.slice (some ⟨gt,0,none⟩) LL ct) ts pc r4 155 w.heap.size IN (w.heap.size+1) [vs Bf,.int .i64 v1,.int .i64 0,.bool false,vs a0,.int .i64 n0,vs a1,.int .i64 n1,vs a2,.int .i64 n2,.int .i64 j0,.slice none 0 0,.slice none 0 0,.bool false]/\Bp s r4 (J7 (CC s (n+1) (BE s Cv (Hg s 1 50 (AQ.ok () (next s st))))))/\r4.decls=r.decls)
 case first=>
  cases l:(CC s (n+1) (BE s Cv (Hg s 1 50 (AQ.ok () (next s st)))))with
  |bad e p=>
   have m:=bI.out;rw[l]at m;obtain⟨bL,HQ⟩:=zq2 m l;clear m l;go_wp2;go_meet;exact⟨r3.lp (wrap64 (r3.loops+1)),Q4.out.put 3 _ rfl rfl,by rw[HQ.out];exact bL.out.mc _ (λa st e=>by cases e),bK.out⟩
  |ok c d=>
   have m:=bI.out;rw[l]at m;have U:=AG.loops m;have mg:d.loops<2:=by have:=(B.out c d l).1.loops;rw[this];exact HF.out.2
   rw[U]at d3;obtain⟨bL,HQ⟩:=zq2 m l;clear m l U;go_wp2;go_meet;exact⟨r3.lp ((d.loops:Int)+1),Q4.out.put 3 _ rfl rfl,by rw[HQ.out];exact bL.out.mc _ (λa st' e=>by injection e with _ e;rw[←e];rfl),bK.out⟩
 case rest=>
  obtain⟨r4,bN,fP,fR⟩:=hcut;have bP:=jk.out (J7 (CC s (n+1) (BE s Cv (Hg s 1 50 (AQ.ok () (next s st)))))) wc r4 bN.rd fP (λf e=>by
   cases l:(CC s (n+1) (BE s Cv (Hg s 1 50 (AQ.ok () (next s st)))))with
   |bad S p=>rw[l]at e;cases e
   |ok c d=>
    rw[l]at e;injection e with _ e;obtain⟨v,f2⟩:=B.out c d l;have b1:f.depth=d.depth:=by rw[←e]
    have b2:f.loops=d.loops+1:=by rw[←e]
    have b3:left s f=left s d:=by rw[←e];rfl
    obtain⟨g1,g2⟩:=HF.out;exact⟨by rw[b1,v.depth];exact g1,by rw[b2,v.loops];omega,by rw[b3];exact f2⟩)
  rw[fR]at bP;obtain⟨fU,Q5⟩:=zq2 bP bN;clear d3 fr Q4 bI bK bP bN fP fR;unfold vs at*;go_wp2_with fail;refine fU.out.mono ?_;rintro e w5 ⟨J,K,L,rfl,gH,gI,r5,ik,q,iu⟩;have p5:=Q5.out.call gH ik;have z:=λj=>p5.bO.frozen j;obtain⟨e0,e1,S,T,e4,e5,e6,e7,e8,e9,E,F,G,H⟩:=CS p5.bO;have q6:=p5.cy 11 (.slice J K L);have iw:w.heap.size+1<wc.heap.size:=Q5.out.bO.lt;have V:∀b f,CZ s n (J7 (CC s (n+1) (BE s Cv (Hg s 1 50 (AQ.ok () (next s st))))))= .ok b f->f.bJ=none->Ct (λk=>w.heap.size+1<k) (w5.setCell ⟨w.heap.size+1,11,none⟩ (.slice J K L)) (.slice J K L) b:=λb f e hw=>
   ((gI b f e hw).mono (λk _ M=>by omega)).fD (λk M=>by omega) 11 _
  obtain⟨Q6,ix,bR,bS⟩:=zq4 q6 V q iu;clear p5 q6 gH gI ik q iu V fU Q5 iw;unfold vs at*;go_upto_region 43 with fail;clear e0 e1 S T e4 e5 e6 e7 e8 e9 E F G H z;generalize World.setCell _ ⟨w.heap.size+1,11,none⟩ _=jM at*;have d3:=(Q6.out.rd.cells).2.2.2.1;have fr:=λj=>Q6.out.rd.row.frozen j;go_cut [] (λwx=>∃r6,ML w wx g gp (.slice (some ⟨gt,0,none⟩) LL ct) ts pc r6 155 w.heap.size IN (w.heap.size+1) [vs Bf,.int .i64 v1,.int .i64 0,.bool false,vs a0,.int .i64 n0,vs a1,.int .i64 n1,vs a2,.int .i64 n2,.int .i64 j0,.slice J K L,.slice none 0 0,.bool false]/\Bp s r6 (PR (CZ s n (J7 (CC s (n+1) (BE s Cv (Hg s 1 50 (AQ.ok () (next s st))))))))/\r6.decls=r.decls/\
   ∀b f,CZ s n (J7 (CC s (n+1) (BE s Cv (Hg s 1 50 (AQ.ok () (next s st))))))= .ok b f->f.bJ=none->Ct (λk=>w.heap.size+1<k) wx (.slice J K L) b)
  case first=>
   have iz:∀(u:Value) b f,CZ s n (J7 (CC s (n+1) (BE s Cv (Hg s 1 50 (AQ.ok () (next s st))))))= .ok b f->f.bJ=none->Ct (λk=>w.heap.size+1<k) (jM.setCell ⟨g,3,none⟩ u) (.slice J K L) b:=λu b f e hw=>
    (ix.out b f e hw).jj (zAr.setCell (p:=⟨g,3,none⟩) (.inl rfl) u) Q6.out.rd.row
   have iA:=Aa iz;clear iz;cases l:CZ s n (J7 (CC s (n+1) (BE s Cv (Hg s 1 50 (AQ.ok () (next s st))))))with
   |bad e p=>
    have q:=bR.out;rw[l]at q;obtain⟨bT,HQ⟩:=zq2 q l;clear q l;go_wp2;go_meet;exact⟨r5.lp (wrap64 (r5.loops-1)),Q6.out.put 3 _ rfl rfl,by rw[HQ.out];exact bT.out.l9 _ (λa st e=>by cases e),bS.out,iA.out _⟩
   |ok b A=>
    have q:=bR.out;rw[l]at q;have W:=AG.loops q;have iB:1<=A.loops/\A.loops<=2:=by
     cases bU:(CC s (n+1) (BE s Cv (Hg s 1 50 (AQ.ok () (next s st)))))with
     |bad e p=>rw[bU]at l;cases l
     |ok c d=>
      rw[bU]at l;obtain⟨v,f2⟩:=B.out c d bU;obtain⟨g1,g2⟩:=HF.out;have b9:=DW (n:=n) (st:={d with loops:=d.loops+1}) ⟨v.ok.i,v.ok.pos,v.ok.more,v.ok.num,v.ok.name⟩ (by show d.depth<=8;rw[v.depth];exact g1) (by show d.loops+1<=2;rw[v.loops];omega) (show block s n {d with loops:=d.loops+1}= .ok b A from l);have e1:A.loops=d.loops+1:=b9.1.loops;have S:d.loops=(next s st).loops:=v.loops;omega
    obtain⟨nM,nN⟩:=iB;rw[W]at d3;obtain⟨bT,HQ⟩:=zq2 q l;clear q l W;go_wp2;go_meet;exact⟨r5.lp ((A.loops:Int)-1),Q6.out.put 3 _ rfl rfl,by rw[HQ.out];exact bT.out.l9 _ (λa st' e=>by injection e with _ e;rw[←e];omega),bS.out,iA.out _⟩
  case rest=>
   obtain⟨r6,I,iC,iD,iE⟩:=hcut;have z:=λj=>I.bO.frozen j;have y:=λj=>I.row.frozen j;obtain⟨e0,e1,S,T,e4,e5,e6,e7,e8,e9,E,F,G,H⟩:=CS I.bO;obtain⟨f0,v,f2,f3,f4,f5,f6,f7,f8,f9,nO,nP,nQ,nR⟩:=CS I.row;have nS:¬w.heap.size=w.heap.size+1:=by omega
   have q9:=I.fJ (vs Bf) (.int .i64 v1) (.int .i64 0) (.bool false) (vs a0) (.int .i64 n0) (vs a1) (.int .i64 n1) (vs a2) (.int .i64 n2) (.int .i64 j0) (.slice J K L) (.slice none 0 0) (.bool false);have iF:∀b f,CZ s n (J7 (CC s (n+1) (BE s Cv (Hg s 1 50 (AQ.ok () (next s st))))))= .ok b f->f.bJ=none->Ct (λk=>w.heap.size<=k) (NC _ w.heap.size (vs Bf) (.int .i64 v1) (.int .i64 0) (.bool false) (vs a0) (.int .i64 n0) (vs a1) (.int .i64 n1) (vs a2) (.int .i64 n2) (.int .i64 j0) (.slice J K L) (.slice none 0 0) (.bool false)) (.slice J K L) b:=λb f e hw=>
    ((iE b f e hw).fJ (C:=w.heap.size) (λk M=>by omega) _ _ _ _ _ _ _ _ _ _ _ _ _ _).mono (λk _ M=>by omega)
   obtain⟨kG,Q9,zW16,FD⟩:=zq4 iF q9 iC iD;clear I q9 iC iD iE iF Q6 ix bR bS d3 fr;unfold vs at*;go_wp2;refine AB (AT (cs:=[vs Bf,.int .i64 v1,.int .i64 0,.bool false,vs a0,.int .i64 n0,vs a1,.int .i64 n1,vs a2,.int .i64 n2,.int .i64 j0,.slice J K L,.slice none 0 0,.bool false]) Fs JO Hy rfl Q9.out.row) rfl ?_;refine⟨_,rfl,⟨_,_,_,_,_,_,_,_,_,_,_,_,_,_,_,_,_,_,rfl⟩,Q9.out.kg,λx9 f e hw=>?_,r6,Q9.out.rd,zW16.out.fS oL,FD.out⟩;obtain⟨k,st1,t,Z,c,d,b,A,u1,u2,u3,u4,rfl,rfl⟩:=zW6 e;have iG:A.bJ=none:=hw;have lR:d.bJ=none:=by obtain⟨v,f2⟩:=B.out c d u3;obtain⟨g1,g2⟩:=HF.out;rw[u3]at u4;have b9:=DW (n:=n) (st:={d with loops:=d.loops+1}) ⟨v.ok.i,v.ok.pos,v.ok.more,v.ok.num,v.ok.name⟩ (by show d.depth<=8;rw[v.depth];exact g1) (by show d.loops+1<=2;rw[v.loops];omega) (show block s n {d with loops:=d.loops+1}= .ok b A from u4);exact b9.1.bJ iG
   have lS:=jE.out c d u3 lR;have hv:=ju.out k st1 u1;subst hv;exact UH (by unfold Ie;rw[←lS];rfl) (kG.out b A u4 iG)
theorem eP (n:Nat) (a:Eb ts (ji s)) (x:s.length<=1000) (e:Te g gp tl ts pc s n):ii g gp tl ts pc s (n+1):=by
 intro st w r h b y v z;rw[stmt];by_cases f:st.t.kind=KP
 ·rw[Al f];exact kx h b a f
 rw[Ai f];by_cases i:st.t.kind=Et
 ·rw[Al i];exact Le (.inl ⟨rfl,rfl,rfl⟩) h b a i
 rw[Ai i];by_cases j:st.t.kind=Io
 ·rw[Al j];exact Le (.inr (.inl ⟨rfl,rfl,rfl⟩)) h b a j
 rw[Ai j];by_cases k:st.t.kind=Dq
 ·rw[Al k];exact aK h b a k
 rw[Ai k];by_cases l:st.t.kind=Mo
 ·rw[Al l];exact Le (.inr (.inr (.inl ⟨rfl,rfl,rfl⟩))) h b a l
 rw[Ai l];by_cases m:st.t.kind=Mq
 ·rw[Al m];exact Le (.inr (.inr (.inr ⟨rfl,rfl,rfl⟩))) h b a m
 rw[Ai m];by_cases p:st.t.kind=Ja
 ·rw[Al p];exact T3 (.inl ⟨rfl,rfl⟩) h b a p
 rw[Ai p];by_cases q:st.t.kind=Jb
 ·rw[Al q];exact T3 (.inr ⟨rfl,rfl⟩) h b a q
 rw[Ai q];by_cases u:st.t.kind=Jk
 ·rw[Al u];exact pi n e h b a x y v (by omega) u
 rw[Ai u];by_cases c:st.t.kind=Bf
 ·rw[Al c];by_cases d:st.loops=2
  ·rw[Al d];exact Vz h b a c d
  ·rw[Ai d];exact kv n e h b a x y (by omega) (by omega) c
 rw[Ai c];exact eQ h b a f i j k l m p q u c
theorem eY (b:Eb ts (ji s)) (c:s.length<=1000) (n:Nat):Te g gp tl ts pc s n/\ii g gp tl ts pc s n:=by
 induction n using Nat.strongRecOn with
 |ind n j=>
  cases n with
  |zero=>
   refine⟨λo w r h d f=>?_,λst w r h d l i q=>by omega⟩;cases o with
   |ok a st=>have:=(f st rfl).2.2;omega
   |bad e p=>
    exact T5 0 b c (λm k=>by
     have:m=0:=by omega
     subst this;intro st w r h d l i q;omega) (.bad e p) w r h d (λst e=>by cases e)
  |succ n=>exact⟨T5 n b c (λm k=>(j m k).2),eP n b c (j n (by omega)).1⟩
end
structure Qd (N:Nat->Prop) (w:World) (vr vh:Value) (n:Nat) (hs:List Bool) (rs:List Value):Prop where
 has:Sl N w 4 1 vh n (hs.map Value.bool)
 jm:Sl N w 83 1 vr n rs
 hl:hs.length=n
 rl:rs.length=n
 shape:∀v∈rs,∃a m c,v= .slice a m c
structure Gx (N:Nat->Prop) (w:World) (rules:List (Int×Az)) (ms:Bool) (vm:Value) (n:Nat) (hs:List Bool) (rs:List Value):Prop where
 ms:ms=(Es rules).isSome
 vm:Ct N w vm ((Es rules).getD .nil)
 hs:∀k:Nat,k<n->hs[k]?=some (Bj rules (k:Int)).isSome
 rs:∀k:Nat,k<n->∃v,rs[k]?=some v/\Ct N w v ((Bj rules (k:Int)).getD .nil)
theorem Hb (rules:List (Int×Az)) (k j:Int) (b:Az) (h:Bj rules k=none):Bj (rules++[(k,b)]) j=if j=k then some b else Bj rules j:=by
 unfold Bj at*;rw[Jm];by_cases a:j=k
 ·subst a;rw[Al rfl];simp only[II]at h;rw[h];simp
 ·rw[Ai a];have e:(List.find? (λx:Int×Az=>x.1==j) [(k,b)])=none:=by have:¬k=j:=λe=>a e.symm;simp[this]
  rw[e];simp
section
variable {N N':Nat->Prop}{w w':World}{rules:List (Int×Az)}{ms:Bool}{vm vr vh:Value}{n:Nat}{hs:List Bool}{rs:List Value}
theorem Gx.kept (h:Gx N w rules ms vm n hs rs) (b:∀k cs,N k->AF w k 155 cs->w'.heap[k]?=w.heap[k]?):Gx N w' rules ms vm n hs rs:=
 ⟨h.ms,h.vm.kept b,h.hs,λk a=>by obtain⟨v,c,d⟩:=h.rs k a;exact⟨v,c,d.kept b⟩⟩
theorem Gx.mono (h:Gx N w rules ms vm n hs rs) (b:∀k,k<w.heap.size->N k->N' k):Gx N' w rules ms vm n hs rs:=
 ⟨h.ms,h.vm.mono b,h.hs,λk a=>by obtain⟨v,c,d⟩:=h.rs k a;exact⟨v,c,d.mono b⟩⟩
theorem Gx.oE (h:Gx N w rules ms vm n hs rs) {b:Az}(c:Bj rules (-1)=none) {v:Value}(f:Ct N w v b):Gx N w (rules++[(-1,b)]) true v n hs rs:=by
 have e:Es (rules++[(-1,b)])=some b:=by unfold Es;rw[Hb _ _ _ _ c,Al rfl]
 have d:∀k:Nat,Bj (rules++[(-1,b)]) (k:Int)=Bj rules (k:Int):=λk=>by rw[Hb _ _ _ _ c,Ai (by omega)]
 refine⟨by rw[e];rfl,by rw[e];exact f,λk a=>by rw[d];exact h.hs k a,λk a=>by rw[d];exact h.rs k a⟩
theorem Gx.iH (h:Gx N w rules ms vm n hs rs) {b:Az}{j:Nat}(c:Bj rules (j:Int)=none) {v:Value}(f:Ct N w v b) (g:hs.length=n) (i:rs.length=n):Gx N w (rules++[((j:Int),b)]) ms vm n (hs.set j true) (rs.set j v):=by
 have e:Es (rules++[((j:Int),b)])=Es rules:=by unfold Es;rw[Hb _ _ _ _ c,Ai (by omega)]
 refine⟨by rw[e];exact h.ms,by rw[e];exact h.vm,λk d=>?_,λk d=>?_⟩
 ·rw[Hb _ _ _ _ c];by_cases a:k=j
  ·subst a;rw[Al rfl,CG (by omega)];rfl
  ·rw[Ai (by omega),BU (Kj a)];exact h.hs k d
 ·rw[Hb _ _ _ _ c];by_cases a:k=j
  ·subst a;rw[Al rfl,CG (by omega)];exact⟨v,rfl,f⟩
  ·rw[Ai (by omega),BU (Kj a)];exact h.rs k d
theorem Qd.kept (h:Qd N w vr vh n hs rs) {S1:Nat->Prop}(d:Ac S1 w w') (e:∀g cs,AF w g 4 cs->N g->¬S1 g) (f:∀g cs,AF w g 83 cs->N g->¬S1 g):Qd N w' vr vh n hs rs:=
 ⟨h.has.kept d (λb a=>by obtain⟨cs,c⟩:=h.has.row a;exact e b cs c (h.has.2 b a)),h.jm.kept d (λb a=>by obtain⟨cs,c⟩:=h.jm.row a;exact f b cs c (h.jm.2 b a)),h.hl,h.rl,h.shape⟩
theorem Qd.mono (h:Qd N w vr vh n hs rs) (b:∀k,k<w.heap.size->N k->N' k):Qd N' w vr vh n hs rs:=
 ⟨⟨h.has.1,λg a=>b g (h.has.lt a) (h.has.2 g a)⟩,⟨h.jm.1,λg a=>b g (h.jm.lt a) (h.jm.2 g a)⟩,h.hl,h.rl,h.shape⟩
end
section
variable {s:Ah}{r:Fh}{st:PS}{m:Nat}
def rkO (at_:Nat) (x:AQ Int):AQ Int:=x.bind λk st=>.ok k (if(Bj st.rules k).isSome&&st.bJ.isNone then note J1 at_ st else st)
theorem W5 (h:(next s st).t.kind=Fo):CQ s st=rkO st.t.pos (.ok (-1) (next s (next s st))):=by unfold CQ rkO;simp only;rw[Al h]
theorem W3 (h:¬(next s st).t.kind=Fo):CQ s st=rkO st.t.pos (name s false (next s st)):=by unfold CQ rkO;simp only;rw[Ai h]
theorem iV {at_:Nat}{k:Int}{st1:PS}{hit:Bool}(h:st1.bJ=none->hit=(Bj st1.rules k).isSome):
  (if(Bj st1.rules k).isSome&&st1.bJ.isNone then note J1 at_ st1 else st1)=if hit then note J1 at_ st1 else st1:=by
 cases a:st1.bJ with
 |none=>
  rw[h a];simp
 |some x=>
  have e:note J1 at_ st1=st1:=by unfold note;rw[a]
  simp[e]
theorem VB:GJ s m st=(CQ s st).bind λk st=>(block s m st).bind λb st=>.ok () (if st.bJ.isNone then {st with rules:=st.rules++[(k,b)]}else st):=rfl
theorem kn {o:AQ Unit}(g:o=(CQ s st).bind λ_ st=>.ok () st) (h:Bp s r (o.bind λ_ st=>block s m st)):Bp s r (GJ s m st):=by
 subst g;rw[VB];cases d:CQ s st with
 |bad e p=>rw[d]at h;exact h
 |ok k st1=>
  rw[d]at h;have h:Bp s r (block s m st1):=h;show Bp s r ((block s m st1).bind _);cases f:block s m st1 with
  |bad e p=>rw[f]at h;exact h
  |ok b c=>
   rw[f]at h;have a:AG s r c:=h;show AG s r (if c.bJ.isNone then {c with rules:=c.rules++[(k,b)]}else c);split
   ·exact⟨a.pos.of rfl rfl,⟨a.ok.i,a.ok.pos,a.ok.more,a.ok.num,a.ok.name⟩,a.deep,a.loops,a.bad,a.bJ,a.decls,a.bI,a.seen,a.f0,a.fk⟩
   ·exact a
theorem pj {st':PS}(g:st.Ok s) (p:st.t.kind=T9) (y:st.depth<=7) (z:st.loops<=2) (e:GJ s m st= .ok () st') (j:st'.bJ=none):
  ∃k st1 b a,CQ s st= .ok k st1/\block s m st1= .ok b a/\st1.bJ=none/\a.bJ=none/\Bj st.rules k=none/\st'.rules=st.rules++[(k,b)]/\st.bJ=none:=by
 rw[VB]at e;obtain⟨k,st1,e1,q⟩:=AD e;obtain⟨b,a,l,d⟩:=AD q;injection d with _ d;obtain⟨f,l1,w1⟩:=Ge g p e1;obtain⟨o,_⟩:=DW f.ok (by rw[f.depth];omega) (by rw[f.loops];omega) l;cases c:a.bJ with
 |some x=>
  rw[c]at d;simp at d;rw[←d,c]at j;cases j
 |none=>
  rw[c]at d;simp at d;have h:=o.bJ c;refine⟨k,st1,b,a,e1,l,h,c,?_,?_,f.bJ h⟩
  ·have u:=(w1 h).2;unfold Bj;rw[II,IL];intro x v i;exact u (AE.2 ⟨x,v,by simpa using i⟩)
  ·rw[←d];show a.rules++[(k,b)]=_;rw[o.rules,f.rules]
end
structure RQ (B:Nat) (w:World) (g gp:Nat) (tl:Value) (ts:List CN) (f:Int) (vr vh vm:Value) (ms:Bool) (r:Fh) (vd:Value) (hs:List Bool) (rs:List Value):Prop extends RP B w g gp tl ts f vr vh vm ms r vd where
 ru:Qd (λb=>B<=b) w vr vh r.decls.length hs rs
 qn:∃a n c,vm= .slice a n c
section
variable {B:Nat}{w w':World}{g gp:Nat}{tl:Value}{ts:List CN}{f:Int}{vr vh vm:Value}{ms:Bool}{r r':Fh}{vd:Value}{hs:List Bool}{rs:List Value}{s:Ah}{st:PS}
theorem Qd.kg {n:Nat}{cs:List Value}(h:Qd (λb=>B<=b) w vr vh n hs rs) (i:Kg g w w') (d:AF w g 136 cs):Qd (λb=>B<=b) w' vr vh n hs rs:=
 h.kept i (λb cs a _ c=>c.elim (λe=>a.cZ d (by decide) e) (λe=>by have:=a.lt;omega)) (λb cs a _ c=>c.elim (λe=>a.cZ d (by decide) e) (λe=>by have:=a.lt;omega))
theorem RQ.call (h:RQ B w g gp tl ts f vr vh vm ms r vd hs rs) (a:Kg g w w') (c:Gl w' g gp tl ts [vd,.int .i64 f,vr,vh,vm,.bool ms] r') (b:r'.decls=r.decls):RQ B w' g gp tl ts f vr vh vm ms r' vd hs rs:=
 ⟨h.toRP.call a c b,by rw[b];exact h.ru.kg a h.rd.row,h.qn⟩
theorem Gx.kg {N:Nat->Prop}{a:List (Int×Az)}{n:Nat}{cs:List Value}(h:Gx N w a ms vm n hs rs) (c:Kg g w w') (d:AF w g 136 cs):Gx N w' a ms vm n hs rs:=
 h.kept (λk cs _ b=>In c b.lt (b.cZ d (by decide)))
theorem Qd.qH {N:Nat->Prop}{n:Nat}(h:Qd N w vr vh n hs rs) {k:Nat}(l:k<n):∃gh ch b,vh= .slice (some ⟨gh,0,none⟩) n ch/\n<=ch/\ch<=maxLen/\hs[k]?=some b/\w.cell? ⟨gh,k,none⟩=some (.bool b)/\gh<w.heap.size:=by obtain⟨gh,ch,e,_,d,i,j⟩:=h.has.form (by omega);have m:=h.hl;have c:hs[k]?=some hs[k]:=Ae (by omega);refine⟨gh,ch,hs[k],e,d,i,c,?_,j⟩;have a:=h.has;rw[e]at a;have:=a.1.cellAt k (by omega);rw[At,c]at this;exact this
theorem Qd.nR {N:Nat->Prop}{n:Nat}(h:Qd N w vr vh n hs rs):(∃a c,vh= .slice a n c)/\(∃a c,vr= .slice a n c):=⟨h.has.cB,h.jm.cB⟩
end
def dE (s:Ah) (st:PS) (b:Bool) (k:Nat):Prop:=∀a st1,CQ s st= .ok a st1->st1.bJ=none->a=if b then-1 else(k:Int)
def Ot (s:Ah) (st:PS):AQ Unit:=(CQ s st).bind λ_ st=>.ok () st
section
variable {s:Ah}{st:PS}{r1 r2:Fh}{hit:Bool}{k:Nat}
theorem mf (h:(next s st).t.kind=Fo) (i:st.bJ=none->hit=(Bj st.rules (-1)).isSome) (b:hit=true->Bp s r2 (Pc J1 st.t.pos (D1 s Fo (AQ.ok () (next s st))))) (c:hit=false->Bp s r2 (D1 s Fo (AQ.ok () (next s st)))):
  Bp s r2 (Ot s st)/\dE s st true k:=by
 have j:D1 s Fo (AQ.ok () (next s st))= .ok () (next s (next s st)):=by show AQ.ok () (take s Fo (next s st)).2=_;unfold take;rw[Al h]
 rw[j]at b c;have e1:CQ s st= .ok (-1) (if hit then note J1 st.t.pos (next s (next s st))else next s (next s st)):=by
  have a:(if(Bj (next s (next s st)).rules (-1)).isSome&&(next s (next s st)).bJ.isNone then note J1 st.t.pos (next s (next s st))else next s (next s st))=if hit then note J1 st.t.pos (next s (next s st))else next s (next s st):=
   iV (at_:=st.t.pos) (st1:=next s (next s st)) (hit:=hit) (λd=>i d)
  rw[W5 h,←a];rfl
 refine⟨?_,λl st1 e d=>?_⟩
 ·unfold Ot;rw[e1];cases hit with
  |true=>exact b rfl
  |false=>exact c rfl
 ·rw[e1]at e;injection e with e;rw[←e];rfl
theorem me {v:Nat}(h:¬(next s st).t.kind=Fo) (i:∀n st1,Tf s false (AQ.ok () (next s st))= .ok n st1->st1.bJ=none->n=(v:Int)) (l:st.Ok s)
  (m:st.bJ=none->(∀n st1,Tf s false (AQ.ok () (next s st))= .ok n st1->st1.bJ=none->hit=(Bj st.rules (v:Int)).isSome)) (b:hit=true->Bp s r2 (Pc J1 st.t.pos (Tf s false (AQ.ok () (next s st))))) (c:hit=false->Bp s r2 (Tf s false (AQ.ok () (next s st)))):
  Bp s r2 (Ot s st)/\dE s st false v:=by
 have u:Tf s false (AQ.ok () (next s st))=name s false (next s st):=rfl;rw[u]at i m b c;have d:CQ s st=rkO st.t.pos (name s false (next s st)):=W3 h;cases o:name s false (next s st)with
 |bad e p=>
  rw[o]at d b c;refine⟨?_,λx st1 e a=>by rw[d]at e;cases e⟩;unfold Ot;rw[d];cases hit with
  |true=>exact b rfl
  |false=>exact c rfl
 |ok n st1=>
  rw[o]at d b c i m;obtain⟨q,_,_⟩:=E7 (Ce l) o;have e1:CQ s st= .ok n (if hit then note J1 st.t.pos st1 else st1):=by rw[d];show AQ.ok n _=_;rw[iV (hit:=hit) (λa=>?_)];have y:=m (q.bJ a) n st1 rfl a;rw[y,i n st1 rfl a,q.rules];rfl
  refine⟨?_,λx z e a=>?_⟩
  ·unfold Ot;rw[e1];cases hit with
   |true=>exact b rfl
   |false=>exact c rfl
  ·rw[e1]at e;injection e with e j;rw[←e];refine i n st1 rfl ?_;cases hit with
   |true=>
    simp only[A7]at j;rw[←j]at a;exact absurd a (Fy _ _ _)
   |false=>
    simp only[Ap,A8]at j;rw[j];exact a
end
section
variable {B:Nat}{w:World}{g gp:Nat}{tl:Value}{ts:List CN}{f:Int}{vr vh vm:Value}{ms:Bool}{r:Fh}{vd:Value}{hs:List Bool}{rs:List Value}
theorem RQ.iF (h:RQ B w g gp tl ts f vr vh vm ms r vd hs rs) (i:Nat) (u:Value) {vm':Value}{ms':Bool}(t: [vd,.int .i64 f,vr,vh,vm,.bool ms].set i u=[vd,.int .i64 f,vr,vh,vm',.bool ms']) (v:∃a n c,vm'= .slice a n c):
  RQ B (w.setCell ⟨gp,i,none⟩ u) g gp tl ts f vr vh vm' ms' r vd hs rs:=by
 have l:Ac (λb=>b=gp) w (w.setCell ⟨gp,i,none⟩ u):=Ac.one w ⟨gp,i,none⟩ _;obtain⟨N,p⟩:=h.rd.ji;have m:=h.rd.bQ.cZ h.rd.row (by decide);have j:=h.sl.kept l (λb d e=>h.sl.bK h.rd.bQ (by decide) (e▸d));have q:=h.rd.bQ.bM i u;rw[t]at q;exact⟨⟨⟨h.rd.row.dK (λe=>m e.symm) _,⟨N,p.kept l (λb d e=>p.bK h.rd.bQ (by decide) (e▸d))⟩,h.rd.tl,q,⟨_,vd,rfl,j⟩,h.rd.dl⟩,h.g0,h.p0,j,by simpa using h.sz⟩,
  h.ru.kept l (λb cs d _ o=>d.cZ h.rd.bQ (by decide) o) (λb cs d _ o=>d.cZ h.rd.bQ (by decide) o),v⟩
theorem RQ.qI (h:RQ B w g gp tl ts f vr vh vm ms r vd hs rs) {gh ch k:Nat}(e:vh= .slice (some ⟨gh,0,none⟩) r.decls.length ch):RQ B (w.setCell ⟨gh,k,none⟩ (.bool true)) g gp tl ts f vr vh vm ms r vd (hs.set k true) rs/\B<=gh/\Ac (λb=>B<=b) w (w.setCell ⟨gh,k,none⟩ (.bool true)):=by
 have i:B<=gh:=h.ru.has.2 gh (by rw[e];rfl);obtain⟨cs,a⟩:=h.ru.has.row (g:=gh) (by rw[e];rfl);have d:Ac (λb=>b=gh) w (w.setCell ⟨gh,k,none⟩ (.bool true)):=Ac.one w ⟨gh,k,none⟩ _;have c:=h.ru.has;subst e;have j:=c.1.stored k (.bool true);have n:(hs.map Value.bool).set k (.bool true)=(hs.set k true).map Value.bool:=by rw[PE]
 rw[n]at j;have m:=h.sl.kept d (λb l e=>h.sl.bK a (by decide) (e▸l));exact⟨⟨⟨h.rd.fD a (by decide) k _,h.g0,h.p0,m,by simpa using h.sz⟩,⟨⟨j.1,c.2⟩,h.ru.jm.kept d (λb l e=>h.ru.jm.bK a (by decide) (e▸l)),by rw[A9];exact h.ru.hl,h.ru.rl,h.ru.shape⟩,h.qn⟩,i,d.mono (λb l=>l▸i)⟩
theorem RQ.qJ (h:RQ B w g gp tl ts f vr vh vm ms r vd hs rs) {gr cr k:Nat}(e:vr= .slice (some ⟨gr,0,none⟩) r.decls.length cr) {v:Value}(t:∃a n c,v= .slice a n c):RQ B (w.setCell ⟨gr,k,none⟩ v) g gp tl ts f vr vh vm ms r vd hs (rs.set k v)/\B<=gr/\Ac (λb=>B<=b) w (w.setCell ⟨gr,k,none⟩ v):=by
 have l:B<=gr:=h.ru.jm.2 gr (by rw[e];rfl);obtain⟨cs,d⟩:=h.ru.jm.row (g:=gr) (by rw[e];rfl);have j:Ac (λb=>b=gr) w (w.setCell ⟨gr,k,none⟩ v):=Ac.one w ⟨gr,k,none⟩ _;have i:=h.ru.jm;subst e;have o:=i.1.stored k v;have p:=h.sl.kept j (λb m e=>h.sl.bK d (by decide) (e▸m));exact⟨⟨⟨h.rd.fD d (by decide) k _,h.g0,h.p0,p,by simpa using h.sz⟩,⟨h.ru.has.kept j (λb m e=>h.ru.has.bK d (by decide) (e▸m)),⟨o.1,i.2⟩,h.ru.hl,by rw[A9];exact h.ru.rl,λu x=>by
  rcases EJ x with q|q
  ·exact h.ru.shape u q
  ·exact q▸t⟩,h.qn⟩,l,j.mono (λb m=>m▸l)⟩
end
def Ahk (B:Nat) (w:World) (g gp:Nat) (tl:Value) (ts:List CN) (s:Ah) (d:List Bi) (f:Int) (vr vh vd:Value) (o:AQ Unit) (e:Ending) (w':World):Prop:=
 e= .returned (.tuple #[])/\Ac (λb=>B<=b) w w'/\∃vm' ms' r' a c,RQ B w' g gp tl ts f vr vh vm' ms' r' vd a c/\Bp s r' o/\r'.decls=d/\
  (∀st',o= .ok () st'->st'.bJ=none->Gx (λb=>B<=b) w' st'.rules ms' vm' d.length a c)
section
variable {B:Nat}{w:World}{g gp:Nat}{tl:Value}{ts:List CN}{f:Int}{vr vh vm:Value}{ms:Bool}{r:Fh}{vd:Value}{hs:List Bool}{rs:List Value}{s:Ah}{st:PS}
theorem kD (h:RQ B w g gp tl ts f vr vh vm ms r vd hs rs) (S:AG s r st) (ht:Eb ts (ji s)) (hl:s.length<=1000) (hk:st.t.kind=T9) (fB:st.depth=0) (fC:st.loops=0) (be:left s st<=701)
  (hm:st.bJ=none->Gx (λb=>B<=b) w st.rules ms vm r.decls.length hs rs):
  Calls prog 55 #[.pointer (some ⟨g,0,none⟩)] w (Ahk B w g gp tl ts s r.decls f vr vh vd (GJ s 1500 st)):=by
 obtain⟨x,hx,fD⟩:=AG.tok S ht;obtain⟨gt,ct,rfl,h1,h2,h3,h4,h5,t0,t1,t2⟩:=h.rd.at_ hx;obtain⟨c0,c1,_⟩:=h.rd.cells;have oy:=h.rd.row.lt;have ff:=λj=>h.rd.row.frozen j;have h8:=h.rd.tl;have H:r.k<ts.length:=h3;unfold maxLen at h2;have fG:Bp s r.nx (AQ.ok () (next s st)):=S.next (by rw[hk];decide) (by rw[hk];decide);have l:Kg g w ((w.setCell ⟨g,1,none⟩ (.int .i64 ((r.k:Int)+1))).drewN 1):=((Ac.refl _ w).setCell (p:=⟨g,1,none⟩) (.inl rfl) _).drewN 1;have q1:=h.call (r':=r.nx) l ((h.rd.put 1 (.int .i64 ((r.k:Int)+1)) (r':=r.nx) rfl rfl).drewN 1) rfl;have fH:=FL q1.rd fG ht (kd:=Fo) (kr:=Fo) (by decide) (by decide) (by decide) (by decide);have fJ:x.pos=st.t.pos:=fD.2.1;rw[fJ]at t2;obtain⟨HT,Q1,fK,fL,HP,HM,cz,lV⟩:=zq8 ht q1 l fH h hm (And.intro hk (And.intro fB (And.intro fC (And.intro be (And.intro S.ok S.decls))))) hl;generalize lX:r.k=kq at*;generalize fM:ts.length=LL at*;clear hx fD S fG hk lX fM h q1 l ht fH hm fB fC be hl fJ;unfold vs at*;go_enter func55,ntmps55;go_wp2;go_region;go_wp2_with fail;refine fL.out.mono ?_;rintro e w1 ⟨rfl,l,r1,cB,da,dd⟩;have q2:=Q1.out.call l cB dd;have fN:=Fx cB da HT.out false;have fO:=Kg.trans fK.out l;obtain⟨fP,Q2,dF,fR,dG⟩:=zq5 fN q2 fO da (show r1.decls=r.decls from dd);clear l cB da dd fN q2 fO fL Q1 fK t0 t1 t2 c0 c1 ff;generalize fS:(AQ.ok () (next s st)).cj Fo=b at*;have dH:=Aa fS;clear fS;go_upto_if 27 with fail;go_cut [4] (λs4 wx=>∃(k:Nat) (r2:Fh),s4= .int .i64 k/\Kg g w wx/\RQ B wx g gp (.slice (some ⟨gt,0,none⟩) LL ct) ts f vr vh vm ms r2 vd hs rs/\r2.decls=r.decls/\(b=true->Bp s r2 (D1 s Fo (AQ.ok () (next s st))))/\
  (b=false->Bp s r2 (Tf s false (D1 s Fo (AQ.ok () (next s st))))/\∀n st1,Tf s false (D1 s Fo (AQ.ok () (next s st)))= .ok n st1->st1.bJ=none->n=(k:Int)))
 case first=>
  cases b with
  |true=>
   go_wp2;go_meet;exact⟨0,r1,rfl,dF.out,Q2.out,dG.out,λ_=>fR.out,λe=>absurd e (by decide)⟩
  |false=>
   go_wp2_with fail;refine fP.out.mono ?_;rintro e w2 ⟨v,rfl,d,hv,r2,fT,fU,gH⟩;have F:=Aa (And.intro d (And.intro hv (And.intro fT (And.intro fU gH))));clear d hv fT fU gH;go_wp2;go_meet;obtain⟨f1,f2,f3,f4,f5⟩:=F.out;exact⟨v,r2,rfl,Kg.trans dF.out f1,Q2.out.call f1 f3 f5,f5.trans dG.out,λe=>absurd e (by decide),λ_=>⟨f4,f2⟩⟩
 case rest=>
  obtain⟨k,r2,rfl,d,R,I,hy,hn⟩:=hcut;clear fP Q2 dF fR dG;obtain⟨av,nv,cv,rfl⟩:=R.qn;obtain⟨H3,Q3⟩:=zq2 (And.intro d (And.intro I (And.intro hy hn))) R;obtain⟨c8,p3,p5⟩:=zp3 R.rd.cells.2.2.2.2.2.2.2.2.1 (R.rd.bQ.cell 3) (R.rd.bQ.cell 5);simp at p3 p5;have bM:=R.ru.hl;have J:=R.ru;obtain⟨⟨ah,ch,rfl⟩,_⟩:=J.nR;have oP:r2.decls.length<=1000:=R.rd.dl;go_upto_region 6 with fail;go_cut [67] (λl7 wx=>l7= .bool (if b then ms else hs.getD k false)/\∃q,wx=wc.drewN q)
  case first=>
   cases b with
   |true=>
    clear J bM hy hn d R I;cases ms
    all_goals
     go_wp2;go_meet;exact⟨rfl,0,rfl⟩
   |false=>
    by_cases m:k<r2.decls.length
    ·obtain⟨gh,gI,bv,e,h9,dN,K,l8,ik⟩:=J.qH m;injection e with e1 e2 e3;subst e1 e3;have HG:=Aa (show hs.getD k false=bv by rw[List.getD,K];rfl);have e9:decide ((k:Int)<(r2.decls.length:Int))=true:=by simp;omega
     clear J bM hy hn d R I K;unfold maxLen at dN;generalize r2.decls.length=nn at*;cases bv
     all_goals
      go_wp2;go_meet;rw[HG.out];exact⟨rfl,0,rfl⟩
    ·have HG:=Aa (show hs.getD k false=false by rw[List.getD,Bl (by omega)];rfl);have e9:decide ((k:Int)<(r2.decls.length:Int))=false:=by simp;omega
     clear J bM hy hn d R I;generalize r2.decls.length=nn at*;go_wp2;go_meet;rw[HG.out];exact⟨rfl,0,rfl⟩
  case rest=>
   obtain⟨rfl,q,rfl⟩:=hcut;clear J bM d R c8 p3 p5;have bT:=λ(K:b=true)=>H6 (e:=J1) (Q3.out.rd.drewN q) (hy K) (by decide) st.t.pos;have bU:=λ(K:b=false)=>H6 (e:=J1) (Q3.out.rd.drewN q) (hn K).1 (by decide) st.t.pos;have iu:∀hit:Bool,b=true->hit=ms->st.bJ=none->hit=(Bj st.rules (-1)).isSome:=λhit _ e L=>by rw[e];exact(HM.out L).ms
   obtain⟨y,mg,z,iw⟩:=zq4 bT I bU iu;clear bT bU iu hy hn I;go_upto_if 67 with fail;go_cut [] (λwx=>Kg g w wx/\∃A,RQ B wx g gp (.slice (some ⟨gt,0,none⟩) LL ct) ts f vr (.slice ah r2.decls.length ch) (.slice av nv cv) ms A vd hs rs/\A.decls=r.decls/\Bp s A (Ot s st)/\dE s st b k)
   case first=>
    have bV:∀(hit:Bool),hit=(if b then ms else hs.getD k false)->∀A,(hit=true->b=true->Bp s A (Pc J1 st.t.pos (D1 s Fo (AQ.ok () (next s st)))))->(hit=true->b=false->Bp s A (Pc J1 st.t.pos (Tf s false (D1 s Fo (AQ.ok () (next s st))))))
      ->(hit=false->b=true->Bp s A (D1 s Fo (AQ.ok () (next s st))))->(hit=false->b=false->Bp s A (Tf s false (D1 s Fo (AQ.ok () (next s st)))))->Bp s A (Ot s st)/\dE s st b k:=by
     intro hit a A g1 g2 g3 g4;obtain⟨-,-,-,-,M,dO⟩:=cz.out;cases b with
     |true=>
      have dP:(next s st).t.kind=Fo:=by simpa[AQ.cj]using dH.out
      exact mf dP (λL=>iw.out hit rfl a L) (λe=>g1 e rfl) (λe=>g3 e rfl)
     |false=>
      have dP:¬(next s st).t.kind=Fo:=by simpa[AQ.cj]using dH.out
      have e0:Tf s false (D1 s Fo (AQ.ok () (next s st)))=Tf s false (AQ.ok () (next s st)):=by rw[Gs dH.out,bj]
      obtain⟨-,-,-,hn⟩:=H3.out;obtain⟨-,dQ⟩:=hn rfl;rw[e0]at dQ g2 g4;refine me dP dQ M (λL n st1 e1 iy=>?_) (λe=>g2 e rfl) (λe=>g4 e rfl);have dR:=((E7 (Ce M) (show name s false (next s st)= .ok n st1 from e1)).2.2 iy).1;have hv:=dQ n st1 e1 iy;have m:k<r.decls.length:=by rw[dO];have:=dR.2;have:(next s st).decls=st.decls:=rfl;rw[this]at dR;have:=dR.2;omega
      have hx:=(HM.out L).hs k m;rw[a];simp only[Ap,A8];rw[List.getD,hx];rfl
    have T:=Aa bV;clear bV;obtain⟨hit,a⟩:∃hit,hit=(if b then ms else hs.getD k false):=⟨_,rfl⟩;have HH:=Aa a;rw[←a];clear a;cases hit with
    |true=>
     have U:Calls prog 84 #[.pointer (some ⟨g,0,none⟩),.int .i64 8,.int .i64 st.t.pos] (wc.drewN q) (λe w'=>e= .returned (.tuple #[])/\Kg g (wc.drewN q) w'/\∃r',Gl w' g gp (.slice (some ⟨gt,0,none⟩) LL ct) ts [vd,.int .i64 f,vr,.slice ah r2.decls.length ch,.slice av nv cv,.bool ms] r'/\(Bp s r' (Ot s st)/\dE s st b k)/\r'.decls=r2.decls):=by
      cases K:b with
      |true=>
       refine(y.out K).mono ?_;rintro e w' ⟨h1,h2,r',h3,h4,h5⟩;refine⟨h1,h2,r',h3,?_,h5⟩;rw[←K];exact T.out true HH.out r' (λ_ _=>h4) (λ_ e=>by rw[K]at e;cases e) (λe=>by cases e) (λe=>by cases e)
      |false=>
       refine(z.out K).mono ?_;rintro e w' ⟨h1,h2,r',h3,h4,h5⟩;refine⟨h1,h2,r',h3,?_,h5⟩;rw[←K];exact T.out true HH.out r' (λ_ e=>by rw[K]at e;cases e) (λ_ _=>h4) (λe=>by cases e) (λe=>by cases e)
     have HC:=Aa U;clear U y z;go_wp2_with fail;refine HC.out.mono ?_;rintro e w4 ⟨rfl,V,A,h4,N,O⟩;have F:=Aa (And.intro V (And.intro h4 (And.intro N O)));clear V h4 N O;go_wp2;go_meet;obtain⟨f1,f2,f3,f4⟩:=F.out;obtain⟨g1,g2,_⟩:=H3.out;exact⟨Kg.trans (g1.drewN q) f1,A,Q3.out.call (Kg.trans ((Ac.refl _ wc).drewN q) f1) f2 f4,f4.trans g2,f3.1,f3.2⟩
    |false=>
     clear y z;go_wp2;go_meet;obtain⟨g1,g2,g3,g4⟩:=H3.out;have iz:=T.out false HH.out r2 (λe=>by cases e) (λe=>by cases e) (λ_ e=>g3 e) (λ_ e=>(g4 e).1);exact⟨g1.drewN q,r2,Q3.out.call ((Ac.refl _ wc).drewN q) (Q3.out.rd.drewN q) rfl,g2,iz.1,iz.2⟩
   case rest=>
    obtain⟨V,A,q4,O,N,iA⟩:=hcut;clear y z iw H3 Q3;have dS:=(eY (g:=g) (gp:=gp) (tl:=.slice (some ⟨gt,0,none⟩) LL ct) (ts:=ts) (pc:=[vd,.int .i64 f,vr,.slice ah r2.decls.length ch,.slice av nv cv,.bool ms]) HT.out lV.out 1500).1 (Ot s st) wc A q4.rd N (λst' e=>by
     obtain⟨hk,hd,hl,be,M,dO⟩:=cz.out;obtain⟨k',st1,e1,e2⟩:=AD (show(CQ s st).bind _=AQ.ok () st' from e);injection e2 with _ e2;obtain⟨f1,l1,_⟩:=Ge M hk e1;subst e2;have:=f1.depth;have:=f1.loops;omega)
    rw[O]at dS;obtain⟨iB,Q4,H4⟩:=zq3 dS q4 (And.intro V (And.intro O (And.intro N iA)));clear dS V q4 O N iA;go_wp2_with fail;refine iB.out.mono ?_;rintro e P ⟨a5,n5,c5,rfl,bO,iC,r5,iD,iE,dU⟩;obtain⟨W,iG,bZ⟩:=zp3 (Q4.out.call bO iD (dU.trans H4.out.2.1.symm)) Q4.out.sz (VX (Kg.trans H4.out.1 bO) HP.out.g0 HP.out.sz);have iI:Bp s r5 (GJ s 1500 st):=kn (o:=Ot s st) rfl iE;have X:∀st',GJ s 1500 st= .ok () st'->st'.bJ=none->∃Y,Ct (λx=>B<=x) P (.slice a5 n5 c5) Y/\st'.rules=st.rules++[(if b then-1 else(k:Int),Y)]/\Bj st.rules (if b then-1 else(k:Int))=none/\Gx (λx=>B<=x) P st.rules ms (.slice av nv cv) r.decls.length hs rs:=by
     intro st' e L;obtain⟨hk,hd,hl,be,M,dO⟩:=cz.out;obtain⟨k',st1,Y,iT,e1,e2,w1,w2,e3,e4,e5⟩:=pj M hk (by omega) (by omega) e L;have H:=H4.out.2.2.2 k' st1 e1 w1;subst H;have mu:CZ s 1500 (Ot s st)= .ok Y iT:=by unfold Ot CZ;rw[e1];exact e2
     exact⟨Y,(iC Y iT mu w2).mono (λx _ hx=>Ad iG hx),e4,e3,((HM.out e5).kg H4.out.1 HP.out.rd.row).kg bO Q4.out.rd.row⟩
    obtain⟨C,Z,dV,u,Q⟩:=zq5 W bZ iI X (show r5.decls=r.decls from dU);have c8:=W.rd.cells.2.2.2.2.2.2.2.2.1;have pf:=λj=>W.rd.bQ.frozen j;obtain⟨pl,p2,p3,p4,p5⟩:=zp5 W.rd.bQ.lt (W.rd.bQ.cell 2) (W.rd.bQ.cell 3) (W.rd.bQ.cell 4) (W.rd.bQ.cell 5);have mz:¬g=gp:=λe=>W.rd.bQ.cZ W.rd.row (by decide) e.symm;have oh:¬gp=g:=λe=>mz e.symm;simp at p2 p3 p4 p5;clear iB bO iC iD iE dU W iG bZ iI X;cases b with
    |true=>
     go_wp2;go_end0;have hq:=(C.out.iF 5 (.bool true) (vm':=.slice av nv cv) (ms':=true) rfl ⟨_,_,_,rfl⟩).iF 4 (.slice a5 n5 c5) (vm':=.slice a5 n5 c5) (ms':=true) rfl ⟨_,_,_,rfl⟩;have mG:Ac (λx=>B<=x) P ((P.setCell ⟨gp,5,none⟩ (.bool true)).setCell ⟨gp,4,none⟩ (.slice a5 n5 c5)):=((Ac.refl _ P).setCell (p:=⟨gp,5,none⟩) C.out.p0 _).setCell (p:=⟨gp,4,none⟩) C.out.p0 _;refine⟨rfl,Z.out.trans mG,.slice a5 n5 c5,true,r5,hs,rs,hq,dV.out,Q.out,λst' e L=>?_⟩;obtain⟨Y,m1,m2,m3,m4⟩:=u.out st' e L;rw[m2];have H:∀x cs,B<=x->AF P x 155 cs->((P.setCell ⟨gp,5,none⟩ (.bool true)).setCell ⟨gp,4,none⟩ (.slice a5 n5 c5)).heap[x]?=P.heap[x]?:=λx cs _ hr=>by have bP:x≠gp:=hr.cZ C.out.rd.bQ (by decide);rw[F8 _ _ _ _ bP,F8 _ _ _ _ bP]
     exact(m4.oE m3 m1).kept H
    |false=>
     have i:r2.decls.length=r5.decls.length:=by rw[mg.out,Q.out]
     by_cases m:k<r5.decls.length
     ·have e9:decide ((k:Int)<(r2.decls.length:Int))=true:=by simp;omega
      obtain⟨gh,gI,eh,_,h9,dN,ik⟩:=C.out.ru.has.form (by omega);obtain⟨gr,cr,er,_,ny,nz,ol⟩:=C.out.ru.jm.form (by omega);obtain⟨D,E⟩:=zp2 C.out.ru.has C.out.ru.jm;obtain⟨qo,c⟩:=D.row (g:=gh) (by rw[eh];rfl);obtain⟨qp,G⟩:=E.row (g:=gr) (by rw[er];rfl);have n1:¬g=gh:=λe=>c.cZ C.out.rd.row (by decide) e.symm;have n2:¬gp=gh:=λe=>c.cZ C.out.rd.bQ (by decide) e.symm;have n3:¬gr=gh:=λe=>c.cZ G (by decide) e.symm;have n4:¬gh=gr:=λe=>n3 e.symm;obtain⟨i8,jd⟩:=zp2 C.out.ru.hl C.out.ru.rl;have f1:=λj=>c.frozen j;have f2:=λj=>G.frozen j;have d1:P.cell? ⟨gh,k,none⟩=some (.bool (hs.getD k false)):=by rw[eh]at D;have:=D.1.cellAt k (by omega);rw[At]at this;rw[this,List.getD,Ae (by omega)];rfl
      have d2:∃v,P.cell? ⟨gr,k,none⟩=some v:=by rw[er]at E;have:=E.1.cellAt k (by omega);rw[Ae (by omega)]at this;exact⟨_,this⟩
      obtain⟨v0,d2⟩:=d2;have nA:Value.slice ah r2.decls.length ch= .slice (some ⟨gh,0,none⟩) r5.decls.length gI:=eh;injection nA with y1 y2 y3;subst y1 y3;subst er;have dX:=C.out.qI (k:=k) (gh:=gh) (ch:=ch) (by rw[i]);have je:=dX.1.qJ (k:=k) (gr:=gr) (cr:=cr) rfl (v:=.slice a5 n5 c5) ⟨_,_,_,rfl⟩;obtain⟨nC,jf,cu,cw⟩:=zq4 dX je (And.intro c G) (And.intro i8 jd);unfold maxLen at dN nz;clear dX je D E c G i8 jd eh;rw[←i]at p2 ny h9 m;generalize fc:r2.decls.length=nn at*;have qt:=Aa fc;clear fc;have oo:=Aa i;clear i;go_wp2;go_end0;refine⟨rfl,Z.out.trans (nC.out.2.2.trans jf.out.2.2),.slice av nv cv,ms,r5,_,_,jf.out.1,dV.out,Q.out,λst' e L=>?_⟩;obtain⟨Y,m1,m2,m3,m4⟩:=u.out st' e L;rw[m2];have H:∀x cs,B<=x->AF P x 155 cs->((P.setCell ⟨gh,k,none⟩ (.bool true)).setCell ⟨gr,k,none⟩ (.slice a5 n5 c5)).heap[x]?=P.heap[x]?:=λx cs _ hr=>by have bP:x≠gh:=hr.cZ cu.out.1 (by decide);have jg:x≠gr:=hr.cZ cu.out.2 (by decide);rw[F8 _ _ _ _ jg,F8 _ _ _ _ bP]
      obtain⟨hx,hy⟩:=zp2 cw.out.1 cw.out.2;rw[Q.out]at hx hy;exact(m4.iH m3 m1 hx hy).kept H
     ·have e9:decide ((k:Int)<(r2.decls.length:Int))=false:=by simp;omega
      have nD:=Aa (show¬k<r.decls.length by rw[←Q.out];exact m);have qu:r2.decls.length<=k:=by omega
      clear m i;generalize fc:r2.decls.length=nn at*;go_wp2;go_end0;refine⟨rfl,Z.out,.slice av nv cv,ms,r5,hs,rs,C.out,dV.out,Q.out,λst' e L=>?_⟩;obtain⟨Y,m1,m2,m3,m4⟩:=u.out st' e L;simp only[Ap,A8]at m2 m3;rw[m2];have e2:∀j:Nat,j<r.decls.length->Bj (st.rules++[((k:Int),Y)]) (j:Int)=Bj st.rules (j:Int):=λj hj=>by rw[Hb _ _ _ _ m3,Ai (by have:=nD.out;omega)]
      have e1:Es (st.rules++[((k:Int),Y)])=Es st.rules:=by unfold Es;rw[Hb _ _ _ _ m3,Ai (by omega)]
      exact⟨by rw[e1];exact m4.ms,by rw[e1];exact m4.vm,λj hj=>by rw[e2 j hj];exact m4.hs j hj,λj hj=>by rw[e2 j hj];exact m4.rs j hj⟩
end
end Go.Proofs.YtodkkholbjeioaaGreatDoor.Ev
namespace Go.Proofs.YtodkkholbjeioaaGreatDoor.Ev
open _root_.Go.Proofs.Tryz
def KM (x:CN):Bool:=x.is==Bx||x.is==Ek
def J3 (s:Ah):Nat->Nat->List CN
 |0,_=>[]
 |n+1,i=>if KM (RN s i).1 then [(RN s i).1]else(RN s i).1::J3 s n (RN s i).2
theorem kU {k:Ah}:(GU k==Ek)=(k==Ek):=by
 unfold GU;split
 ·rename_i h;subst h;decide
 ·rfl
theorem eZ {k:Ah}:(GU k==Bx)=(k==Bx):=by
 unfold GU;split
 ·rename_i h;subst h;decide
 ·rfl
theorem XZ {x:CN}{t:M9}(h:x.Of t):KM x=final t:=by unfold KM final;rw[h.1,kU,eZ,Bool.or_comm]
theorem Vy (s:Ah):∀(n i:Nat),Eb (J3 s n i) (Iz s n i)
 |0,_=>trivial
 |n+1,i=>by
  obtain⟨a,b⟩:=aN s i;unfold J3 Iz;rw[XZ a];cases c:final (E9 s i).1 with
  |true=>exact⟨a,trivial⟩
  |false=>
   simp only[Ap,A8];rw[b c];exact⟨a,Vy s n _⟩
def Qm (s:Ah):List CN:=J3 s (s.length+1) 0
theorem aJ (s:Ah):Eb (Qm s) (ji s):=Vy s _ _
theorem kp (s:Ah):(Qm s).length<=s.length+1:=by rw[(aJ s).len];exact oN s
theorem iU (s:Ah) (i:Nat) (h:i<=s.length) (e:KM (RN s i).1=false):i<(RN s i).2/\(RN s i).2<=s.length:=by obtain⟨f,g⟩:=aN s i;rw[XZ f]at e;rw[g e];obtain⟨a,b,c,d⟩:=J8 s i h;obtain⟨e1,j⟩:=ry e;have:=d e1 j;omega
def Fv (s:Ah) (p:Nat):Nat:=
 match s[p]? with
 |none=>p
 |some c=>if low c then skip low s p else if Gq c then skip Gq s p else if Im c then p+1 else p
def MB (s:Ah) (p:Nat):Ah:=
 match s[p]? with
 |none=>Ek
 |some c=>
  if low c then(if 8<skip low s p-p then Bx else if A3.contains (Dm s p (skip low s p))then Dm s p (skip low s p)else Ch)
  else if Gq c then(if 3<skip Gq s p-p then Bx else KQ)
  else if Im c then [c]else Bx
theorem VK (s:Ah) (p:Nat):Dm s p p=[]:=by unfold Dm;exact Mz (by simp;omega)
theorem X7 {s:Ah}{p:Nat}{c:UInt8}(h:s[p]?=some c):Dm s p (p+1)=[c]:=by obtain⟨a,b⟩:=Aj.1 h;unfold Dm;rw[XF,B7,DO a,b];rfl
theorem uV (s:Ah) (i:Nat):RN s i=(⟨MB s (skip blank s i),Dm s (skip blank s i) (Fv s (skip blank s i)),skip blank s i⟩,Fv s (skip blank s i)):=by
 unfold RN MB Fv;simp only;generalize skip blank s i=p;cases a:s[p]? with
 |none=>simp only[VK]
 |some c=>
  simp only;cases b:low c with
  |true=>
   simp only[A7];split<;>rfl
  |false=>
   simp only[Ap,A8];cases d:Gq c with
   |true=>
    simp only[A7];split<;>rfl
   |false=>
    simp only[Ap,A8];cases e:Im c with
    |true=>simp only[A7,X7 a]
    |false=>simp only[Ap,A8,VK]
theorem eC {s:Ah}{p:Nat}(h:s[p]?=none):MB s p=Ek/\Fv s p=p:=by unfold MB Fv;rw[h];exact⟨rfl,rfl⟩
theorem j4 {s:Ah}{p:Nat}{c:UInt8}(h:s[p]?=some c) (a:low c=true):MB s p=(if 8<skip low s p-p then Bx else if A3.contains (Dm s p (skip low s p))then Dm s p (skip low s p)else Ch)/\Fv s p=skip low s p:=by unfold MB Fv;rw[h];simp only[a,A7];exact⟨trivial,trivial⟩
theorem j5 {s:Ah}{p:Nat}{c:UInt8}(h:s[p]?=some c) (a:low c=false) (b:Gq c=true):MB s p=(if 3<skip Gq s p-p then Bx else KQ)/\Fv s p=skip Gq s p:=by unfold MB Fv;rw[h];simp only[a,b,A7,Ap,A8];exact⟨trivial,trivial⟩
theorem ap {s:Ah}{p:Nat}{c:UInt8}(h:s[p]?=some c) (a:low c=false) (b:Gq c=false) (d:Im c=true):MB s p=[c]/\Fv s p=p+1:=by unfold MB Fv;rw[h];simp only[a,b,d,A7,Ap,A8];exact⟨trivial,trivial⟩
theorem oO {s:Ah}{p:Nat}{c:UInt8}(h:s[p]?=some c) (a:low c=false) (b:Gq c=false) (d:Im c=false):MB s p=Bx/\Fv s p=p:=by unfold MB Fv;rw[h];simp only[a,b,d,Ap,A8];exact⟨trivial,trivial⟩
end Go.Proofs.YtodkkholbjeioaaGreatDoor.Ev
namespace Go.Proofs.YtodkkholbjeioaaGreatDoor.Ev
open _root_.Go.Proofs.Tryz
open Go Go.RowKit
structure M8 (w:World) (gw:Nat×Nat):Prop where
 head:w.cell? ⟨3,0,none⟩=some (.slice (some ⟨gw.1,gw.2,none⟩) 24 24)
 at_:∀j,j<24->w.cell? ⟨gw.1,gw.2+j,none⟩=some (vs (A3.getD j []))
 lt:3<w.heap.size/\gw.1<w.heap.size
theorem M8.kept {w w':World}{gw:Nat×Nat}(h:M8 w gw) (a:Ac (λb=>w.heap.size<=b) w w'):M8 w' gw:=
 ⟨(a.cell (p:=⟨3,0,none⟩) (by have:=h.lt.1;simp only;omega)).trans h.head,λj c=>(a.cell (p:=⟨gw.1,gw.2+j,none⟩) (by have:=h.lt.2;simp only;omega)).trans (h.at_ j c),An h.lt.1 a.size,An h.lt.2 a.size⟩
theorem qh:(prog.info? 138).map (λi=>(i.zero,i.size,i.bytes))=some (some (.agg #[vs [],vs [],.int .i64 0]),3,40):=by kernel_rfl
section
variable {w:World}
theorem VD (c:UInt8):Calls prog 82 #[.int .u8 c.toNat] w λe w'=>e= .returned (.bool (low c))/\w'=w:=by
 rcases Ts c with⟨a,l1,l2⟩|⟨a,l1⟩|⟨a,l1,l2⟩
 ·rw[a];clear a;go_enter func82,ntmps82;go_wp2;go_ret;exact⟨rfl,rfl⟩
 ·rw[a];clear a;go_enter func82,ntmps82;go_wp2;go_ret;exact⟨rfl,rfl⟩
 ·rw[a];have e1:decide ((c.toNat:Int)<=122)=false:=by simp;omega
  clear a;go_enter func82,ntmps82;go_wp2;go_ret;exact⟨rfl,rfl⟩
theorem aS (c:UInt8):Calls prog 83 #[.int .u8 c.toNat] w λe w'=>e= .returned (.bool (Gq c))/\w'=w:=by
 rcases TF c with⟨a,l1,l2⟩|⟨a,l1⟩|⟨a,l1,l2⟩
 ·rw[a];clear a;go_enter func83,ntmps83;go_wp2;go_ret;exact⟨rfl,rfl⟩
 ·rw[a];clear a;go_enter func83,ntmps83;go_wp2;go_ret;exact⟨rfl,rfl⟩
 ·rw[a];have e1:decide ((c.toNat:Int)<=57)=false:=by simp;omega
  clear a;go_enter func83,ntmps83;go_wp2;go_ret;exact⟨rfl,rfl⟩
end
structure TL (w wr:World) (s:Ah) (m i:Nat) (done:List CN) (a:Option Addr) (n c:Nat):Prop where
 kept:Ac (λb=>w.heap.size<=b) w wr
 nn:n=done.length
 sl:Sl (λb=>w.heap.size<=b) wr 138 3 (.slice a n c) n (done.flatMap Lp)
 eq:done++J3 s (m+1) i=Qm s
 i1:i<=s.length
 m1:s.length<=i+m
 dl:done.length<=i
theorem TL.start (w:World) (s:Ah):TL w w s s.length 0 [] none 0 0:=⟨Ac.refl _ _,rfl,⟨Cn _ _ _ _,λg a=>by cases a⟩,rfl,AM _,by omega,AM _⟩
theorem TL.drewN {w wr:World}{s:Ah}{m i:Nat}{done:List CN}{a:Option Addr}{n c:Nat}(h:TL w wr s m i done a n c) (k:Nat):TL w (wr.drewN k) s m i done a n c:=⟨h.kept.drewN k,h.nn,h.sl.of_heap rfl,h.eq,h.i1,h.m1,h.dl⟩
theorem TL.next {w wr w3:World}{s:Ah}{m i:Nat}{done:List CN}{a:Option Addr}{n c:Nat}(h:TL w wr s m i done a n c) {x:CN}{E:Nat}(g:RN s i=(x,E)) (j:KM x=false) (l:Ac (λb=>w.heap.size<=b) w w3) {g2 c2:Nat}
  (o:Sl (λb=>w.heap.size<=b) w3 138 3 (.slice (some ⟨g2,0,none⟩) (n+1) c2) (n+1) (done.flatMap Lp++Lp x)):(∃m',TL w w3 s m' E (done++[x]) (some ⟨g2,0,none⟩) (n+1) c2)/\i<E/\E<=s.length:=by
 have f:=iU s i h.i1 (by rw[g];exact j);rw[g]at f;have d:=h.eq;rw[J3,g]at d;simp only[j,Ap,A8]at d;have p:=h.m1;obtain⟨k,o2⟩:=f;simp only at k o2;refine⟨⟨m-1,l,by rw[Ao,←h.nn];rfl,by rw[KI];simpa using o,?_,o2,by omega,by have:=h.dl;simp;omega⟩,k,o2⟩;have e:m-1+1=m:=by omega
 rw[e,AL];exact d
theorem TL.last {w wr w3:World}{s:Ah}{m i:Nat}{done:List CN}{a:Option Addr}{n c:Nat}(h:TL w wr s m i done a n c) {x:CN}{E:Nat}(e:RN s i=(x,E)) (f:KM x=true) {g2 c2:Nat}
  (g:Sl (λb=>w.heap.size<=b) w3 138 3 (.slice (some ⟨g2,0,none⟩) (n+1) c2) (n+1) (done.flatMap Lp++Lp x)):Sl (λb=>w.heap.size<=b) w3 138 3 (.slice (some ⟨g2,0,none⟩) (n+1) c2) (Qm s).length ((Qm s).flatMap Lp):=by
 have d:=h.eq;rw[J3,e]at d;simp only[f,A7]at d;rw[←d,KI,Ao,←h.nn];simpa using g
theorem TL.qK {w wr wc w3:World}{s:Ah}{m i:Nat}{done:List CN}{a:Option Addr}{n c:Nat}(h:TL w wr s m i done a n c) (f:Ac (λb=>wr.heap.size<=b) wr wc) {o:Obj}
  (g:Ac (λb=>(Value.slice a n c).ownBlock=some b\/(wc.alloc o).heap.size<=b) (wc.alloc o) w3):Ac (λb=>w.heap.size<=b) w w3:=by
 have d:=h.kept.size;refine h.kept.trans ((f.mono (λb j=>Ad d j)).trans ((zAr.alloc (Ad d f.size) o).trans (g.mono (λb j=>j.elim (λe=>h.sl.2 b e) (λe=>?_)))));have:=f.size;simp at e;omega
def Ahi (w:World) (s:Ah) (e:Ending) (w':World):Prop:=
 Ac (λb=>w.heap.size<=b) w w'/\∃v,e= .returned v/\Sl (λb=>w.heap.size<=b) w' 138 3 v (Qm s).length ((Qm s).flatMap Lp)
theorem jb (a:Ah) (j:Nat) (b:j<24):(A3.take (j+1)).contains a=((A3.take j).contains a||(A3.getD j []==a)):=by
 have h:j<A3.length:=b;rw[iq h];have e:A3.getD j []=A3[j]:=by simp only[List.getD,Ae h,Ih]
 rw[e];generalize A3[j]=k;generalize A3.take j=l;have c:(l++[k]).contains a=(l.contains a|| [k].contains a):=by rw[GH,tG,CP,CP,CP,CD]
 rw[c];congr 1;rw[GH,CP,Ec,Qb];exact eq_comm
def lE (a:Ah) (j:Nat):Ah:=if(A3.take j).contains a then a else Ch
theorem pW {a:Ah}{j:Nat}(b:j<24) (h:(A3.getD j []==a)=true):lE a (j+1)=A3.getD j []:=by unfold lE;rw[jb a j b,h,UN,Al rfl];exact(by simpa using h:A3.getD j []=a).symm
theorem vM {a:Ah}{j:Nat}(b:j<24) (h:(A3.getD j []==a)=false):lE a (j+1)=lE a j:=by unfold lE;rw[jb a j b,h,Bool.or_false]
section
variable {w:World}{gw:Nat×Nat}{s:Ah}
theorem eB (hw:M8 w gw) (hl:s.length<=1000):Calls prog 52 #[vs s] w (Ahi w s):=by
 obtain⟨i0,bY,bZ,ci,cj⟩:=Bg qh;obtain⟨gw,ow⟩:=gw;have HW:=Aa hw;clear hw;unfold vs at*;go_enter func52,ntmps52;go_wp2_with fail
 go_loopg [3,4] (s.length+1) (λgg s3 s4 wr=>∃(m i:Nat) (done:List CN) (a:Option Addr) (n c:Nat),s3= .slice a n c/\s4= .int .i64 i/\s.length+1-i<=gg/\TL w wr s m i done a n c)
 case atStart=>exact⟨s.length,0,[],none,0,0,rfl,rfl,by omega,TL.start w s⟩
 case round=>
  obtain⟨m,i,done,a,n,c,rfl,rfl,hg,hT⟩:=hrel;obtain⟨HT,HG⟩:=zq2 hT hg;have cu:=hT.i1;clear hT hg;go_upto_block 2 with fail;go_cut [4] (λs4 W=>s4= .int .i64 (skip blank s i:Nat)/\∃q,W=wr.drewN q)
  case first=>
   go_wp2_with fail
   go_loopg [4] (s.length-i) (λk s4 wz=>∃j:Nat,k=s.length-j/\i<=j/\j<=s.length/\s4= .int .i64 j/\skip blank s j=skip blank s i/\∃q,wz=wr.drewN q)
   case atStart=>exact⟨i,rfl,Ab _,cu,rfl,rfl,0,rfl⟩
   case round=>
    obtain⟨j,y,dN,dO,rfl,G,q,rfl⟩:=hrel;obtain⟨H,z⟩:=zq2 y G;clear y G;have dP:=Ay s;by_cases D:j<s.length
    ·obtain⟨d,S⟩:∃d,s[j]?=some d:=⟨_,Ae D⟩;obtain⟨hy,dQ⟩:=OY S;have I:=Aa (LC blank s j d S);clear S;by_cases hb:blank d=true
     ·have fN:d=32\/d=10:=by simpa[blank]using hb
      have HB:=Aa hb;clear hb;rcases fN with rfl|rfl
      all_goals
       go_wp2;go_roundg (s.length-(j+1))
       case measure=>have:=H.out;omega
       case rel=>
        have F:=I.out;rw[Al HB.out,z.out]at F;exact⟨j+1,rfl,by omega,by omega,by go_num,F.symm,q,rfl⟩
     ·have e1:((d.toNat:Int)==32)=false:=by simp only[BJ,ne_eq];intro e;apply hb;have:d=32:=sA.1 (by show d.toNat=32;omega);rw[this];rfl
      have e2:((d.toNat:Int)==10)=false:=by simp only[BJ,ne_eq];intro e;apply hb;have:d=10:=sA.1 (by show d.toNat=10;omega);rw[this];rfl
      have e3:decide ((d.toNat:Int)=32)=false:=by simpa using e1
      have e4:decide ((d.toNat:Int)=10)=false:=by simpa using e2
      have HB:=Aa hb;clear hb;go_wp2;go_meet;have F:=I.out;rw[Ai HB.out,z.out]at F;rw[F];exact⟨rfl,q,rfl⟩
    ·have X:j=s.length:=by omega
     have A:=Nm blank s j (by simp;omega);rw[z.out]at A;have Y:=Aa A;have S:decide ((j:Int)<(s.length:Int))=false:=by simp;omega
     clear A X;go_wp2;go_meet;rw[Y.out];exact⟨rfl,q,rfl⟩
  case rest=>
   obtain⟨rfl,q,rfl⟩:=hcut;obtain⟨lQ,M⟩:=MC blank s i cu;have hT:=HT.out.drewN q;have dR:=uV s i;obtain⟨r,cw⟩:=zq2 hT dR;clear hT dR HT;generalize wr.drewN q=g at*;generalize skip blank s i=p at*;have dS:Ac (λb=>g.heap.size<=b) g (g.alloc (.cells #[vs Bx,vs [],.int .i64 p] 138)):=zAr.alloc (Ab _) _;have bV:=AF.new g 138 [vs Bx,vs [],.int .i64 p];obtain⟨bO,T⟩:=zq2 dS bV;clear dS bV;unfold vs at*;go_upto_block 4 with fail;go_cut [6] (λs6 W=>s6= .int .i64 (Fv s p:Nat)/\Ac (λb=>g.heap.size<=b) g W/\AF W g.heap.size 138 [vs (MB s p),vs [],.int .i64 p])
   case first=>
    have dP:=Ay s;have fP:s[p]?=none\/∃c,s[p]?=some c:=by
     cases s[p]? with
     |none=>exact .inl rfl
     |some c=>exact .inr ⟨c,rfl⟩
    have dU:=Aa (HW.out.kept r.out.kept);rcases fP with Z|⟨c,U⟩
    ·have fR:p=s.length:=by
      have:s.length<=p:=by simpa using Z
      omega
     have HI:=Aa (eC Z);clear Z;subst fR;go_wp2;go_meet;rw[HI.out.1,HI.out.2];exact⟨rfl,zAr.alloc (Ab _) _,AF.new g 138 [vs Ek,vs [],.int .i64 s.length]⟩
    ·have dV:p<s.length:=by
      rcases Be p s.length with h|h
      ·exact h
      ·rw[Bl h]at U;cases U
     obtain⟨hx,lR⟩:=OY U;have lS:((p:Int)==(s.length:Int))=false:=by simp;omega
     have ji:decide ((p:Int)=(s.length:Int))=false:=by simp;omega
     cases l:low c with
     |true=>
      obtain⟨N,dW,B⟩:=zq3 (j4 U l) l (VD (w:=g.alloc (.cells #[vs Bx,vs [],.int .i64 p] 138)) c);rw[l]at B;clear U l;unfold vs at B;go_wp2_with fail;refine B.out.mono ?_;rintro e w1 ⟨rfl,rfl⟩;go_upto_block 5 with fail;go_cut [6] (λs6 W=>s6= .int .i64 (skip low s p:Nat)/\W=(g.alloc (.cells #[vs Bx,vs [],.int .i64 p] 138)))
      case first=>
       go_wp2_with fail
       go_loopg [6] (s.length-p) (λk s6 wz=>∃j:Nat,k=s.length-j/\p<=j/\j<=s.length/\s6= .int .i64 j/\skip low s j=skip low s p/\wz=(g.alloc (.cells #[vs Bx,vs [],.int .i64 p] 138)))
       case atStart=>exact⟨p,rfl,Ab _,M,rfl,rfl,rfl⟩
       case round=>
        obtain⟨j,y,dN,dO,rfl,G,rfl⟩:=hrel;obtain⟨H,z⟩:=zq2 y G;clear y G;by_cases D:j<s.length
        ·obtain⟨d,S⟩:∃d,s[j]?=some d:=⟨_,Ae D⟩;obtain⟨hy,dQ⟩:=OY S;obtain⟨I,C⟩:=zq2 (LC low s j d S) (VD (w:=g.alloc (.cells #[vs Bx,vs [],.int .i64 p] 138)) d);clear S;unfold vs at C;cases t:low d with
         |true=>
          rw[t]at C;have O:=Aa t;clear t;go_wp2_with fail;refine C.out.mono ?_;rintro e w1 ⟨rfl,rfl⟩;go_wp2;go_roundg (s.length-(j+1))
          case measure=>have:=H.out;omega
          case rel=>
           have F:=I.out;rw[O.out,Al rfl,z.out]at F;exact⟨j+1,rfl,by omega,by omega,by go_num,F.symm,rfl⟩
         |false=>
          rw[t]at C;have O:=Aa t;clear t;go_wp2_with fail;refine C.out.mono ?_;rintro e w1 ⟨rfl,rfl⟩;go_wp2;go_meet;have F:=I.out;rw[O.out,Ai (by decide),z.out]at F;rw[F];exact⟨rfl,rfl⟩
        ·have X:j=s.length:=by omega
         have A:=Nm low s j (by simp;omega);rw[z.out]at A;have Y:=Aa A;have S:decide ((j:Int)<(s.length:Int))=false:=by simp;omega
         clear A X;go_wp2;go_meet;rw[Y.out];exact⟨rfl,rfl⟩
      case rest=>
       obtain⟨rfl,rfl⟩:=hcut;obtain⟨cy,cz⟩:=MC low s p M;have dX:=Aa (And.intro cy cz);have cB:=GA s p (skip low s p);generalize skip low s p=e at*;by_cases h8:8<e-p
       ·have cZ:(8:Int)<(e:Int)-(p:Int):=by omega
        have be:decide ((e:Int)-(p:Int)<=8)=false:=by simp;omega
        have H8:=Aa h8;clear h8;go_wp2;go_meet;rw[N.out.1,N.out.2,Al H8.out];exact⟨rfl,bO.out,T.out⟩
       ·have cZ:(e:Int)-(p:Int)<=8:=by omega
        have be:decide ((e:Int)-(p:Int)<=8)=true:=by simp;omega
        have H8:=Aa h8;clear h8;generalize hW:Dm s p e=f at*;have bR:=dU.out.kept ((Ac.refl _ g).alloc (Ab _) (.cells #[vs Ch,vs [],.int .i64 p] 138));obtain⟨hh,fS⟩:=zp2 bR.head bR.lt.2;dsimp only at hh fS;have lU:=Aa bR;clear bR;go_wp2_with fail
        go_loopg [60] 24 (λk fT wz=>∃j:Nat,k=24-j/\j<=24/\fT= .int .i64 j/\Ac (λb=>g.heap.size<=b) g wz/\AF wz g.heap.size 138 [vs (lE f j),vs [],.int .i64 p])
        case atStart=>exact⟨0,rfl,by omega,rfl,(Ac.refl _ g).alloc (Ab _) (.cells #[vs Ch,vs [],.int .i64 p] 138),AF.new g 138 [vs Ch,vs [],.int .i64 p]⟩
        case round=>
         obtain⟨j,y,hj,rfl,hk,hr⟩:=hrel;by_cases D:j<24
         ·have fU:=(dU.out.kept hk).at_ j D;dsimp only at fU;obtain⟨r0,rl⟩:=zp2 (hr.cell 0) hr.lt;have rf:=λj=>hr.frozen j;obtain⟨HK,HR,H⟩:=zq3 hk hr y;clear hk hr y;simp at r0;cases hm:(A3.getD j []==f)with
          |true=>
           have HY:=Aa (pW D hm);have gI:decide (A3.getD j []=f)=true:=by simpa using hm
           generalize A3.getD j []=kw at*;unfold vs at*;go_wp2;go_roundg (24-(j+1))
           case measure=>have:=H.out;omega
           case rel=>
            refine⟨j+1,rfl,by omega,by go_num,HK.out.setCell (p:=⟨g.heap.size,0,none⟩) (Ab _) _,?_⟩;rw[HY.out];exact HR.out.bM 0 (vs kw)
          |false=>
           have HY:=Aa (vM D hm);have gI:decide (A3.getD j []=f)=false:=by simpa using hm
           generalize A3.getD j []=kw at*;unfold vs at*;go_wp2;go_roundg (24-(j+1))
           case measure=>have:=H.out;omega
           case rel=>
            refine⟨j+1,rfl,by omega,by go_num,HK.out,?_⟩;rw[HY.out];exact HR.out
         ·have ik:j=24:=by omega
          subst ik;obtain⟨HK,HR⟩:=zq2 hk hr;clear hk hr y;go_wp2;go_meet;rw[N.out.1,N.out.2,Ai H8.out];exact⟨rfl,HK.out,HR.out⟩
     |false=>
      obtain⟨B,J⟩:=zq2 (VD (w:=g.alloc (.cells #[vs Bx,vs [],.int .i64 p] 138)) c) (aS (w:=g.alloc (.cells #[vs Bx,vs [],.int .i64 p] 138)) c);rw[l]at B;unfold vs at B J;cases v:Gq c with
      |true=>
       obtain⟨N,dW⟩:=zq2 (j5 U l v) (And.intro l v);rw[v]at J;clear U l v;go_wp2_with fail;refine B.out.mono ?_;rintro e w1 ⟨rfl,rfl⟩;go_wp2_with fail;refine J.out.mono ?_;rintro e w1 ⟨rfl,rfl⟩;go_upto_block 9 with fail;go_cut [6] (λs6 W=>s6= .int .i64 (skip Gq s p:Nat)/\W=(g.alloc (.cells #[vs Bx,vs [],.int .i64 p] 138)))
       case first=>
        go_wp2_with fail
        go_loopg [6] (s.length-p) (λk s6 wz=>∃j:Nat,k=s.length-j/\p<=j/\j<=s.length/\s6= .int .i64 j/\skip Gq s j=skip Gq s p/\wz=(g.alloc (.cells #[vs Bx,vs [],.int .i64 p] 138)))
        case atStart=>exact⟨p,rfl,Ab _,M,rfl,rfl,rfl⟩
        case round=>
         obtain⟨j,y,dN,dO,rfl,G,rfl⟩:=hrel;obtain⟨H,z⟩:=zq2 y G;clear y G;by_cases D:j<s.length
         ·obtain⟨d,S⟩:∃d,s[j]?=some d:=⟨_,Ae D⟩;obtain⟨hy,dQ⟩:=OY S;obtain⟨I,C⟩:=zq2 (LC Gq s j d S) (aS (w:=g.alloc (.cells #[vs Bx,vs [],.int .i64 p] 138)) d);clear S;unfold vs at C;cases t:Gq d with
          |true=>
           rw[t]at C;have O:=Aa t;clear t;go_wp2_with fail;refine C.out.mono ?_;rintro e w1 ⟨rfl,rfl⟩;go_wp2;go_roundg (s.length-(j+1))
           case measure=>have:=H.out;omega
           case rel=>
            have F:=I.out;rw[O.out,Al rfl,z.out]at F;exact⟨j+1,rfl,by omega,by omega,by go_num,F.symm,rfl⟩
          |false=>
           rw[t]at C;have O:=Aa t;clear t;go_wp2_with fail;refine C.out.mono ?_;rintro e w1 ⟨rfl,rfl⟩;go_wp2;go_meet;have F:=I.out;rw[O.out,Ai (by decide),z.out]at F;rw[F];exact⟨rfl,rfl⟩
         ·have X:j=s.length:=by omega
          have A:=Nm Gq s j (by simp;omega);rw[z.out]at A;have Y:=Aa A;have S:decide ((j:Int)<(s.length:Int))=false:=by simp;omega
          clear A X;go_wp2;go_meet;rw[Y.out];exact⟨rfl,rfl⟩
       case rest=>
        obtain⟨rfl,rfl⟩:=hcut;obtain⟨cy,cz⟩:=MC Gq s p M;have dX:=Aa (And.intro cy cz);generalize skip Gq s p=e at*;by_cases h8:3<e-p
        ·have cZ:(3:Int)<(e:Int)-(p:Int):=by omega
         have be:decide ((e:Int)-(p:Int)<=3)=false:=by simp;omega
         have H8:=Aa h8;clear h8;go_wp2;go_meet;rw[N.out.1,N.out.2,Al H8.out];exact⟨rfl,bO.out,T.out⟩
        ·have cZ:(e:Int)-(p:Int)<=3:=by omega
         have be:decide ((e:Int)-(p:Int)<=3)=true:=by simp;omega
         have H8:=Aa h8;clear h8;go_wp2;go_meet;rw[N.out.1,N.out.2,Ai H8.out];exact⟨rfl,(Ac.refl _ g).alloc (Ab _) (.cells #[vs KQ,vs [],.int .i64 p] 138),AF.new g 138 [vs KQ,vs [],.int .i64 p]⟩
      |false=>
       rw[v]at J;have dF:=X7 U;have cB:=GA s p (p+1);rw[dF]at cB;have iu:(p:Int)+1<=(s.length:Int):=by omega
       have jl:(p:Int)<=(p:Int)+1:=by omega
       obtain⟨HP,HN⟩:=zq2 (λhp:Im c=true=>ap U l v hp) (λhp:Im c=false=>oO U l v hp);clear U l v;cases P:Im c with
       |true=>
        have ix:c=59\/c=123\/c=125\/c=60:=by simpa[Im,or_assoc]using P
        have N:=Aa (HP.out P);clear P dF;go_wp2_with fail;refine B.out.mono ?_;rintro e w1 ⟨rfl,rfl⟩;go_wp2_with fail;refine J.out.mono ?_;rintro e w1 ⟨rfl,rfl⟩;clear B J;rcases ix with rfl|rfl|rfl|rfl
        all_goals
         go_wp2;go_meet;rw[N.out.1,N.out.2];exact⟨by go_num,(Ac.refl _ g).alloc (Ab _) (.cells #[vs [_],vs [],.int .i64 p] 138),AF.new g 138 [vs [_],vs [],.int .i64 p]⟩
       |false=>
        have N:=Aa (HN.out P);have bI:∀k:UInt8,k=59\/k=123\/k=125\/k=60->¬(c.toNat:Int)=(k.toNat:Int):=by intro k hk e;have iy:c=k:=sA.1 (by omega);rw[iy]at P;rcases hk with rfl|rfl|rfl|rfl<;>exact absurd P (by decide)
        have d1:¬(c.toNat:Int)=59:=bI 59 (by decide);have d2:¬(c.toNat:Int)=123:=bI 123 (by decide);have d3:¬(c.toNat:Int)=125:=bI 125 (by decide);have d4:¬(c.toNat:Int)=60:=bI 60 (by decide);have b1:((c.toNat:Int)==59)=false:=by simpa using d1
        have b2:((c.toNat:Int)==123)=false:=by simpa using d2
        have b3:((c.toNat:Int)==125)=false:=by simpa using d3
        have b4:((c.toNat:Int)==60)=false:=by simpa using d4
        have n1:decide ((c.toNat:Int)=59)=false:=by simpa using d1
        have n2:decide ((c.toNat:Int)=123)=false:=by simpa using d2
        have n3:decide ((c.toNat:Int)=125)=false:=by simpa using d3
        have n4:decide ((c.toNat:Int)=60)=false:=by simpa using d4
        clear P bI dF;go_wp2_with fail;refine B.out.mono ?_;rintro e w1 ⟨rfl,rfl⟩;go_wp2_with fail;refine J.out.mono ?_;rintro e w1 ⟨rfl,rfl⟩;clear B J;go_wp2;go_meet;rw[N.out.1,N.out.2];exact⟨rfl,bO.out,T.out⟩
   case rest=>
    obtain⟨rfl,o,bJ⟩:=hcut;clear bO T;have iz:p<=Fv s p/\Fv s p<=s.length:=by
     unfold Fv;cases U:s[p]? with
     |none=>exact⟨Ab _,M⟩
     |some c=>
      simp only;have dV:=(Aj.1 U).1;obtain⟨a1,a2⟩:=MC low s p M;obtain⟨b1,b2⟩:=MC Gq s p M;split
      ·exact⟨a1,a2⟩
      ·split
       ·exact⟨b1,b2⟩
       ·split
        ·omega
        ·omega
    obtain⟨e1,e2⟩:=iz;obtain⟨cB,fc,dP,fd⟩:=zp4 (GA s p (Fv s p)) (iU s i cu) (Ay s) bJ.lt;have rf:=λj=>bJ.frozen j;have r1:=bJ.cell 1;simp at r1;have fx:=bJ.bM 1 (vs (Dm s p (Fv s p)));have fy:=o.setCell (p:=⟨g.heap.size,1,none⟩) (Ab _) (vs (Dm s p (Fv s p)));obtain⟨fB,fC,l8⟩:=zq3 fx fy fc;clear o bJ fx fy fc;generalize MB s p=K at*;generalize hE:Fv s p=E at*;generalize hP:Dm s p E=f at*;clear hE hP;unfold vs at*;go_upto_region 28 with fail;go_cut [] (λW=>Ac (λb=>g.heap.size<=b) g W/\AF W g.heap.size 138 [vs K,vs f,.int .i64 p])
    case first=>
     go_wp2;go_meet;exact⟨fC.out,fB.out⟩
    case rest=>
     clear fC fB rf fd r1;obtain⟨bT,Q⟩:=hcut;have iA:2<=maxLen:=by unfold maxLen;omega
     have iB:=r.out.nn;have iC:=r.out.dl;have fD:=(r.out.sl.kept bT (λb hb F=>by have:=r.out.sl.lt hb;omega)).alloc (.cells #[vs K,vs f,.int .i64 p] 138);have q1:w.heap.size<=(wc.alloc (.cells #[vs K,vs f,.int .i64 p] 138)).heap.size:=by have:=bT.size;have:=r.out.kept.size;simp;omega
     have q2:=C9 wc [vs K,vs f,.int .i64 p] 138;have q3:∀u∈ [vs K,vs f,.int .i64 p],u.oneCell'=true:=by intro u hu;simp at hu;rcases hu with rfl|rfl|rfl<;>rfl
     have q4:n+1<=maxLen:=by unfold maxLen;omega
     have q5:(n+1)*40<=140737488355328:=by omega
     obtain⟨c0,c1,c2,fd⟩:=zp4 (Q.cell 0) (Q.cell 1) (Q.cell 2) Q.lt;have fE:∀w3,Ac (λb=>(Value.slice a n c).ownBlock=some b\/(wc.alloc (.cells #[vs K,vs f,.int .i64 p] 138)).heap.size<=b) (wc.alloc (.cells #[vs K,vs f,.int .i64 p] 138)) w3->w3.cell? ⟨g.heap.size,0,none⟩=some (.string ⟨K.toArray⟩):=by
      intro w3 hk;have Z:¬((Value.slice a n c).ownBlock=some g.heap.size\/(wc.alloc (.cells #[vs K,vs f,.int .i64 p] 138)).heap.size<=g.heap.size):=by
       rintro(h1|h1)
       ·have:=r.out.sl.lt h1;omega
       ·simp at h1;omega
      exact(hk.cell (p:=⟨g.heap.size,0,none⟩) Z).trans ((Q.alloc _).cell 0)
     have dG:=Aa fE;clear fE;obtain⟨dH,Q1,Q2,Q3,dI,mg⟩:=zq6 fD q1 q2 q3 bT Q;clear fD q1 q2 q3 bT Q iB iA iC;simp at c0 c1 c2;unfold vs at*;by_cases R:K=Bx
     ·have b1:(K==Bx)=true:=by simpa using R
      have b2:decide (K=Bx)=true:=by simpa using R
      have HF:=Aa (show KM ⟨K,f,p⟩=true by unfold KM;rw[b1];rfl);clear R;go_wp2_with (at_builtin;go_must (refine DA dz bY bZ ci cj rfl (by decide) dH.out Q1.out rfl _ _ rfl rfl ⟨wc.heap.size,0,none⟩ 1 1 [.string ⟨K.toArray⟩,.string ⟨f.toArray⟩,.int .i64 p] rfl rfl Q2.out Q3.out q4 q5 (Ci _) ?_;intro g2 bW w3 L o x;have bK:=Aa L;have bL:=Aa o;have bX:=Aa x;have d0:=dG.out _ o;clear L o x));go_ret;exact⟨r.out.qK dI.out bL.out,_,rfl,r.out.last cw.out HF.out bK.out⟩
     ·have b1:(K==Bx)=false:=by simpa using R
      have b2:decide (K=Bx)=false:=by simpa using R
      by_cases V:K=Ek
      ·have b3:(K==Ek)=true:=by simpa using V
       have b4:decide (K=Ek)=true:=by simpa using V
       have HF:=Aa (show KM ⟨K,f,p⟩=true by unfold KM;rw[b3,UN]);clear R V;go_wp2_with (at_builtin;go_must (refine DA dz bY bZ ci cj rfl (by decide) dH.out Q1.out rfl _ _ rfl rfl ⟨wc.heap.size,0,none⟩ 1 1 [.string ⟨K.toArray⟩,.string ⟨f.toArray⟩,.int .i64 p] rfl rfl Q2.out Q3.out q4 q5 (Ci _) ?_;intro g2 bW w3 L o x;have bK:=Aa L;have bL:=Aa o;have bX:=Aa x;have d0:=dG.out _ o;clear L o x));go_ret;exact⟨r.out.qK dI.out bL.out,_,rfl,r.out.last cw.out HF.out bK.out⟩
      ·have b3:(K==Ek)=false:=by simpa using V
       have b4:decide (K=Ek)=false:=by simpa using V
       have HF:=Aa (show KM ⟨K,f,p⟩=false by unfold KM;rw[b1,b3];rfl);clear R V;go_wp2_with (at_builtin;go_must (refine DA dz bY bZ ci cj rfl (by decide) dH.out Q1.out rfl _ _ rfl rfl ⟨wc.heap.size,0,none⟩ 1 1 [.string ⟨K.toArray⟩,.string ⟨f.toArray⟩,.int .i64 p] rfl rfl Q2.out Q3.out q4 q5 (Ci _) ?_;intro g2 bW w3 L o x;have bK:=Aa L;have bL:=Aa o;have bX:=Aa x;have d0:=dG.out _ o;clear L o x));have fG:=r.out.next cw.out HF.out (r.out.qK dI.out bL.out) bK.out;have iT:=Aa fG;obtain⟨_,o1,o2⟩:=fG;go_roundg (s.length+1-E)
       case measure=>have:=HG.out;omega
       case rel=>
        obtain⟨⟨m',hL⟩,_,_⟩:=iT.out;exact⟨m',E,_,_,_,_,rfl,rfl,Ab _,hL⟩
end
end Go.Proofs.YtodkkholbjeioaaGreatDoor.Ev
