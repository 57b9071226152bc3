/- Lemmas for a law's walk. Conditions: none. -/
import Derived.Test.YtepoejiigmhlbaaGreatDoorZa16
set_option linter.all false
set_option maxRecDepth 100000
set_option maxHeartbeats 8000000
namespace Go.Proofs.YtepoejiigmhlbaaGreatDoor.Ev
open _root_.Go.Proofs.Tryz
open Go Go.RowKit
section
variable {w:World}{g gp:Nat}{tl:Value}{ts:List CM}{pc:List Value}{r:Fc}{s:Ah}{st:PS}
theorem Cs.jk {w w':World}{N:Nat->Prop}{v:Value}{b:Az}{t:List Value}(h:Cs N w v b) (c:Kg g w w') (d:AE w g 253 t):Cs N w' v b:=h.kept (λ_ _ _ a=>If c a.lt (a.bt d (by decide)))
theorem Cs.eV {w:World}{N:Nat->Prop}{v:Value}{b:Az}(h:Cs N w v b) {D:Nat}(a:∀k,N k->k≠D) (i:Nat) (u:Value):Cs N (w.setCell ⟨D,i,none⟩ u) v b:=
 h.kept (λk _ c _=>FY w ⟨D,i,none⟩ u k (a k c))
theorem Cs.eg {w:World}{N:Nat->Prop}{v:Value}{b:Az}(h:Cs N w v b) {C:Nat}(a:∀k,N k->k≠C) (i j l m n o p q t u c d e f:Value):Cs N (Nj w C i j l m n o p q t u c d e f) v b:=
 (((((((((((((h.eV a 0 i).eV a 1 j).eV a 2 l).eV a 3 m).eV a 4 n).eV a 5 o).eV a 6 p).eV a 7 q).eV a 8 t).eV a 9 u).eV a 10 c).eV a 11 d).eV a 12 e).eV a 13 f
def uZ (s:Ah) (n:Nat) (o:AO Unit):AO Az:=
 (CB s (n+1) o).bind λc st=>(block s n st).bind λt st=>
  if st.t.kind=Dl then(block s n (next s st)).bind λe st=>.ok (.ite c t true e .nil) st else .ok (.ite c t false .nil .nil) st
theorem Yp {n:Nat}{o:AO Unit}(h:(CY s n (Cz (CB s (n+1) o))).bu Dl=true):Cz (uZ s n o)=Cz (CY s n (DY s Dl (CY s n (Cz (CB s (n+1) o))))):=by
 unfold uZ;cases b:CB s (n+1) o with
 |bad e p=>rw[b]at h;cases h
 |ok c st1=>
  rw[b]at h;have e1:CY s n (Cz (AO.ok c st1))=block s n st1:=rfl;rw[e1]at h ⊢;show Cz ((block s n st1).bind _)=_;cases d:block s n st1 with
  |bad e p=>rw[d]at h;cases h
  |ok t a=>
   rw[d]at h;have f:a.t.kind=Dl:=by simpa[AO.bu]using h
   show Cz (if a.t.kind=Dl then _ else _)=_;rw[Al f];have i:DY s Dl (AO.ok t a)= .ok () (next s a):=by show AO.ok () (take s Dl a).2=_;unfold take;rw[Al f]
   rw[i];show Cz ((block s n (next s a)).bind _)=Cz (block s n (next s a));cases block s n (next s a)<;>rfl
theorem dJ {n:Nat}{o:AO Unit}(h:(CY s n (Cz (CB s (n+1) o))).bu Dl=false):Cz (uZ s n o)=Cz (DY s Dl (CY s n (Cz (CB s (n+1) o)))):=by
 rw[Gq h];unfold uZ;cases b:CB s (n+1) o with
 |bad e p=>rfl
 |ok c st1=>
  rw[b]at h;have e1:CY s n (Cz (AO.ok c st1))=block s n st1:=rfl;rw[e1]at h ⊢;show Cz ((block s n st1).bind _)=_;cases d:block s n st1 with
  |bad e p=>rfl
  |ok t a=>
   rw[d]at h;have f:¬a.t.kind=Dl:=by simpa[AO.bu]using h
   show Cz (if a.t.kind=Dl then _ else _)=_;rw[Ai f];rfl
theorem eQ {n:Nat}{o:AO Unit}{x:Az}{d:PS}(h:(CY s n (Cz (CB s (n+1) o))).bu Dl=true) (e:uZ s n o= .ok x d):
  ∃c st1 t a b,CB s (n+1) o= .ok c st1/\CY s n (Cz (CB s (n+1) o))= .ok t a/\CY s n (DY s Dl (CY s n (Cz (CB s (n+1) o))))= .ok b d/\x= .ite c t true b .nil:=by
 unfold uZ at e;obtain⟨c,st1,i,e⟩:=AC e;obtain⟨t,a,k,e⟩:=AC e;have e1:CY s n (Cz (CB s (n+1) o))= .ok t a:=by rw[i];exact k
 rw[e1]at h;have j:a.t.kind=Dl:=by simpa[AO.bu]using h
 rw[Al j]at e;obtain⟨b,l,m,e⟩:=AC e;injection e with f p;subst f p;refine⟨c,st1,t,a,b,i,e1,?_,rfl⟩;rw[e1];have f:DY s Dl (AO.ok t a)= .ok () (next s a):=by show AO.ok () (take s Dl a).2=_;unfold take;rw[Al j]
 rw[f];exact m
theorem pI {n:Nat}{o:AO Unit}{x:Az}{a:PS}(h:(CY s n (Cz (CB s (n+1) o))).bu Dl=false) (e:uZ s n o= .ok x a):
  ∃c st1 t,CB s (n+1) o= .ok c st1/\CY s n (Cz (CB s (n+1) o))= .ok t a/\x= .ite c t false .nil .nil:=by
 unfold uZ at e;obtain⟨c,st1,d,e⟩:=AC e;obtain⟨t,b,f,e⟩:=AC e;have e1:CY s n (Cz (CB s (n+1) o))= .ok t b:=by rw[d];exact f
 rw[e1]at h;have i:¬b.t.kind=Dl:=by simpa[AO.bu]using h
 rw[Ai i]at e;injection e with j k;subst j k;exact⟨c,st1,t,d,e1,rfl⟩
theorem Pd {N:Nat->Prop}{w:World}{c:C3}{t e:Az}{o:Bool}{a ve:Value}{cs:List Value}(b:cs=Ju c a o ve) (f:Cs N w a t) (d:if o then Cs N w ve e else ve=A4/\e= .nil):AL N w (.ite c t o e .nil) cs:=by
 refine⟨a,ve,[],by rw[b,AM],f,?_,rfl⟩;cases o with
 |true=>exact d
 |false=>exact d
theorem Uf {N:Nat->Prop}{w:World}{c:C3}{t:Az}{n:Int}{a:Value}{cs:List Value}(b:cs=H6 n c a) (d:Cs N w a t):AL N w (.rep n c t .nil) cs:=
 ⟨a,[],by rw[b,AM],d,rfl⟩
theorem oF (n:Nat) (dv:SG g gp tl ts pc s n) (h:Gj w g gp tl ts pc r) (hs:AF s r st) (ht:D6 ts (jj s)) (hl:s.length<=1000) (hd:st.depth<=8) (dz:st.loops<=2) (hn:2*left s st<=n) (i:st.t.kind=Ja):
  Calls prog 157 #[.pointer (some ⟨g,0,none⟩)] w (Sw w g gp tl ts pc s r.decls (uZ s n (.ok () (next s st)))):=by
 obtain⟨x,hx,dA⟩:=AF.tok hs ht;obtain⟨gt,ct,rfl,h1,h2,h3,h4,h5,t0,t1,t2⟩:=h.at_ hx;have eF:x.is=Ja:=by rw[dA.1,i];decide
 rw[eF]at t0;obtain⟨c0,c1,_⟩:=h.cells;have lj:=h.row.lt;have ff:=λj=>h.row.frozen j;have h8:=h.tl;have ll:r.k<ts.length:=h3;unfold maxLen at h2;have eG:Kg g w (w.setCell ⟨g,1,none⟩ (.int .i64 ((r.k:Int)+1))):=(Ac.refl _ w).setCell (p:=⟨g,1,none⟩) (.inl rfl) _;have q1:=(Mx.da (D:=w.heap.size+1) (RH.da (C:=w.heap.size) (ty:=262) eG (h.put 1 (.int .i64 ((r.k:Int)+1)) (r':=r.nx) rfl rfl) (by decide) IB (by simp)) [vs Ja,.int .i64 0,.int .i64 0,.bool false,vs [],.int .i64 0,vs [],.int .i64 0,vs [],.int .i64 0,.int .i64 0,.slice none 0 0,.slice none 0 0,.bool false] (by simp)).drewN 1;have eR:Bo s r.nx (AO.ok () (next s st)):=AF.next hs (by rw[i];decide) (by rw[i];decide);have eS:(next s st).Ok s:=Cc (AF.ok hs);have eT:=D3 (AF.ok hs) i (by decide) (by decide);have eU:=Xx q1.rd eR ht hl (n:=n+1) (show left s (next s st)<n+1 by omega);obtain⟨HT,M,eW,eX,Q1,HF⟩:=zq6 ht eS dv eU q1 (And.intro (show(next s st).depth<=8 from hd) (And.intro (show(next s st).loops<=2 from dz) (show 2*left s (next s st)+1<=n by omega)));generalize ic:r.k=kq at*;generalize ie:ts.length=LL at*;clear hx dA hs eR eS eF i ic ie h q1 ht t1 t2 eG dv eU eT hn hd dz;unfold vs at*;go_enter J3,I5;go_wp2;go_region;go_wp2_with fail;refine eX.out.mono ?_;rintro e w1 ⟨Y,Z,a1,n1,a2,n2,j0,rfl,eZ,fa,r1,fb,N,fc⟩;have p1:=Q1.out.call eZ fb;have z:=λj=>p1.bH.frozen j;obtain⟨e0,e1,F,e3,e4,e5,e6,e7,e8,e9,l,m,o,q⟩:=CR p1.bH;have q2:=((((((p1.cL 4 (vs Y)).cL 5 (.int .i64 Z)).cL 6 (vs a1)).cL 7 (.int .i64 n1)).cL 8 (vs a2)).cL 9 (.int .i64 n2)).cL 10 (.int .i64 j0);have u:=eW.out (Cz (CB s (n+1) (AO.ok () (next s st)))) _ r1 q2.rd (by
   cases hc:CB s (n+1) (AO.ok () (next s st))with
   |bad e p=>rw[hc]at N;exact N
   |ok c st1=>rw[hc]at N;exact N) (λa e=>by
   cases hc:CB s (n+1) (AO.ok () (next s st))with
   |bad F p=>rw[hc]at e;cases e
   |ok c st1=>
    rw[hc]at e;injection e with _ e;subst e;obtain⟨G,H,f3⟩:=HF.out;obtain⟨d,g2,_⟩:=Jx M.out hc;exact⟨by rw[d.depth];exact G,by rw[d.loops];exact H,by omega⟩)
 rw[fc]at u;obtain⟨bG,Q2,fd⟩:=zq3 u q2 fa;clear p1 q2 eZ fa fb N fc u eX Q1;unfold vs at*;go_wp2_with fail;clear e0 e1 F e3 e4 e5 e6 e7 e8 e9 l m o q z;refine bG.out.mono ?_;rintro e w2 ⟨I,J,K,rfl,bI,cy,r2,cz,cD,cW⟩;have p2:=Q2.out.call bI cz;have z:=λj=>p2.bH.frozen j;obtain⟨e0,e1,F,e3,e4,e5,e6,e7,e8,e9,l,m,o,q⟩:=CR p2.bH;have q3:=p2.cL 11 (.slice I J K);have bt:w.heap.size+1<w1.heap.size:=by have:=Q2.out.bH.lt;simp at this;exact this
 have O:∀b a,CY s n (Cz (CB s (n+1) (AO.ok () (next s st))))= .ok b a->a.bC=none->Cs (λk=>w.heap.size+1<k) (w2.setCell ⟨w.heap.size+1,11,none⟩ (.slice I J K)) (.slice I J K) b:=λb a e v=>
  ((cy b a e v).mono (λk _ i=>by simp at i;omega)).eV (λk i=>by omega) 11 _
 have A:=FI q3.rd cD HT.out (kd:=Dl) (kr:=Dl) (by decide) (by decide) (by decide) (by decide);rw[cW]at A;obtain⟨W,Q3⟩:=zq2 O q3;cases L:(CY s n (Cz (CB s (n+1) (AO.ok () (next s st))))).bu Dl with
 |true=>
  rw[L]at A;obtain⟨P,B⟩:=zq2 A L;clear p2 q3 bI cy cz cD cW O A L bG Q2 bt;unfold vs at*;go_wp2_with fail;clear e0 e1 F e3 e4 e5 e6 e7 e8 e9 l m o q z;refine P.out.mono ?_;rintro e w3 ⟨rfl,E,r3,Q,R,S⟩;have T:=Q3.out.call E Q;have z:=λj=>T.bH.frozen j;obtain⟨e0,e1,F,e3,e4,e5,e6,e7,e8,e9,l,m,o,q⟩:=CR T.bH;have q4:=T.cL 13 (.bool true);have bx:∀b a,CY s n (Cz (CB s (n+1) (AO.ok () (next s st))))= .ok b a->a.bC=none->Cs (λk=>w.heap.size+1<k) (w3.setCell ⟨w.heap.size+1,13,none⟩ (.bool true)) (.slice I J K) b:=λb a e v=>
   ((W.out b a e v).jk E Q3.out.rd.row).eV (λk i=>by omega) 13 _
  have u:=eW.out (DY s Dl (CY s n (Cz (CB s (n+1) (AO.ok () (next s st)))))) _ r3 q4.rd R (λa e=>by
   obtain⟨G,H,f3⟩:=HF.out;obtain⟨t1,st1,e1,k1⟩:=AO.iP B.out;have iy:=e1;rw[e1]at e;obtain⟨c,lr,hc,hb⟩:=AC (show(CB s (n+1) (AO.ok () (next s st))).bind (λ_ st=>block s n st)= .ok t1 st1 from by
    rw[←iy];cases CB s (n+1) (AO.ok () (next s st))<;>rfl)
   obtain⟨d,g2,_⟩:=Jx M.out hc;obtain⟨b1,_,_,_,_,b6⟩:=DT d.ok (by rw[d.depth];exact G) (by rw[d.loops];exact H) hb;have F:DY s Dl (AO.ok t1 st1)= .ok () (next s st1):=by show AO.ok () (take s Dl st1).2=_;unfold take;rw[Al k1]
   rw[F]at e;injection e with _ e;subst e;have iW:=D3 b1.ok k1 (by decide) (by decide);exact⟨by show st1.depth<=8;rw[b1.depth,d.depth];exact G,by show st1.loops<=2;rw[b1.loops,d.loops];exact H,by omega⟩)
  rw[S]at u;obtain⟨bz,fi,Q4⟩:=zq3 u bx q4;have fm:w.heap.size+1<w3.heap.size:=by have:=Q4.out.bH.lt;simp at this;exact this
  clear T q4 E Q R S u bx P Q3 W;go_wp2_with fail;clear e0 e1 F e3 e4 e5 e6 e7 e8 e9 l m o q z;refine bz.out.mono ?_;rintro e w4 ⟨ua,un,uc,rfl,cZ,fo,r4,fp,ft,fP⟩;have p4:=Q4.out.call cZ fp;have z:=λj=>p4.bH.frozen j;have y:=λj=>p4.row.frozen j;obtain⟨e0,e1,F,e3,e4,e5,e6,e7,e8,e9,l,m,o,q⟩:=CR p4.bH;obtain⟨f0,G,H,f3,f4,f5,f6,f7,f8,f9,iG,iL,iM,iN⟩:=CR p4.row;have iO:¬w.heap.size=w.heap.size+1:=by omega
  have q9:=(p4.cL 12 (.slice ua un uc)).eg (vs Ja) (.int .i64 0) (.int .i64 0) (.bool false) (vs Y) (.int .i64 Z) (vs a1) (.int .i64 n1) (vs a2) (.int .i64 n2) (.int .i64 j0) (.slice I J K) (.slice ua un uc) (.bool true);have U:∀b a,CY s n (Cz (CB s (n+1) (AO.ok () (next s st))))= .ok b a->a.bC=none->Cs (λk=>w.heap.size<=k) (Nj (w4.setCell ⟨w.heap.size+1,12,none⟩ (.slice ua un uc)) w.heap.size (vs Ja) (.int .i64 0) (.int .i64 0) (.bool false) (vs Y) (.int .i64 Z) (vs a1) (.int .i64 n1) (vs a2) (.int .i64 n2) (.int .i64 j0) (.slice I J K) (.slice ua un uc) (.bool true)) (.slice I J K) b:=λb a e v=>
   ((((fi.out b a e v).jk cZ Q4.out.rd.row).eV (λk i=>by omega) 12 _).eg (C:=w.heap.size) (λk i=>by omega) _ _ _ _ _ _ _ _ _ _ _ _ _ _).mono (λk _ i=>by omega)
  have gQ:∀b a,CY s n (DY s Dl (CY s n (Cz (CB s (n+1) (AO.ok () (next s st))))))= .ok b a->a.bC=none->Cs (λk=>w.heap.size<=k) (Nj (w4.setCell ⟨w.heap.size+1,12,none⟩ (.slice ua un uc)) w.heap.size (vs Ja) (.int .i64 0) (.int .i64 0) (.bool false) (vs Y) (.int .i64 Z) (vs a1) (.int .i64 n1) (vs a2) (.int .i64 n2) (.int .i64 j0) (.slice I J K) (.slice ua un uc) (.bool true)) (.slice ua un uc) b:=λb a e v=>
   (((((fo b a e v).mono (N':=λk=>w.heap.size+1<k) (λk _ i=>by simp at i;omega))).eV (D:=w.heap.size+1) (λk i=>by omega) 12 _).eg (C:=w.heap.size) (λk i=>by omega) _ _ _ _ _ _ _ _ _ _ _ _ _ _).mono (λk _ i=>by omega)
  obtain⟨db,iQ,Q9,zV0,FD⟩:=zq5 U gQ q9 ft fP;clear p4 q9 cZ fp ft fP fo U gQ bz Q4 fi fm;unfold vs at*;go_wp2;refine AA (AP (cs:=[vs Ja,.int .i64 0,.int .i64 0,.bool false,vs Y,.int .i64 Z,vs a1,.int .i64 n1,vs a2,.int .i64 n2,.int .i64 j0,.slice I J K,.slice ua un uc,.bool true]) Fm JE Hq rfl Q9.out.row) rfl ?_;refine⟨_,rfl,⟨_,_,_,_,_,_,_,_,_,_,_,_,_,_,_,_,_,_,rfl⟩,Q9.out.kg,λx9 a e v=>?_,r4,Q9.out.rd,zV0.out.fj (Yp B.out),FD.out⟩;obtain⟨c,st1,tb,f,eb,X,V,u3,rfl⟩:=eQ B.out e;have gX:f.bC=none:=by
   obtain⟨t1,lJ,e1,k1⟩:=AO.iP B.out;rw[V]at e1;injection e1 with _ e1;subst e1;rw[V]at u3;have F:DY s Dl (AO.ok tb f)= .ok () (next s f):=by show AO.ok () (take s Dl f).2=_;unfold take;rw[Al k1]
   rw[F]at u3;obtain⟨G,H,f3⟩:=HF.out;obtain⟨d,g2,_⟩:=Jx M.out X;have hb:block s n st1= .ok tb f:=by rw[X]at V;exact V
   obtain⟨b1,_,_,_,_,b6⟩:=DT d.ok (by rw[d.depth];exact G) (by rw[d.loops];exact H) hb;obtain⟨b9,_⟩:=DT (Cc b1.ok) (by show f.depth<=8;rw[b1.depth,d.depth];exact G) (by show f.loops<=2;rw[b1.loops,d.loops];exact H) (show block s n (next s f)= .ok eb a from u3);exact b9.bC v
  have di:st1.bC=none:=by
   obtain⟨G,H,f3⟩:=HF.out;obtain⟨d,g2,_⟩:=Jx M.out X;have hb:block s n st1= .ok tb f:=by rw[X]at V;exact V
   exact(DT d.ok (by rw[d.depth];exact G) (by rw[d.loops];exact H) hb).1.bC gX
  have dj:=fd.out c st1 X di;exact Pd (by unfold Ju;rw[←dj];rfl) (db.out tb f V gX) (iQ.out eb a u3 v)
 |false=>
  rw[L]at A;obtain⟨P,B⟩:=zq2 A L;clear p2 q3 bI cy cz cD cW O A L bG Q2 bt;unfold vs at*;go_wp2_with fail;clear e0 e1 F e3 e4 e5 e6 e7 e8 e9 l m o q z;refine P.out.mono ?_;rintro e w3 ⟨rfl,E,r3,Q,R,S⟩;have T:=Q3.out.call E Q;have z:=λj=>T.bH.frozen j;have y:=λj=>T.row.frozen j;obtain⟨e0,e1,F,e3,e4,e5,e6,e7,e8,e9,l,m,o,q⟩:=CR T.bH;obtain⟨f0,G,H,f3,f4,f5,f6,f7,f8,f9,iG,iL,iM,iN⟩:=CR T.row;have iO:¬w.heap.size=w.heap.size+1:=by omega
  have q9:=(T.cL 13 (.bool false)).eg (vs Ja) (.int .i64 0) (.int .i64 0) (.bool false) (vs Y) (.int .i64 Z) (vs a1) (.int .i64 n1) (vs a2) (.int .i64 n2) (.int .i64 j0) (.slice I J K) (.slice none 0 0) (.bool false);have U:∀b a,CY s n (Cz (CB s (n+1) (AO.ok () (next s st))))= .ok b a->a.bC=none->Cs (λk=>w.heap.size<=k) (Nj (w3.setCell ⟨w.heap.size+1,13,none⟩ (.bool false)) w.heap.size (vs Ja) (.int .i64 0) (.int .i64 0) (.bool false) (vs Y) (.int .i64 Z) (vs a1) (.int .i64 n1) (vs a2) (.int .i64 n2) (.int .i64 j0) (.slice I J K) (.slice none 0 0) (.bool false)) (.slice I J K) b:=λb a e v=>
   ((((W.out b a e v).jk E Q3.out.rd.row).eV (λk i=>by omega) 13 _).eg (C:=w.heap.size) (λk i=>by omega) _ _ _ _ _ _ _ _ _ _ _ _ _ _).mono (λk _ i=>by omega)
  obtain⟨db,Q9,zV0,FD⟩:=zq4 U q9 R S;clear T q9 E Q R S U P Q3 W;unfold vs at*;go_wp2;refine AA (AP (cs:=[vs Ja,.int .i64 0,.int .i64 0,.bool false,vs Y,.int .i64 Z,vs a1,.int .i64 n1,vs a2,.int .i64 n2,.int .i64 j0,.slice I J K,.slice none 0 0,.bool false]) Fm JE Hq rfl Q9.out.row) rfl ?_;refine⟨_,rfl,⟨_,_,_,_,_,_,_,_,_,_,_,_,_,_,_,_,_,_,rfl⟩,Q9.out.kg,λx9 a e v=>?_,r3,Q9.out.rd,zV0.out.fj (dJ B.out),FD.out⟩;obtain⟨c,st1,tb,X,V,rfl⟩:=pI B.out e;have di:st1.bC=none:=by
   obtain⟨G,H,f3⟩:=HF.out;obtain⟨d,g2,_⟩:=Jx M.out X;have hb:block s n st1= .ok tb a:=by rw[X]at V;exact V
   exact(DT d.ok (by rw[d.depth];exact G) (by rw[d.loops];exact H) hb).1.bC v
  have dj:=fd.out c st1 X di;exact Pd (by unfold Ju;rw[←dj];rfl) (db.out tb a V v) ⟨rfl,rfl⟩
end
def NI (o:AO Unit):Bool:=match o with
 | .ok _ st=>decide (st.t.kind=Cw/\st.depth=8)
 | .bad _ _=>false
def goB (o:AO Unit):Bool:=match o with
 | .ok _ st=>!(st.t.kind==DA)
 | .bad _ _=>false
theorem Ql {o:AO Unit}(h:NI o=true):Nh o=o.lv Sa:=by
 cases o with
 |bad e p=>cases h
 |ok a st=>
  have b:st.t.kind=Cw/\st.depth=8:=E9 h;show(if _ then _ else _)=_;rw[Al b];rfl
theorem S0 {o:AO Unit}(h:NI o=false):Nh o=o:=by
 cases o with
 |bad e p=>rfl
 |ok a st=>
  have b:¬(st.t.kind=Cw/\st.depth=8):=PC h;show(if _ then _ else _)=_;rw[Ai b]
theorem vX {o:AO Unit}(h:goB o=true):∃st,o= .ok () st/\(AO.ok () st:AO Unit).bu DA=false:=by
 cases o with
 |bad e p=>cases h
 |ok a st=>
  refine⟨st,rfl,?_⟩;have b:(!(st.t.kind==DA))=true:=h;simpa[AO.bu]using b
theorem zU4 {o:AO Unit}(h:goB o=false):o.bu DA=true\/∃e p,o= .bad e p:=by
 cases o with
 |bad e p=>exact .inr ⟨e,p,rfl⟩
 |ok a st=>
  have b:(!(st.t.kind==DA))=false:=h;exact .inl (by simpa[AO.bu]using b)
section
variable {w:World}{g gp:Nat}{tl:Value}{ts:List CM}{pc:List Value}{r:Fc}{s:Ah}{α:Type}
abbrev Fc.dp (r:Fc) (D:Int):Fc:={r with deep:=D}
theorem Bo.nH {o:AO α}(h:Bo s r o) (D:Int) (c:∀a st,o= .ok a st->D=((st.depth+1:Nat):Int)):Bo s (r.dp D) (mP o):=by
 cases o with
 |bad e p=>
  have b:DI s r e p:=h;exact⟨b.lt,b.bad,b.fm,b.ne,b.fk⟩
 |ok a st=>
  have b:AF s r st:=h;exact⟨b.pos.of rfl rfl,⟨b.ok.i,b.ok.pos,b.ok.more,b.ok.num,b.ok.name⟩,c a st rfl,b.loops,b.bad,b.bC,b.decls,b.aD,b.seen,b.f0,b.fk⟩
theorem Bo.oN {o:AO α}(h:Bo s r o) (D:Int) (c:∀a st,o= .ok a st->D=((st.depth-1:Nat):Int)):Bo s (r.dp D) (zL o):=by
 cases o with
 |bad e p=>
  have b:DI s r e p:=h;exact⟨b.lt,b.bad,b.fm,b.ne,b.fk⟩
 |ok a st=>
  have b:AF s r st:=h;exact⟨b.pos.of rfl rfl,⟨b.ok.i,b.ok.pos,b.ok.more,b.ok.num,b.ok.name⟩,c a st rfl,b.loops,b.bad,b.bC,b.decls,b.aD,b.seen,b.f0,b.fk⟩
theorem TB (n:Nat) (ht:D6 ts (jj s)) (hl:s.length<=1000) (dA:∀m,m<n+1->gO g gp tl ts pc s m):SG g gp tl ts pc s (n+1):=by
 intro o w r h hs dB;rw[ma];have be:=Ka h hs ht (kd:=Cw) (kr:=Cw) (by decide) (by decide);obtain⟨_,_,c2,_⟩:=h.cells;obtain⟨HI,HR,HS,eg,HT,ig⟩:=zq6 be h hs dB ht dA;clear be h hs dB ht dA;unfold vs at*;go_enter func139,ntmps139;go_upto_region 1 with fail;go_cut [12] (λii wx=>ii= .bool (NI o)/\∃n1,wx=w.drewN n1)
 case first=>
  cases o with
  |bad e p=>
   go_wp2_with fail;refine HI.out.mono ?_;rintro x w1 ⟨rfl,n1,rfl⟩;go_wp2;go_meet;exact⟨rfl,n1,rfl⟩
  |ok a st=>
   have v:=AF.deep HS.out;rw[v]at c2;by_cases hk:st.t.kind=Cw
   ·have Y:(AO.ok a st).bu Cw=true:=by simpa[AO.bu]using hk
    have hi:=HI.out;rw[Y]at hi;have bz:=Aa hi;clear hi;by_cases h8:st.depth=8
    ·have y:=Aa (show NI (.ok a st)=true from DX ⟨hk,h8⟩);rw[h8]at c2;clear hk h8 v Y;go_wp2_with fail;refine bz.out.mono ?_;rintro x w1 ⟨rfl,n1,rfl⟩;go_wp2;go_meet;exact⟨by rw[y.out],n1,rfl⟩
    ·have y:=Aa (show NI (.ok a st)=false from Ck (λx=>h8 x.2));have e8:((st.depth:Int)==8)=false:=by simp;omega
     clear hk h8 v Y;go_wp2_with fail;refine bz.out.mono ?_;rintro x w1 ⟨rfl,n1,rfl⟩;go_wp2;go_meet;exact⟨by rw[y.out],n1,rfl⟩
   ·have Y:(AO.ok a st).bu Cw=false:=by simpa[AO.bu]using hk
    have hi:=HI.out;rw[Y]at hi;obtain⟨bz,y⟩:=zq2 hi (show NI (.ok a st)=false from Ck (λx=>hk x.1));clear hi hk v Y;go_wp2_with fail;refine bz.out.mono ?_;rintro x w1 ⟨rfl,n1,rfl⟩;go_wp2;go_meet;exact⟨by rw[y.out],n1,rfl⟩
 case rest=>
  obtain⟨rfl,n1,rfl⟩:=hcut;clear c2 HI;go_upto_if 12 with fail;go_cut [] (λwx=>Kg g w wx/\∃r1,Gj wx g gp tl ts pc r1/\Bo s r1 (Nh o)/\r1.decls=r.decls)
  case first=>
   cases y:NI o with
   |true=>
    have hf:=M7 (HR.out.drewN n1) HS.out HT.out (e:=3) (by decide);obtain⟨HF,HD⟩:=zq2 hf y;clear hf y;go_wp2_with fail;refine HF.out.mono ?_;rintro x w1 ⟨rfl,bf,r1,h1,bg,bh⟩;have F:=Aa (And.intro bf (And.intro h1 (And.intro bg bh)));clear bf h1 bg bh;go_wp2;go_meet;obtain⟨f1,f2,f3,f4⟩:=F.out;exact⟨Kg.trans (zAr.drewN n1) f1,r1,f2,by rw[Ql HD.out];exact f3,f4⟩
   |false=>
    have HD:=Aa y;clear y;go_wp2;go_meet;exact⟨zAr.drewN n1,r,HR.out.drewN n1,by rw[S0 HD.out];exact HS.out,rfl⟩
  case rest=>
   obtain⟨bf,r1,h1,bg,bh⟩:=hcut;have z:=EO h1 bg HT.out (kd:=Cw) (kr:=Cw) (by decide) (by decide) (by decide) (by decide);obtain⟨bi,K1,eR⟩:=zq3 z bf bh;clear z bf h1 bg bh;unfold vs at*;go_wp2_with fail;refine bi.out.mono ?_;rintro x w2 ⟨x2,rfl,A,_,r2,h2,i,bj⟩;obtain⟨_,_,c2,_⟩:=h2.cells;have f2:=h2.row.frozen 2;obtain⟨K2,H2,cW,cX⟩:=zq4 (Kg.trans K1.out A) h2 i (bj.trans eR.out);clear A h2 i bj bi K1 eR;unfold ED vs;go_upto_region 4 with fail;go_cut [] (λwx=>Kg g w wx/\∃r3,Gj wx g gp tl ts pc r3/\Bo s r3 (mP (BC s Cw (Nh o)))/\r3.decls=r.decls)
   case first=>
    cases B:BC s Cw (Nh o)with
    |bad e p=>
     have i:=cW.out;rw[B]at i;obtain⟨cY,HW⟩:=zq2 i B;clear i B;go_wp2;go_meet;exact⟨K2.out.setCell (p:=⟨g,2,none⟩) (.inl rfl) _,r2.dp (wrap64 (r2.deep+1)),H2.out.put 2 _ rfl rfl,by rw[HW.out];exact cY.out.nH _ (λa st e=>by cases e),cX.out⟩
    |ok t st=>
     have i:=cW.out;rw[B]at i;have v:=AF.deep i;have eU:st.depth<=8:=by
      cases o with
      |bad e p=>cases B
      |ok a d=>
       have h9:=(eg.out d rfl).1;cases y:NI (.ok a d)with
       |true=>rw[Ql y]at B;cases B
       |false=>
        rw[S0 y]at B;obtain⟨_,_,e⟩:=BF (show want s Cw d= .ok t st from B);rw[e];exact h9
     rw[v]at c2;obtain⟨cY,HW⟩:=zq2 i B;clear i B v;go_wp2;go_meet;exact⟨K2.out.setCell (p:=⟨g,2,none⟩) (.inl rfl) _,r2.dp ((st.depth:Int)+1),H2.out.put 2 _ rfl rfl,by rw[HW.out];exact cY.out.nH _ (λa st' e=>by injection e with _ e;rw[←e];rfl),cX.out⟩
   case rest=>
    obtain⟨C,r3,h3,E,eV⟩:=hcut;clear c2 f2 K2 H2 cW cX;have T:∃(m:Nat) (U:AO Unit) (r1:Fc) (done:Az) (j:Nat) (cs:List Value) (a:Option Addr) (c:Nat),(Value.slice none 0 0)= .slice a j c/\yV g gp tl ts pc s r.decls w wc n (mP (BC s Cw (Nh o))) (Dd s (mP (BC s Cw (Nh o)))) m U r1 done j cs a c:=by
     have iO:=Vp (s:=s) (mP (BC s Cw (Nh o)));have hf:∀st,mP (BC s Cw (Nh o))= .ok () st->2*left s st+2<=n/\st.depth<=8/\st.loops<=2/\1<=st.depth:=by
      intro st e;cases o with
      |bad e2 p=>cases e
      |ok a d=>
       obtain⟨h9,mF,mG⟩:=eg.out d rfl;cases y:NI (.ok a d)with
       |true=>rw[Ql y]at e;cases e
       |false=>
        rw[S0 y]at e;have z:¬(d.t.kind=Cw/\d.depth=8):=PC y;obtain⟨t,st1,e1,e2⟩:=AC (show(want s Cw d).bind (λ_ st=>AO.ok () {st with depth:=st.depth+1})= .ok () st from e);obtain⟨k1,_,e3⟩:=BF e1;injection e2 with _ e2;have mH:=D3 (AF.ok HS.out) k1 (by decide) (by decide);subst e3;have el:left s st=left s (next s d):=by rw[←e2];rfl
        have ed:st.depth=d.depth+1:=by rw[←e2];rfl
        have eo:st.loops=d.loops:=by rw[←e2];rfl
        refine⟨by omega,?_,by omega,by omega⟩;rw[ed];have:d.depth≠8:=λh=>z ⟨k1,h⟩;omega
     refine⟨n-1,mP (BC s Cw (Nh o)),r3,.nil,0,[],none,0,rfl,C,h3,E,eV,?_,λst e=>?_,λst e=>?_,Ab _,by omega,Sl.qd _ wc _ _,λst _ _=>⟨rfl,rfl⟩⟩
     ·cases ho:mP (BC s Cw (Nh o))with
      |bad e p=>rfl
      |ok a st=>
       obtain⟨f1,_⟩:=hf st ho;have e9:n-1+1=n:=by omega
       rw[e9];cases Ks s n (AO.ok a st)<;>rfl
     ·obtain⟨f1,f2,f3,f4⟩:=hf st e;exact⟨by omega,f2,f3,f4⟩
     ·obtain⟨f1,_⟩:=hf st e;omega
    have V:=Aa T;clear T C h3 E eV;generalize eX:mP (BC s Cw (Nh o))=o0 at*;have eY:=Aa eX;clear eX;obtain⟨i0,iR,iS,iT,iU⟩:=Bg kY;go_wp2_with fail
    go_loopg [3] (Dd s o0) (λkk v3 wr=>∃(m:Nat) (U:AO Unit) (r1:Fc) (done:Az) (j:Nat) (cs:List Value) (a:Option Addr) (c:Nat),v3= .slice a j c/\yV g gp tl ts pc s r.decls w wr n o0 kk m U r1 done j cs a c)
    case atStart=>exact V.out
    case round=>
     clear V;obtain⟨m,U,r1,done,j,cs,a,c,rfl,hL⟩:=hrel;obtain⟨_,_,_,_,c4,_⟩:=hL.rd.cells;have be:=Ka hL.rd hL.fi HT.out (kd:=DA) (kr:=DA) (by decide) (by decide);obtain⟨HI,HL⟩:=zq2 be hL;clear be hL;unfold vs at*;go_upto_region 6 with fail;go_cut [33] (λiV wx=>iV= .bool (goB U)/\∃n1,wx=wr.drewN n1)
     case first=>
      cases U with
      |bad e p=>
       have hb:r1.bad≠0:=by rw[DI.bad HL.out.fi];exact DI.ne HL.out.fi
       have e1:((r1.bad:Int)==0)=false:=by simpa using hb
       have e2:decide ((r1.bad:Int)=0)=false:=by simpa using hb
       clear hb;go_wp2;go_meet;exact⟨rfl,0,rfl⟩
      |ok a1 st=>
       have hb:(r1.bad:Int)=0:=by rw[AF.bad HL.out.fi];rfl
       rw[hb]at c4;have i9:=Aa (show goB (.ok a1 st)=!((AO.ok a1 st).bu DA)from rfl);generalize (AO.ok a1 st).bu DA=bb at*;clear hb;go_wp2_with fail;refine HI.out.mono ?_;rintro x w1 ⟨rfl,n1,rfl⟩;go_wp2;go_meet;exact⟨by rw[i9.out],n1,rfl⟩
     case rest=>
      obtain⟨rfl,n1,rfl⟩:=hcut;clear c4 HI;have q:=HL.out.drewN n1;have f:=Aa q;clear HL;generalize wr.drewN n1=wq at*;cases bE:goB U with
      |true=>
       obtain⟨st,rfl,hc⟩:=vX bE;obtain⟨m,rfl⟩:∃x,m=x+1:=⟨m-1,by have:=(q.fuel st rfl).1;omega⟩;obtain⟨q1,q2,q3,_⟩:=q.fuel st rfl;have bo:=ig.out (m+1) (by have:=q.mn st rfl;omega) st wq r1 q.rd q.fi q2 q3 (by omega);rw[q.decls]at bo;obtain⟨bI,HC⟩:=zq2 bo hc;clear bo hc bE q q1 q2 q3;go_wp2_with fail;refine bI.out.mono ?_;rintro x w2 ⟨L,rfl,⟨k_,n_,m_,t_,G,H,I,J,K,M,j_,N,O,P,Q,R,S,o_,jh⟩,A,hx,r2,h2,i,bj⟩;subst jh;have eU:2<=maxLen:=by unfold maxLen;omega
       have fd:=f.out.len;have fh:0<left s st:=OS (AF.ok f.out.fi);have hj:j+1<=1002:=by have:Dd s (AO.ok () st:AO Unit)=left s st:=rfl;omega
       have fj:Sl (λb=>w.heap.size<=b) w2 262 14 (.slice a j c) j cs:=f.out.sl.kept A (λb hb=>by
        rintro(bp|bp)
        ·exact f.out.sl.bD f.out.rd.row (by decide) (bp▸hb)
        ·have:=f.out.sl.lt hb;omega)
       obtain⟨fm,fo⟩:=zp2 A.size f.out.kg.size;obtain⟨mT,cy⟩:∃L:List Value,[vs k_,.int .i64 n_,.int .i64 m_,.bool t_,vs G,.int .i64 H,vs I,.int .i64 J,vs K,.int .i64 M,.int .i64 j_,.slice N O P,.slice Q R S,.bool o_]=L:=⟨_,rfl⟩;have fp:=fj.alloc (.cells #[vs k_,.int .i64 n_,.int .i64 m_,.bool t_,vs G,.int .i64 H,vs I,.int .i64 J,vs K,.int .i64 M,.int .i64 j_,.slice N O P,.slice Q R S,.bool o_] 262);have q1:w.heap.size<=(w2.alloc (.cells #[vs k_,.int .i64 n_,.int .i64 m_,.bool t_,vs G,.int .i64 H,vs I,.int .i64 J,vs K,.int .i64 M,.int .i64 j_,.slice N O P,.slice Q R S,.bool o_] 262)).heap.size:=by simp;omega
       have q2:=C7 w2 [vs k_,.int .i64 n_,.int .i64 m_,.bool t_,vs G,.int .i64 H,vs I,.int .i64 J,vs K,.int .i64 M,.int .i64 j_,.slice N O P,.slice Q R S,.bool o_] 262;have q3:∀u∈ [vs k_,.int .i64 n_,.int .i64 m_,.bool t_,vs G,.int .i64 H,vs I,.int .i64 J,vs K,.int .i64 M,.int .i64 j_,.slice N O P,.slice Q R S,.bool o_],u.oneCell'=true:=by intro u hu;simp at hu;rcases hu with rfl|rfl|rfl|rfl|rfl|rfl|rfl|rfl|rfl|rfl|rfl|rfl|rfl|rfl<;>rfl
       have q4:j+1<=maxLen:=by unfold maxLen;omega
       have q5:(j+1)*176<=140737488355328:=by omega
       have dj:Ac (λb=>w2.heap.size<=b) w2 (w2.alloc (.cells #[vs k_,.int .i64 n_,.int .i64 m_,.bool t_,vs G,.int .i64 H,vs I,.int .i64 J,vs K,.int .i64 M,.int .i64 j_,.slice N O P,.slice Q R S,.bool o_] 262)):=zAr.alloc (Ab _) _;have bq:=λ(w3:World) (g2 c2:Nat) E C W=>f.out.step (w3:=w3) (g2:=g2) (c2:=c2) HC.out A h2 i bj hx rfl dj dj.size E C W;obtain⟨dm,ji,Q1,Q2,Q3,lK⟩:=zq6 bq fp q1 q2 q3 cy;clear bq fp q1 q2 q3 cy fj dj hx h2 i bj A fm fo fd fh bI eU;unfold vs at*;go_wp2_with (at_builtin;go_must (refine Dy underlying220 iR iS iT iU rfl (by decide) ji.out Q1.out rfl _ _ rfl rfl ⟨w2.heap.size,0,none⟩ 1 1 [.string ⟨k_.toArray⟩,.int .i64 n_,.int .i64 m_,.bool t_,.string ⟨G.toArray⟩,.int .i64 H,.string ⟨I.toArray⟩,.int .i64 J,.string ⟨K.toArray⟩,.int .i64 M,.int .i64 j_,.slice N O P,.slice Q R S,.bool o_] rfl rfl Q2.out Q3.out q4 q5 (Cg _) ?_;intro g2 ft w3 E C W;have jk:=Aa E;have jl:=Aa C;have fP:=Aa W;clear E C W));have l:=dm.out w3 g2 ft jk.out jl.out fP.out;obtain⟨m8,m9⟩:=zp2 f.out.ghost l.1;have X:=Aa l.2;clear l;go_roundg (Dd s ((stmt s (m+1) st).bind λ_ st=>AO.ok () st))
       case measure=>omega
       case rel=>
        obtain⟨dr,l⟩:=X.out;exact⟨m,_,r2,dr,j+1,_,_,_,rfl,l⟩
      |false=>
       have fR:=zU4 bE;have z:=EO q.rd q.fi HT.out (kd:=DA) (kr:=DA) (by decide) (by decide) (by decide) (by decide);rw[q.decls]at z;obtain⟨bi,jr⟩:=zq2 z fR;clear z fR bE q;unfold vs at*;go_wp2_with fail;refine bi.out.mono ?_;rintro x w4 ⟨x4,rfl,bF,_,r4,h4,Z,gQ⟩;have hv:∀st,U= .ok () st->st.bC=none->Cs (λk=>w.heap.size<=k) w4 (.slice a j c) done:=by
        intro st e B;obtain⟨b1,b2⟩:=f.out.nc st e B;have jZ:Sl (λk=>w.heap.size<=k) w4 262 14 (.slice a j c) j cs:=f.out.sl.kept bF (λb hb=>by
         rintro(bp|bp)
         ·exact f.out.sl.bD f.out.rd.row (by decide) (bp▸hb)
         ·have:=f.out.sl.lt hb;omega)
        refine⟨cs,by rw[b1];exact jZ,AL.kept (w:=wq) (λk ky hk hr=>If bF hr.lt (hr.bt f.out.rd.row (by decide))) _ _ (AL.mono (λk _ hN=>hN.1) _ _ b2)⟩
       obtain⟨_,_,c2,_⟩:=h4.cells;have f2:=h4.row.frozen 2;obtain⟨K4,H4,gY,li,HV⟩:=zq5 (Kg.trans f.out.kg bF) h4 Z gQ hv;clear bF h4 Z gQ bi hv;unfold ED vs;have l:∀(D:Int),(∀t st,BC s DA U= .ok t st->D=((st.depth-1:Nat):Int))->yW w g gp tl ts pc s r.decls ((Ks s n o0).bind λb st=>.ok b (next s {st with depth:=st.depth-1})) (.returned (.slice a j c)) (w4.setCell ⟨g,2,none⟩ (.int .i64 D)):=by
        intro D y;have gZ:Kg g w4 (w4.setCell ⟨g,2,none⟩ (.int .i64 D)):=(Ac.refl _ w4).setCell (p:=⟨g,2,none⟩) (.inl rfl) _;have bG:=gY.out.oN D y;rw[f.out.eq,Yr m jr.out done];refine⟨a,j,c,rfl,Kg.trans K4.out gZ,λb st e B=>?_,r4.dp D,H4.out.put 2 _ rfl rfl,?_,li.out⟩
        ·obtain⟨_,st1,e1,e2⟩:=AC e;injection e2 with e2 e3;obtain⟨t2,lj,e4,e5⟩:=AC e1;injection e5 with _ e5;have ln:lj.bC=none:=by rw[←B,←e3,←e5]
         cases ho:U with
         |bad e p=>rw[ho]at e4;cases e4
         |ok a3 hH=>
          have lr:=UM (s:=s) ho e4 ln;subst e2;exact(HV.out hH ho lr).kept (λk ky hk hr=>If gZ hr.lt (hr.bt H4.out.row (by decide)))
        ·cases hq:zL (BC s DA U)with
         |bad e p=>rw[hq]at bG;exact bG
         |ok a3 hH=>rw[hq]at bG;exact bG
       have X:=Aa l;clear l;cases hq:BC s DA U with
       |bad e p=>
        have HQ:=Aa hq;clear hq;go_wp2;go_ret;rw[eY.out];exact X.out _ (λt st e=>by rw[HQ.out]at e;cases e)
       |ok t st=>
        have Z:=gY.out;rw[hq]at Z;have dt:1<=st.depth:=by
         cases U with
         |bad e p=>cases hq
         |ok a0 d=>
          obtain⟨_,_,e⟩:=BF (show want s DA d= .ok t st from hq);rw[e];exact(f.out.fuel d rfl).2.2.2
        have lS:st.depth<=8:=by
         cases U with
         |bad e p=>cases hq
         |ok a0 d=>
          obtain⟨_,_,e⟩:=BF (show want s DA d= .ok t st from hq);rw[e];exact(f.out.fuel d rfl).2.1
        have lv:=Aa dt;have v:=AF.deep Z;rw[v]at c2;have HQ:=Aa hq;clear hq Z v;go_wp2;go_ret;rw[eY.out];exact X.out ((st.depth:Int)-1) (λt' st' e=>by rw[HQ.out]at e;injection e with _ e;rw[←e];have:=lv.out;omega)
end
def JW {α:Type} (o:AO α):AO Unit:=o.bind λ_ st=>.ok () {st with loops:=st.loops+1}
def Ps {α:Type} (o:AO α):AO Unit:=o.bind λ_ st=>.ok () {st with loops:=st.loops-1}
def oK (s:Ah) (n:Nat) (o:AO Unit):AO Az:=
 (Ha s 1 50 o).bind λk st=>(want s Cu st).bind λ_ st=>(cond s (n+1) st).bind λc st=>
  (block s n {st with loops:=st.loops+1}).bind λb st=>.ok (.rep k c b .nil) {st with loops:=st.loops-1}
abbrev Fc.lp (r:Fc) (D:Int):Fc:={r with loops:=D}
section
variable {s:Ah}{n:Nat}{o:AO Unit}
theorem nV:Cz (oK s n o)=Cz (Ps (CY s n (JW (CB s (n+1) (BC s Cu (Ha s 1 50 o)))))):=by
 unfold oK;cases Ha s 1 50 o with
 |bad e p=>rfl
 |ok k st1=>
  show Cz ((want s Cu st1).bind _)=Cz (Ps (CY s n (JW (CB s (n+1) (want s Cu st1)))));cases want s Cu st1 with
  |bad e p=>rfl
  |ok t a=>
   show Cz ((cond s (n+1) a).bind _)=Cz (Ps (CY s n (JW (cond s (n+1) a))));cases cond s (n+1) a with
   |bad e p=>rfl
   |ok c b=>
    show Cz ((block s n _).bind _)=Cz (Ps (block s n _));cases block s n {b with loops:=b.loops+1}<;>rfl
theorem zG {x:Az}{h:PS}(e:oK s n o= .ok x h):∃k st1 t d c f b a,Ha s 1 50 o= .ok k st1/\BC s Cu (Ha s 1 50 o)= .ok t d/\CB s (n+1) (BC s Cu (Ha s 1 50 o))= .ok c f/\
  CY s n (JW (CB s (n+1) (BC s Cu (Ha s 1 50 o))))= .ok b a/\x= .rep k c b .nil/\h={a with loops:=a.loops-1}:=by
 unfold oK at e;obtain⟨k,st1,i,e⟩:=AC e;obtain⟨t,d,m,e⟩:=AC e;obtain⟨c,f,p,e⟩:=AC e;obtain⟨b,a,q,e⟩:=AC e;injection e with e1 u;have j:BC s Cu (Ha s 1 50 o)= .ok t d:=by rw[i];exact m
 have l:CB s (n+1) (BC s Cu (Ha s 1 50 o))= .ok c f:=by rw[j];exact p
 exact⟨k,st1,t,d,c,f,b,a,i,j,l,by rw[l];exact q,e1.symm,u.symm⟩
theorem uw {a b:PS}{c:C3}(h:a.Ok s) (e:CB s (n+1) (BC s Cu (Ha s 1 50 (.ok () a)))= .ok c b):Gl s a b/\left s b<left s a:=by obtain⟨t,d,l,m⟩:=AC e;obtain⟨k,st1,p,i⟩:=AC l;obtain⟨j,l1,_⟩:=Gz h (show number s 1 50 a= .ok k st1 from p);obtain⟨_,_,q⟩:=BF (show want s Cu st1= .ok t d from i);have f:=Gl.next j.ok;rw[←q]at f;obtain⟨u,v,_⟩:=Jx f.ok (show cond s (n+1) d= .ok c b from m);exact⟨(j.trans f).trans u,by have:=f.left;omega⟩
theorem Bo.mF {α:Type}{o:AO α}{r:Fc}(h:Bo s r o) (D:Int) (c:∀a st,o= .ok a st->D=((st.loops+1:Nat):Int)):Bo s (r.lp D) (JW o):=by
 cases o with
 |bad e p=>
  have b:DI s r e p:=h;exact⟨b.lt,b.bad,b.fm,b.ne,b.fk⟩
 |ok a st=>
  have b:AF s r st:=h;exact⟨b.pos.of rfl rfl,⟨b.ok.i,b.ok.pos,b.ok.more,b.ok.num,b.ok.name⟩,b.deep,c a st rfl,b.bad,b.bC,b.decls,b.aD,b.seen,b.f0,b.fk⟩
theorem Bo.lI {α:Type}{o:AO α}{r:Fc}(h:Bo s r o) (D:Int) (c:∀a st,o= .ok a st->D=((st.loops-1:Nat):Int)):Bo s (r.lp D) (Ps o):=by
 cases o with
 |bad e p=>
  have b:DI s r e p:=h;exact⟨b.lt,b.bad,b.fm,b.ne,b.fk⟩
 |ok a st=>
  have b:AF s r st:=h;exact⟨b.pos.of rfl rfl,⟨b.ok.i,b.ok.pos,b.ok.more,b.ok.num,b.ok.name⟩,b.deep,c a st rfl,b.bad,b.bC,b.decls,b.aD,b.seen,b.f0,b.fk⟩
end
section
variable {w:World}{g gp:Nat}{tl:Value}{ts:List CM}{pc:List Value}{r:Fc}{s:Ah}{st:PS}
theorem U5 (h:Gj w g gp tl ts pc r) (q:AF s r st) (u:D6 ts (jj s)) (F:st.t.kind=Bf) (b:st.loops=2):
  Calls prog 157 #[.pointer (some ⟨g,0,none⟩)] w (Sw w g gp tl ts pc s r.decls (fail Sa st)):=by
 obtain⟨x,G,c⟩:=AF.tok q u;obtain⟨gt,ct,rfl,h1,L,M,h4,h5,N,O,P⟩:=h.at_ G;have d:x.is=Bf:=by rw[c.1,F];decide
 rw[d]at N;obtain⟨c0,c1,_,c3,_⟩:=h.cells;have Q:=h.row.lt;have ff:=λj=>h.row.frozen j;have h8:=h.tl;have R:r.k<ts.length:=M;unfold maxLen at L;have f:=AF.loops q;rw[f,b]at c3;have v:=(Mx.da (D:=w.heap.size+1) (RH.da (C:=w.heap.size) (ty:=262) (Ac.refl _ w) h (by decide) IB rfl) [vs Bf,.int .i64 0,.int .i64 0,.bool false,vs [],.int .i64 0,vs [],.int .i64 0,vs [],.int .i64 0,.int .i64 0,.slice none 0 0,.slice none 0 0,.bool false] (by simp)).drewN 1;have H:=M7 v.rd (show Bo s r (AO.ok () st)from q) u (e:=3) (by decide);obtain⟨I,J⟩:=zq2 H v;generalize A:r.k=kq at*;generalize B:ts.length=LL at*;clear G c q d F A B h v u O P H f b;unfold vs at*;go_enter J3,I5;go_wp2;go_region;go_wp2_with fail;refine I.out.mono ?_;rintro e w1 ⟨rfl,i,r1,l,m,p⟩;have a:=J.out.call i l;have z:=λj=>a.bH.frozen j;have y:=λj=>a.row.frozen j;obtain⟨e0,e1,e2,e3,e4,e5,e6,e7,e8,e9,S,T,U,V⟩:=CR a.bH;obtain⟨f0,f1,f2,f3,f4,f5,f6,f7,f8,f9,W,X,Y,Z⟩:=CR a.row;have aD:¬w.heap.size=w.heap.size+1:=by omega
 have K:=a.eg (vs Bf) (.int .i64 0) (.int .i64 0) (.bool false) (vs []) (.int .i64 0) (vs []) (.int .i64 0) (vs []) (.int .i64 0) (.int .i64 0) (.slice none 0 0) (.slice none 0 0) (.bool false);obtain⟨E,zV0,FD⟩:=zq3 K m p;clear a K i l m p I J;unfold vs at*;go_wp2;refine AA (AP (cs:=[vs Bf,.int .i64 0,.int .i64 0,.bool false,vs [],.int .i64 0,vs [],.int .i64 0,vs [],.int .i64 0,.int .i64 0,.slice none 0 0,.slice none 0 0,.bool false]) Fm JE Hq rfl E.out.row) rfl ?_;exact⟨_,rfl,⟨_,_,_,_,_,_,_,_,_,_,_,_,_,_,_,_,_,_,rfl⟩,E.out.kg,λx9 bf e hw=>(by cases e),r1,E.out.rd,zV0.out,FD.out⟩
theorem dY (h:Gj w g gp tl ts pc r) (v:AF s r st) (A:D6 ts (jj s)) (n1:st.t.kind≠Kx) (I:st.t.kind≠Ep) (n3:st.t.kind≠Ig) (J:st.t.kind≠Do) (K:st.t.kind≠Mb) (L:st.t.kind≠Mc) (M:st.t.kind≠IW) (N:st.t.kind≠IX) (O:st.t.kind≠Ja) (f:st.t.kind≠Bf):
  Calls prog 157 #[.pointer (some ⟨g,0,none⟩)] w (Sw w g gp tl ts pc s r.decls (fail D5 st)):=by
 obtain⟨x,P,i⟩:=AF.tok v A;obtain⟨gt,ct,rfl,h1,h2,h3,h4,h5,t0,t1,t2⟩:=h.at_ P;have c:∀k,k≠Ky->GS k=k->st.t.kind≠k->(x.is==k)=false:=λk hk B hn=>by have:=aC (a:=st.t.kind) (b:=k) v.pos.pL hk;rw[i.1,show(GS st.t.kind==k)=(GS st.t.kind==GS k) by rw[B],this];simpa using hn
 have e1:=c Kx (by decide) (by decide) n1;have Q:=c Ep (by decide) (by decide) I;have R:=c Ig (by decide) (by decide) n3;have S:=c Do (by decide) (by decide) J;have T:=c Mb (by decide) (by decide) K;have U:=c Mc (by decide) (by decide) L;have V:=c IW (by decide) (by decide) M;have X:=c IX (by decide) (by decide) N;have Y:=c Ja (by decide) (by decide) O;have l:=c Bf (by decide) (by decide) f;obtain⟨c0,c1,_⟩:=h.cells;have bo:=h.row.lt;have ff:=λj=>h.row.frozen j;have h8:=h.tl;have bp:r.k<ts.length:=h3;unfold maxLen at h2;have E:=(Mx.da (D:=w.heap.size+1) (RH.da (C:=w.heap.size) (ty:=262) (Ac.refl _ w) h (by decide) IB rfl) [vs x.is,.int .i64 0,.int .i64 0,.bool false,vs [],.int .i64 0,vs [],.int .i64 0,vs [],.int .i64 0,.int .i64 0,.slice none 0 0,.slice none 0 0,.bool false] (by simp)).drewN 1;have Z:=M7 E.rd (show Bo s r (AO.ok () st)from v) A (e:=2) (by decide);obtain⟨HF,Q1⟩:=zq2 Z E;generalize F:r.k=kq at*;generalize G:ts.length=LL at*;clear P i v F G h E A t1 t2 Z c n1 I n3 J K L M N O f;generalize x.is=W at*;unfold vs at*;go_enter J3,I5;go_wp2;go_region;go_wp2_with fail;clear e1 Q R S T U V X Y l;refine HF.out.mono ?_;rintro e w1 ⟨rfl,m,r1,p,q,u⟩;have d:=Q1.out.call m p;have z:=λj=>d.bH.frozen j;have y:=λj=>d.row.frozen j;obtain⟨e0,e1,Q,R,S,T,U,V,X,Y,l,bq,br,bt⟩:=CR d.bH;obtain⟨f0,f1,f2,f3,f4,f5,f6,f7,f8,f9,bu,bx,bz,bC⟩:=CR d.row;have bD:¬w.heap.size=w.heap.size+1:=by omega
 have q9:=d.eg (vs W) (.int .i64 0) (.int .i64 0) (.bool false) (vs []) (.int .i64 0) (vs []) (.int .i64 0) (vs []) (.int .i64 0) (.int .i64 0) (.slice none 0 0) (.slice none 0 0) (.bool false);obtain⟨H,zV0,FD⟩:=zq3 q9 q u;clear d q9 m p q u HF Q1;unfold vs at*;go_wp2;refine AA (AP (cs:=[vs W,.int .i64 0,.int .i64 0,.bool false,vs [],.int .i64 0,vs [],.int .i64 0,vs [],.int .i64 0,.int .i64 0,.slice none 0 0,.slice none 0 0,.bool false]) Fm JE Hq rfl H.out.row) rfl ?_;exact⟨_,rfl,⟨_,_,_,_,_,_,_,_,_,_,_,_,_,_,_,_,_,_,rfl⟩,H.out.kg,λx9 bG e hw=>(by cases e),r1,H.out.rd,zV0.out,FD.out⟩
theorem jV (n:Nat) (dh:SG g gp tl ts pc s n) (h:Gj w g gp tl ts pc r) (hs:AF s r st) (ht:D6 ts (jj s)) (hl:s.length<=1000) (hd:st.depth<=8) (di:st.loops<2) (hn:2*left s st<=n) (M:st.t.kind=Bf):
  Calls prog 157 #[.pointer (some ⟨g,0,none⟩)] w (Sw w g gp tl ts pc s r.decls (oK s n (.ok () (next s st)))):=by
 obtain⟨x,hx,dj⟩:=AF.tok hs ht;obtain⟨gt,ct,rfl,h1,h2,h3,h4,h5,t0,t1,t2⟩:=h.at_ hx;have dm:x.is=Bf:=by rw[dj.1,M];decide
 rw[dm]at t0;obtain⟨c0,c1,_,c3,_⟩:=h.cells;have mM:=h.row.lt;have ff:=λj=>h.row.frozen j;have h8:=h.tl;have mN:r.k<ts.length:=h3;unfold maxLen at h2;have dr:=AF.loops hs;rw[dr]at c3;have iM:((st.loops:Int)==2)=false:=by simp;omega
 have iN:decide ((st.loops:Int)=2)=false:=by simp;omega
 have dt:Kg g w (w.setCell ⟨g,1,none⟩ (.int .i64 ((r.k:Int)+1))):=(Ac.refl _ w).setCell (p:=⟨g,1,none⟩) (.inl rfl) _;have q1:=(Mx.da (D:=w.heap.size+1) (RH.da (C:=w.heap.size) (ty:=262) dt (h.put 1 (.int .i64 ((r.k:Int)+1)) (r':=r.nx) rfl rfl) (by decide) IB (by simp)) [vs Bf,.int .i64 0,.int .i64 0,.bool false,vs [],.int .i64 0,vs [],.int .i64 0,vs [],.int .i64 0,.int .i64 0,.slice none 0 0,.slice none 0 0,.bool false] (by simp)).drewN 1;have dv:Bo s r.nx (AO.ok () (next s st)):=AF.next hs (by rw[M];decide) (by rw[M];decide);have N:(next s st).Ok s:=Cc (AF.ok hs);have dy:=D3 (AF.ok hs) M (by decide) (by decide);have P:=Kl q1.rd dv ht 1 50;have Q:∀c d,CB s (n+1) (BC s Cu (Ha s 1 50 (AO.ok () (next s st))))= .ok c d->Gl s (next s st) d/\2*left s d+1<=n:=λc d e=>by obtain⟨a,b⟩:=uw N e;exact⟨a,by omega⟩
 have B:=Aa Q;clear Q;have dz:∀k st1,Ha s 1 50 (AO.ok () (next s st))= .ok k st1->Gl s (next s st) st1/\2*left s st1+1<=n:=λk st1 e=>by obtain⟨a,b,_⟩:=Gz N (show number s 1 50 (next s st)= .ok k st1 from e);exact⟨a,by omega⟩
 obtain⟨HT,mQ,iP,R,Q1,iQ,HF⟩:=zq7 ht N dh P q1 dz (And.intro (show(next s st).depth<=8 from hd) (show(next s st).loops<2 from di));generalize iR:r.k=kq at*;generalize iS:ts.length=LL at*;clear hx dj hs dv N dm M iR iS h q1 ht t1 t2 dt dh P dy hn hd di dr dz;unfold vs at*;go_enter J3,I5;go_wp2;go_region;go_wp2_with fail;clear iM iN c3;refine R.out.mono ?_;rintro e w1 ⟨v1,rfl,dA,dB,r1,eF,eG,eR⟩;have p1:=Q1.out.call dA eF;have z:=λj=>p1.bH.frozen j;obtain⟨e0,e1,S,T,e4,e5,e6,e7,e8,e9,E,F,G,H⟩:=CR p1.bH;have q2:=p1.cL 1 (.int .i64 v1);have X:=EO q2.rd eG HT.out (kd:=Cu) (kr:=Cu) (by decide) (by decide) (by decide) (by decide);rw[eR]at X;obtain⟨eS,Q2,iU⟩:=zq3 X q2 dB;clear p1 q2 dA dB eF eG eR X R Q1;unfold vs at*;go_wp2_with fail;clear e0 e1 S T e4 e5 e6 e7 e8 e9 E F G H z;refine eS.out.mono ?_;rintro e w2 ⟨x9,rfl,eT,_,r2,eU,eW,eX⟩;have q3:=Q2.out.call eT eU;have Y:=Xx q3.rd eW HT.out hl (n:=n+1) (by
  cases l:BC s Cu (Ha s 1 50 (AO.ok () (next s st)))with
  |bad e p=>exact Cg _
  |ok t Z=>
   cases aD:Ha s 1 50 (AO.ok () (next s st))with
   |bad e p=>rw[aD]at l;cases l
   |ok k st1=>
    rw[aD]at l;obtain⟨v,f2⟩:=iQ.out k st1 aD;obtain⟨_,_,T⟩:=BF (show want s Cu st1= .ok t Z from l);have:=(Gl.next v.ok).left;rw[←T]at this;show left s Z<n+1;omega)
 rw[eX]at Y;obtain⟨eZ,Q3⟩:=zq2 Y q3;clear q3 eT eU eW eX Y eS Q2;unfold ED vs;go_wp2_with fail;refine eZ.out.mono ?_;rintro e w3 ⟨a0,n0,a1,n1,a2,n2,j0,rfl,fa,fb,r3,O,m,fc⟩;have p3:=Q3.out.call fa O;have z:=λj=>p3.bH.frozen j;obtain⟨e0,e1,S,T,e4,e5,e6,e7,e8,e9,E,F,G,H⟩:=CR p3.bH;obtain⟨_,_,_,d3,_⟩:=O.cells;have fr:=λj=>O.row.frozen j;have mT:¬w.heap.size+1=g:=λe=>p3.bH.bt p3.rd.row (by decide) e;have q4:=((((((p3.cL 4 (vs a0)).cL 5 (.int .i64 n0)).cL 6 (vs a1)).cL 7 (.int .i64 n1)).cL 8 (vs a2)).cL 9 (.int .i64 n2)).cL 10 (.int .i64 j0);obtain⟨Q4,ba,be,i9⟩:=zq4 q4 m fc fb;clear p3 q4 fa fb O m fc eZ Q3;unfold vs at*;go_upto_region 41 with fail;generalize World.setCell _ ⟨w.heap.size+1,10,none⟩ _=wy at*;have d3:=(Q4.out.rd.cells).2.2.2.1;have fr:=λj=>Q4.out.rd.row.frozen j;clear e0 e1 S T e4 e5 e6 e7 e8 e9 E F G H z;go_cut [] (λwx=>∃r4,Mx w wx g gp (.slice (some ⟨gt,0,none⟩) LL ct) ts pc r4 262 w.heap.size IB (w.heap.size+1) [vs Bf,.int .i64 v1,.int .i64 0,.bool false,vs a0,.int .i64 n0,vs a1,.int .i64 n1,vs a2,.int .i64 n2,.int .i64 j0,.slice none 0 0,.slice none 0 0,.bool false]/\Bo s r4 (JW (CB s (n+1) (BC s Cu (Ha s 1 50 (AO.ok () (next s st))))))/\r4.decls=r.decls)
 case first=>
  cases l:(CB s (n+1) (BC s Cu (Ha s 1 50 (AO.ok () (next s st)))))with
  |bad e p=>
   have m:=ba.out;rw[l]at m;obtain⟨bf,HQ⟩:=zq2 m l;clear m l;go_wp2;go_meet;exact⟨r3.lp (wrap64 (r3.loops+1)),Q4.out.put 3 _ rfl rfl,by rw[HQ.out];exact bf.out.mF _ (λa st e=>by cases e),be.out⟩
  |ok c d=>
   have m:=ba.out;rw[l]at m;have U:=AF.loops m;have lE:d.loops<2:=by have:=(B.out c d l).1.loops;rw[this];exact HF.out.2
   rw[U]at d3;obtain⟨bf,HQ⟩:=zq2 m l;clear m l U;go_wp2;go_meet;exact⟨r3.lp ((d.loops:Int)+1),Q4.out.put 3 _ rfl rfl,by rw[HQ.out];exact bf.out.mF _ (λa st' e=>by injection e with _ e;rw[←e];rfl),be.out⟩
 case rest=>
  obtain⟨r4,bh,fi,fm⟩:=hcut;have bi:=iP.out (JW (CB s (n+1) (BC s Cu (Ha s 1 50 (AO.ok () (next s st)))))) wc r4 bh.rd fi (λf e=>by
   cases l:(CB s (n+1) (BC s Cu (Ha s 1 50 (AO.ok () (next s st)))))with
   |bad S p=>rw[l]at e;cases e
   |ok c d=>
    rw[l]at e;injection e with _ e;obtain⟨v,f2⟩:=B.out c d l;have b1:f.depth=d.depth:=by rw[←e]
    have b2:f.loops=d.loops+1:=by rw[←e]
    have b3:left s f=left s d:=by rw[←e];rfl
    obtain⟨g1,g2⟩:=HF.out;exact⟨by rw[b1,v.depth];exact g1,by rw[b2,v.loops];omega,by rw[b3];exact f2⟩)
  rw[fm]at bi;obtain⟨fp,Q5⟩:=zq2 bi bh;clear d3 fr Q4 ba be bi bh fi fm;unfold vs at*;go_wp2_with fail;refine fp.out.mono ?_;rintro e w5 ⟨J,K,L,rfl,ft,fP,r5,fR,q,gQ⟩;have p5:=Q5.out.call ft fR;have z:=λj=>p5.bH.frozen j;obtain⟨e0,e1,S,T,e4,e5,e6,e7,e8,e9,E,F,G,H⟩:=CR p5.bH;have q6:=p5.cL 11 (.slice J K L);have gX:w.heap.size+1<wc.heap.size:=Q5.out.bH.lt;have V:∀b f,CY s n (JW (CB s (n+1) (BC s Cu (Ha s 1 50 (AO.ok () (next s st))))))= .ok b f->f.bC=none->Cs (λk=>w.heap.size+1<k) (w5.setCell ⟨w.heap.size+1,11,none⟩ (.slice J K L)) (.slice J K L) b:=λb f e hw=>
   ((fP b f e hw).mono (λk _ M=>by omega)).eV (λk M=>by omega) 11 _
  obtain⟨Q6,gY,bn,bo⟩:=zq4 q6 V q gQ;clear p5 q6 ft fP fR q gQ V fp Q5 gX;unfold vs at*;go_upto_region 43 with fail;clear e0 e1 S T e4 e5 e6 e7 e8 e9 E F G H z;generalize World.setCell _ ⟨w.heap.size+1,11,none⟩ _=jl at*;have d3:=(Q6.out.rd.cells).2.2.2.1;have fr:=λj=>Q6.out.rd.row.frozen j;go_cut [] (λwx=>∃r6,Mx w wx g gp (.slice (some ⟨gt,0,none⟩) LL ct) ts pc r6 262 w.heap.size IB (w.heap.size+1) [vs Bf,.int .i64 v1,.int .i64 0,.bool false,vs a0,.int .i64 n0,vs a1,.int .i64 n1,vs a2,.int .i64 n2,.int .i64 j0,.slice J K L,.slice none 0 0,.bool false]/\Bo s r6 (Ps (CY s n (JW (CB s (n+1) (BC s Cu (Ha s 1 50 (AO.ok () (next s st))))))))/\r6.decls=r.decls/\
   ∀b f,CY s n (JW (CB s (n+1) (BC s Cu (Ha s 1 50 (AO.ok () (next s st))))))= .ok b f->f.bC=none->Cs (λk=>w.heap.size+1<k) wx (.slice J K L) b)
  case first=>
   have hH:∀(u:Value) b f,CY s n (JW (CB s (n+1) (BC s Cu (Ha s 1 50 (AO.ok () (next s st))))))= .ok b f->f.bC=none->Cs (λk=>w.heap.size+1<k) (jl.setCell ⟨g,3,none⟩ u) (.slice J K L) b:=λu b f e hw=>
    (gY.out b f e hw).jk (zAr.setCell (p:=⟨g,3,none⟩) (.inl rfl) u) Q6.out.rd.row
   have hI:=Aa hH;clear hH;cases l:CY s n (JW (CB s (n+1) (BC s Cu (Ha s 1 50 (AO.ok () (next s st))))))with
   |bad e p=>
    have q:=bn.out;rw[l]at q;obtain⟨bp,HQ⟩:=zq2 q l;clear q l;go_wp2;go_meet;exact⟨r5.lp (wrap64 (r5.loops-1)),Q6.out.put 3 _ rfl rfl,by rw[HQ.out];exact bp.out.lI _ (λa st e=>by cases e),bo.out,hI.out _⟩
   |ok b A=>
    have q:=bn.out;rw[l]at q;have W:=AF.loops q;have hQ:1<=A.loops/\A.loops<=2:=by
     cases bq:(CB s (n+1) (BC s Cu (Ha s 1 50 (AO.ok () (next s st)))))with
     |bad e p=>rw[bq]at l;cases l
     |ok c d=>
      rw[bq]at l;obtain⟨v,f2⟩:=B.out c d bq;obtain⟨g1,g2⟩:=HF.out;have b9:=DT (n:=n) (st:={d with loops:=d.loops+1}) ⟨v.ok.i,v.ok.pos,v.ok.more,v.ok.num,v.ok.name⟩ (by show d.depth<=8;rw[v.depth];exact g1) (by show d.loops+1<=2;rw[v.loops];omega) (show block s n {d with loops:=d.loops+1}= .ok b A from l);have e1:A.loops=d.loops+1:=b9.1.loops;have S:d.loops=(next s st).loops:=v.loops;omega
    obtain⟨mZ,m8⟩:=hQ;rw[W]at d3;obtain⟨bp,HQ⟩:=zq2 q l;clear q l W;go_wp2;go_meet;exact⟨r5.lp ((A.loops:Int)-1),Q6.out.put 3 _ rfl rfl,by rw[HQ.out];exact bp.out.lI _ (λa st' e=>by injection e with _ e;rw[←e];omega),bo.out,hI.out _⟩
  case rest=>
   obtain⟨r6,I,hU,hY,hZ⟩:=hcut;have z:=λj=>I.bH.frozen j;have y:=λj=>I.row.frozen j;obtain⟨e0,e1,S,T,e4,e5,e6,e7,e8,e9,E,F,G,H⟩:=CR I.bH;obtain⟨f0,v,f2,f3,f4,f5,f6,f7,f8,f9,m9,na,nc,nz⟩:=CR I.row;have nA:¬w.heap.size=w.heap.size+1:=by omega
   have q9:=I.eg (vs Bf) (.int .i64 v1) (.int .i64 0) (.bool false) (vs a0) (.int .i64 n0) (vs a1) (.int .i64 n1) (vs a2) (.int .i64 n2) (.int .i64 j0) (.slice J K L) (.slice none 0 0) (.bool false);have ic:∀b f,CY s n (JW (CB s (n+1) (BC s Cu (Ha s 1 50 (AO.ok () (next s st))))))= .ok b f->f.bC=none->Cs (λk=>w.heap.size<=k) (Nj _ w.heap.size (vs Bf) (.int .i64 v1) (.int .i64 0) (.bool false) (vs a0) (.int .i64 n0) (vs a1) (.int .i64 n1) (vs a2) (.int .i64 n2) (.int .i64 j0) (.slice J K L) (.slice none 0 0) (.bool false)) (.slice J K L) b:=λb f e hw=>
    ((hZ b f e hw).eg (C:=w.heap.size) (λk M=>by omega) _ _ _ _ _ _ _ _ _ _ _ _ _ _).mono (λk _ M=>by omega)
   obtain⟨jZ,Q9,zV0,FD⟩:=zq4 ic q9 hU hY;clear I q9 hU hY hZ ic Q6 gY bn bo d3 fr;unfold vs at*;go_wp2;refine AA (AP (cs:=[vs Bf,.int .i64 v1,.int .i64 0,.bool false,vs a0,.int .i64 n0,vs a1,.int .i64 n1,vs a2,.int .i64 n2,.int .i64 j0,.slice J K L,.slice none 0 0,.bool false]) Fm JE Hq rfl Q9.out.row) rfl ?_;refine⟨_,rfl,⟨_,_,_,_,_,_,_,_,_,_,_,_,_,_,_,_,_,_,rfl⟩,Q9.out.kg,λx9 f e hw=>?_,r6,Q9.out.rd,zV0.out.fj nV,FD.out⟩;obtain⟨k,st1,t,Z,c,d,b,A,u1,u2,u3,u4,rfl,rfl⟩:=zG e;have ie:A.bC=none:=hw;have ll:d.bC=none:=by obtain⟨v,f2⟩:=B.out c d u3;obtain⟨g1,g2⟩:=HF.out;rw[u3]at u4;have b9:=DT (n:=n) (st:={d with loops:=d.loops+1}) ⟨v.ok.i,v.ok.pos,v.ok.more,v.ok.num,v.ok.name⟩ (by show d.depth<=8;rw[v.depth];exact g1) (by show d.loops+1<=2;rw[v.loops];omega) (show block s n {d with loops:=d.loops+1}= .ok b A from u4);exact b9.1.bC ie
   have lm:=i9.out c d u3 ll;have hv:=iU.out k st1 u1;subst hv;exact Uf (by unfold H6;rw[←lm];rfl) (jZ.out b A u4 ie)
theorem dX (n:Nat) (a:D6 ts (jj s)) (x:s.length<=1000) (e:SG g gp tl ts pc s n):gO g gp tl ts pc s (n+1):=by
 intro st w r h b y v z;rw[stmt];by_cases f:st.t.kind=Kx
 ·rw[Al f];exact jW h b a f
 rw[Ai f];by_cases i:st.t.kind=Ep
 ·rw[Al i];exact KQ (.inl ⟨rfl,rfl,rfl⟩) h b a i
 rw[Ai i];by_cases j:st.t.kind=Ig
 ·rw[Al j];exact KQ (.inr (.inl ⟨rfl,rfl,rfl⟩)) h b a j
 rw[Ai j];by_cases k:st.t.kind=Do
 ·rw[Al k];exact Z9 h b a k
 rw[Ai k];by_cases l:st.t.kind=Mb
 ·rw[Al l];exact KQ (.inr (.inr (.inl ⟨rfl,rfl,rfl⟩))) h b a l
 rw[Ai l];by_cases m:st.t.kind=Mc
 ·rw[Al m];exact KQ (.inr (.inr (.inr ⟨rfl,rfl,rfl⟩))) h b a m
 rw[Ai m];by_cases p:st.t.kind=IW
 ·rw[Al p];exact Tz (.inl ⟨rfl,rfl⟩) h b a p
 rw[Ai p];by_cases q:st.t.kind=IX
 ·rw[Al q];exact Tz (.inr ⟨rfl,rfl⟩) h b a q
 rw[Ai q];by_cases u:st.t.kind=Ja
 ·rw[Al u];exact oF n e h b a x y v (by omega) u
 rw[Ai u];by_cases c:st.t.kind=Bf
 ·rw[Al c];by_cases d:st.loops=2
  ·rw[Al d];exact U5 h b a c d
  ·rw[Ai d];exact jV n e h b a x y (by omega) (by omega) c
 rw[Ai c];exact dY h b a f i j k l m p q u c
theorem eC (b:D6 ts (jj s)) (c:s.length<=1000) (n:Nat):SG g gp tl ts pc s n/\gO g gp tl ts pc s n:=by
 induction n using Nat.strongRecOn with
 |ind n j=>
  cases n with
  |zero=>
   refine⟨λo w r h d f=>?_,λst w r h d l i q=>by omega⟩;cases o with
   |ok a st=>have:=(f st rfl).2.2;omega
   |bad e p=>
    exact TB 0 b c (λm k=>by
     have:m=0:=by omega
     subst this;intro st w r h d l i q;omega) (.bad e p) w r h d (λst e=>by cases e)
  |succ n=>exact⟨TB n b c (λm k=>(j m k).2),dX n b c (j n (by omega)).1⟩
end
structure PO (N:Nat->Prop) (w:World) (vr vh:Value) (n:Nat) (hs:List Bool) (rs:List Value):Prop where
 has:Sl N w 4 1 vh n (hs.map Value.bool)
 ky:Sl N w 220 1 vr n rs
 hl:hs.length=n
 rl:rs.length=n
 shape:∀v∈rs,∃a m c,v= .slice a m c
structure Gv (N:Nat->Prop) (w:World) (rules:List (Int×Az)) (ms:Bool) (vm:Value) (n:Nat) (hs:List Bool) (rs:List Value):Prop where
 ms:ms=(Eo rules).isSome
 vm:Cs N w vm ((Eo rules).getD .nil)
 hs:∀k:Nat,k<n->hs[k]?=some (Bj rules (k:Int)).isSome
 rs:∀k:Nat,k<n->∃v,rs[k]?=some v/\Cs N w v ((Bj rules (k:Int)).getD .nil)
theorem G7 (rules:List (Int×Az)) (k j:Int) (b:Az) (h:Bj rules k=none):Bj (rules++[(k,b)]) j=if j=k then some b else Bj rules j:=by
 unfold Bj at*;rw[Jc];by_cases a:j=k
 ·subst a;rw[Al rfl];simp only[Iw]at h;rw[h];simp
 ·rw[Ai a];have e:(List.find? (λx:Int×Az=>x.1==j) [(k,b)])=none:=by have:¬k=j:=λe=>a e.symm;simp[this]
  rw[e];simp
section
variable {N N':Nat->Prop}{w w':World}{rules:List (Int×Az)}{ms:Bool}{vm vr vh:Value}{n:Nat}{hs:List Bool}{rs:List Value}
theorem Gv.kept (h:Gv N w rules ms vm n hs rs) (b:∀k cs,N k->AE w k 262 cs->w'.heap[k]?=w.heap[k]?):Gv N w' rules ms vm n hs rs:=
 ⟨h.ms,h.vm.kept b,h.hs,λk a=>by obtain⟨v,c,d⟩:=h.rs k a;exact⟨v,c,d.kept b⟩⟩
theorem Gv.mono (h:Gv N w rules ms vm n hs rs) (b:∀k,k<w.heap.size->N k->N' k):Gv N' w rules ms vm n hs rs:=
 ⟨h.ms,h.vm.mono b,h.hs,λk a=>by obtain⟨v,c,d⟩:=h.rs k a;exact⟨v,c,d.mono b⟩⟩
theorem Gv.oO (h:Gv N w rules ms vm n hs rs) {b:Az}(c:Bj rules (-1)=none) {v:Value}(f:Cs N w v b):Gv N w (rules++[(-1,b)]) true v n hs rs:=by
 have e:Eo (rules++[(-1,b)])=some b:=by unfold Eo;rw[G7 _ _ _ _ c,Al rfl]
 have d:∀k:Nat,Bj (rules++[(-1,b)]) (k:Int)=Bj rules (k:Int):=λk=>by rw[G7 _ _ _ _ c,Ai (by omega)]
 refine⟨by rw[e];rfl,by rw[e];exact f,λk a=>by rw[d];exact h.hs k a,λk a=>by rw[d];exact h.rs k a⟩
theorem Gv.iG (h:Gv N w rules ms vm n hs rs) {b:Az}{j:Nat}(c:Bj rules (j:Int)=none) {v:Value}(f:Cs N w v b) (g:hs.length=n) (i:rs.length=n):Gv N w (rules++[((j:Int),b)]) ms vm n (hs.set j true) (rs.set j v):=by
 have e:Eo (rules++[((j:Int),b)])=Eo rules:=by unfold Eo;rw[G7 _ _ _ _ c,Ai (by omega)]
 refine⟨by rw[e];exact h.ms,by rw[e];exact h.vm,λk d=>?_,λk d=>?_⟩
 ·rw[G7 _ _ _ _ c];by_cases a:k=j
  ·subst a;rw[Al rfl,CF (by omega)];rfl
  ·rw[Ai (by omega),BT (J6 a)];exact h.hs k d
 ·rw[G7 _ _ _ _ c];by_cases a:k=j
  ·subst a;rw[Al rfl,CF (by omega)];exact⟨v,rfl,f⟩
  ·rw[Ai (by omega),BT (J6 a)];exact h.rs k d
theorem PO.kept (h:PO N w vr vh n hs rs) {S1:Nat->Prop}(d:Ac S1 w w') (e:∀g cs,AE w g 4 cs->N g->¬S1 g) (f:∀g cs,AE w g 220 cs->N g->¬S1 g):PO N w' vr vh n hs rs:=
 ⟨h.has.kept d (λb a=>by obtain⟨cs,c⟩:=h.has.row a;exact e b cs c (h.has.2 b a)),h.ky.kept d (λb a=>by obtain⟨cs,c⟩:=h.ky.row a;exact f b cs c (h.ky.2 b a)),h.hl,h.rl,h.shape⟩
theorem PO.mono (h:PO N w vr vh n hs rs) (b:∀k,k<w.heap.size->N k->N' k):PO N' w vr vh n hs rs:=
 ⟨⟨h.has.1,λg a=>b g (h.has.lt a) (h.has.2 g a)⟩,⟨h.ky.1,λg a=>b g (h.ky.lt a) (h.ky.2 g a)⟩,h.hl,h.rl,h.shape⟩
end
section
variable {s:Ah}{r:Fc}{st:PS}{m:Nat}
def rkO (at_:Nat) (x:AO Int):AO Int:=x.bind λk st=>.ok k (if(Bj st.rules k).isSome&&st.bC.isNone then note JS at_ st else st)
theorem Wt (h:(next s st).t.kind=Fi):CP s st=rkO st.t.pos (.ok (-1) (next s (next s st))):=by unfold CP rkO;simp only;rw[Al h]
theorem Ws (h:¬(next s st).t.kind=Fi):CP s st=rkO st.t.pos (name s false (next s st)):=by unfold CP rkO;simp only;rw[Ai h]
theorem iA {at_:Nat}{k:Int}{st1:PS}{hit:Bool}(h:st1.bC=none->hit=(Bj st1.rules k).isSome):
  (if(Bj st1.rules k).isSome&&st1.bC.isNone then note JS at_ st1 else st1)=if hit then note JS at_ st1 else st1:=by
 cases a:st1.bC with
 |none=>
  rw[h a];simp
 |some x=>
  have e:note JS at_ st1=st1:=by unfold note;rw[a]
  simp[e]
theorem U6:GG s m st=(CP s st).bind λk st=>(block s m st).bind λb st=>.ok () (if st.bC.isNone then {st with rules:=st.rules++[(k,b)]}else st):=rfl
theorem jR {o:AO Unit}(g:o=(CP s st).bind λ_ st=>.ok () st) (h:Bo s r (o.bind λ_ st=>block s m st)):Bo s r (GG s m st):=by
 subst g;rw[U6];cases d:CP s st with
 |bad e p=>rw[d]at h;exact h
 |ok k st1=>
  rw[d]at h;have h:Bo s r (block s m st1):=h;show Bo s r ((block s m st1).bind _);cases f:block s m st1 with
  |bad e p=>rw[f]at h;exact h
  |ok b c=>
   rw[f]at h;have a:AF s r c:=h;show AF s r (if c.bC.isNone then {c with rules:=c.rules++[(k,b)]}else c);split
   ·exact⟨a.pos.of rfl rfl,⟨a.ok.i,a.ok.pos,a.ok.more,a.ok.num,a.ok.name⟩,a.deep,a.loops,a.bad,a.bC,a.decls,a.aD,a.seen,a.f0,a.fk⟩
   ·exact a
theorem oG {st':PS}(g:st.Ok s) (p:st.t.kind=TF) (y:st.depth<=7) (z:st.loops<=2) (e:GG s m st= .ok () st') (j:st'.bC=none):
  ∃k st1 b a,CP s st= .ok k st1/\block s m st1= .ok b a/\st1.bC=none/\a.bC=none/\Bj st.rules k=none/\st'.rules=st.rules++[(k,b)]/\st.bC=none:=by
 rw[U6]at e;obtain⟨k,st1,e1,q⟩:=AC e;obtain⟨b,a,l,d⟩:=AC q;injection d with _ d;obtain⟨f,l1,w1⟩:=Gc g p e1;obtain⟨o,_⟩:=DT f.ok (by rw[f.depth];omega) (by rw[f.loops];omega) l;cases c:a.bC with
 |some x=>
  rw[c]at d;simp at d;rw[←d,c]at j;cases j
 |none=>
  rw[c]at d;simp at d;have h:=o.bC c;refine⟨k,st1,b,a,e1,l,h,c,?_,?_,f.bC h⟩
  ·have u:=(w1 h).2;unfold Bj;rw[Iw,IA];intro x v i;exact u (AD.2 ⟨x,v,by simpa using i⟩)
  ·rw[←d];show a.rules++[(k,b)]=_;rw[o.rules,f.rules]
end
structure RQ (B:Nat) (w:World) (g gp:Nat) (tl:Value) (ts:List CM) (f:Int) (vr vh vm:Value) (ms:Bool) (r:Fc) (vd:Value) (hs:List Bool) (rs:List Value):Prop extends RP B w g gp tl ts f vr vh vm ms r vd where
 ru:PO (λb=>B<=b) w vr vh r.decls.length hs rs
 qk:∃a n c,vm= .slice a n c
section
variable {B:Nat}{w w':World}{g gp:Nat}{tl:Value}{ts:List CM}{f:Int}{vr vh vm:Value}{ms:Bool}{r r':Fc}{vd:Value}{hs:List Bool}{rs:List Value}{s:Ah}{st:PS}
theorem PO.kg {n:Nat}{cs:List Value}(h:PO (λb=>B<=b) w vr vh n hs rs) (i:Kg g w w') (d:AE w g 253 cs):PO (λb=>B<=b) w' vr vh n hs rs:=
 h.kept i (λb cs a _ c=>c.elim (λe=>a.bt d (by decide) e) (λe=>by have:=a.lt;omega)) (λb cs a _ c=>c.elim (λe=>a.bt d (by decide) e) (λe=>by have:=a.lt;omega))
theorem RQ.call (h:RQ B w g gp tl ts f vr vh vm ms r vd hs rs) (a:Kg g w w') (c:Gj w' g gp tl ts [vd,.int .i64 f,vr,vh,vm,.bool ms] r') (b:r'.decls=r.decls):RQ B w' g gp tl ts f vr vh vm ms r' vd hs rs:=
 ⟨h.toRP.call a c b,by rw[b];exact h.ru.kg a h.rd.row,h.qk⟩
theorem Gv.kg {N:Nat->Prop}{a:List (Int×Az)}{n:Nat}{cs:List Value}(h:Gv N w a ms vm n hs rs) (c:Kg g w w') (d:AE w g 253 cs):Gv N w' a ms vm n hs rs:=
 h.kept (λk cs _ b=>If c b.lt (b.bt d (by decide)))
theorem PO.pX {N:Nat->Prop}{n:Nat}(h:PO N w vr vh n hs rs) {k:Nat}(l:k<n):∃gh ch b,vh= .slice (some ⟨gh,0,none⟩) n ch/\n<=ch/\ch<=maxLen/\hs[k]?=some b/\w.cell? ⟨gh,k,none⟩=some (.bool b)/\gh<w.heap.size:=by obtain⟨gh,ch,e,_,d,i,j⟩:=h.has.form (by omega);have m:=h.hl;have c:hs[k]?=some hs[k]:=Ae (by omega);refine⟨gh,ch,hs[k],e,d,i,c,?_,j⟩;have a:=h.has;rw[e]at a;have:=a.1.cellAt k (by omega);rw[At,c]at this;exact this
theorem PO.nI {N:Nat->Prop}{n:Nat}(h:PO N w vr vh n hs rs):(∃a c,vh= .slice a n c)/\(∃a c,vr= .slice a n c):=⟨h.has.bz,h.ky.bz⟩
end
def cV (s:Ah) (st:PS) (b:Bool) (k:Nat):Prop:=∀a st1,CP s st= .ok a st1->st1.bC=none->a=if b then-1 else(k:Int)
def N3 (s:Ah) (st:PS):AO Unit:=(CP s st).bind λ_ st=>.ok () st
section
variable {s:Ah}{st:PS}{r1 r2:Fc}{hit:Bool}{k:Nat}
theorem lH (h:(next s st).t.kind=Fi) (i:st.bC=none->hit=(Bj st.rules (-1)).isSome) (b:hit=true->Bo s r2 (OM JS st.t.pos (DY s Fi (AO.ok () (next s st))))) (c:hit=false->Bo s r2 (DY s Fi (AO.ok () (next s st)))):
  Bo s r2 (N3 s st)/\cV s st true k:=by
 have j:DY s Fi (AO.ok () (next s st))= .ok () (next s (next s st)):=by show AO.ok () (take s Fi (next s st)).2=_;unfold take;rw[Al h]
 rw[j]at b c;have e1:CP s st= .ok (-1) (if hit then note JS st.t.pos (next s (next s st))else next s (next s st)):=by
  have a:(if(Bj (next s (next s st)).rules (-1)).isSome&&(next s (next s st)).bC.isNone then note JS st.t.pos (next s (next s st))else next s (next s st))=if hit then note JS st.t.pos (next s (next s st))else next s (next s st):=
   iA (at_:=st.t.pos) (st1:=next s (next s st)) (hit:=hit) (λd=>i d)
  rw[Wt h,←a];rfl
 refine⟨?_,λl st1 e d=>?_⟩
 ·unfold N3;rw[e1];cases hit with
  |true=>exact b rfl
  |false=>exact c rfl
 ·rw[e1]at e;injection e with e;rw[←e];rfl
theorem lG {v:Nat}(h:¬(next s st).t.kind=Fi) (i:∀n st1,SH s false (AO.ok () (next s st))= .ok n st1->st1.bC=none->n=(v:Int)) (l:st.Ok s)
  (m:st.bC=none->(∀n st1,SH s false (AO.ok () (next s st))= .ok n st1->st1.bC=none->hit=(Bj st.rules (v:Int)).isSome)) (b:hit=true->Bo s r2 (OM JS st.t.pos (SH s false (AO.ok () (next s st))))) (c:hit=false->Bo s r2 (SH s false (AO.ok () (next s st)))):
  Bo s r2 (N3 s st)/\cV s st false v:=by
 have u:SH s false (AO.ok () (next s st))=name s false (next s st):=rfl;rw[u]at i m b c;have d:CP s st=rkO st.t.pos (name s false (next s st)):=Ws h;cases o:name s false (next s st)with
 |bad e p=>
  rw[o]at d b c;refine⟨?_,λx st1 e a=>by rw[d]at e;cases e⟩;unfold N3;rw[d];cases hit with
  |true=>exact b rfl
  |false=>exact c rfl
 |ok n st1=>
  rw[o]at d b c i m;obtain⟨q,_,_⟩:=EV (Cc l) o;have e1:CP s st= .ok n (if hit then note JS st.t.pos st1 else st1):=by rw[d];show AO.ok n _=_;rw[iA (hit:=hit) (λa=>?_)];have y:=m (q.bC a) n st1 rfl a;rw[y,i n st1 rfl a,q.rules];rfl
  refine⟨?_,λx z e a=>?_⟩
  ·unfold N3;rw[e1];cases hit with
   |true=>exact b rfl
   |false=>exact c rfl
  ·rw[e1]at e;injection e with e j;rw[←e];refine i n st1 rfl ?_;cases hit with
   |true=>
    simp only[A6]at j;rw[←j]at a;exact absurd a (Fu _ _ _)
   |false=>
    simp only[Ap,A8]at j;rw[j];exact a
end
section
variable {B:Nat}{w:World}{g gp:Nat}{tl:Value}{ts:List CM}{f:Int}{vr vh vm:Value}{ms:Bool}{r:Fc}{vd:Value}{hs:List Bool}{rs:List Value}
theorem RQ.hY (h:RQ B w g gp tl ts f vr vh vm ms r vd hs rs) (i:Nat) (u:Value) {vm':Value}{ms':Bool}(t: [vd,.int .i64 f,vr,vh,vm,.bool ms].set i u=[vd,.int .i64 f,vr,vh,vm',.bool ms']) (v:∃a n c,vm'= .slice a n c):
  RQ B (w.setCell ⟨gp,i,none⟩ u) g gp tl ts f vr vh vm' ms' r vd hs rs:=by
 have l:Ac (λb=>b=gp) w (w.setCell ⟨gp,i,none⟩ u):=Ac.one w ⟨gp,i,none⟩ _;obtain⟨N,p⟩:=h.rd.jj;have m:=h.rd.ba.bt h.rd.row (by decide);have j:=h.sl.kept l (λb d e=>h.sl.bD h.rd.ba (by decide) (e▸d));have q:=h.rd.ba.bF i u;rw[t]at q;exact⟨⟨⟨h.rd.row.dc (λe=>m e.symm) _,⟨N,p.kept l (λb d e=>p.bD h.rd.ba (by decide) (e▸d))⟩,h.rd.tl,q,⟨_,vd,rfl,j⟩,h.rd.dl⟩,h.g0,h.p0,j,by simpa using h.sz⟩,
  h.ru.kept l (λb cs d _ o=>d.bt h.rd.ba (by decide) o) (λb cs d _ o=>d.bt h.rd.ba (by decide) o),v⟩
theorem RQ.pY (h:RQ B w g gp tl ts f vr vh vm ms r vd hs rs) {gh ch k:Nat}(e:vh= .slice (some ⟨gh,0,none⟩) r.decls.length ch):RQ B (w.setCell ⟨gh,k,none⟩ (.bool true)) g gp tl ts f vr vh vm ms r vd (hs.set k true) rs/\B<=gh/\Ac (λb=>B<=b) w (w.setCell ⟨gh,k,none⟩ (.bool true)):=by
 have i:B<=gh:=h.ru.has.2 gh (by rw[e];rfl);obtain⟨cs,a⟩:=h.ru.has.row (g:=gh) (by rw[e];rfl);have d:Ac (λb=>b=gh) w (w.setCell ⟨gh,k,none⟩ (.bool true)):=Ac.one w ⟨gh,k,none⟩ _;have c:=h.ru.has;subst e;have j:=c.1.stored k (.bool true);have n:(hs.map Value.bool).set k (.bool true)=(hs.set k true).map Value.bool:=by rw[Pf]
 rw[n]at j;have m:=h.sl.kept d (λb l e=>h.sl.bD a (by decide) (e▸l));exact⟨⟨⟨h.rd.eV a (by decide) k _,h.g0,h.p0,m,by simpa using h.sz⟩,⟨⟨j.1,c.2⟩,h.ru.ky.kept d (λb l e=>h.ru.ky.bD a (by decide) (e▸l)),by rw[A9];exact h.ru.hl,h.ru.rl,h.ru.shape⟩,h.qk⟩,i,d.mono (λb l=>l▸i)⟩
theorem RQ.pZ (h:RQ B w g gp tl ts f vr vh vm ms r vd hs rs) {gr cr k:Nat}(e:vr= .slice (some ⟨gr,0,none⟩) r.decls.length cr) {v:Value}(t:∃a n c,v= .slice a n c):RQ B (w.setCell ⟨gr,k,none⟩ v) g gp tl ts f vr vh vm ms r vd hs (rs.set k v)/\B<=gr/\Ac (λb=>B<=b) w (w.setCell ⟨gr,k,none⟩ v):=by
 have l:B<=gr:=h.ru.ky.2 gr (by rw[e];rfl);obtain⟨cs,d⟩:=h.ru.ky.row (g:=gr) (by rw[e];rfl);have j:Ac (λb=>b=gr) w (w.setCell ⟨gr,k,none⟩ v):=Ac.one w ⟨gr,k,none⟩ _;have i:=h.ru.ky;subst e;have o:=i.1.stored k v;have p:=h.sl.kept j (λb m e=>h.sl.bD d (by decide) (e▸m));exact⟨⟨⟨h.rd.eV d (by decide) k _,h.g0,h.p0,p,by simpa using h.sz⟩,⟨h.ru.has.kept j (λb m e=>h.ru.has.bD d (by decide) (e▸m)),⟨o.1,i.2⟩,h.ru.hl,by rw[A9];exact h.ru.rl,λu x=>by
  rcases EG x with q|q
  ·exact h.ru.shape u q
  ·exact q▸t⟩,h.qk⟩,l,j.mono (λb m=>m▸l)⟩
end
def Agt (B:Nat) (w:World) (g gp:Nat) (tl:Value) (ts:List CM) (s:Ah) (d:List Bi) (f:Int) (vr vh vd:Value) (o:AO Unit) (e:Ending) (w':World):Prop:=
 e= .returned (.tuple #[])/\Ac (λb=>B<=b) w w'/\∃vm' ms' r' a c,RQ B w' g gp tl ts f vr vh vm' ms' r' vd a c/\Bo s r' o/\r'.decls=d/\
  (∀st',o= .ok () st'->st'.bC=none->Gv (λb=>B<=b) w' st'.rules ms' vm' d.length a c)
section
variable {B:Nat}{w:World}{g gp:Nat}{tl:Value}{ts:List CM}{f:Int}{vr vh vm:Value}{ms:Bool}{r:Fc}{vd:Value}{hs:List Bool}{rs:List Value}{s:Ah}{st:PS}
theorem jY (h:RQ B w g gp tl ts f vr vh vm ms r vd hs rs) (S:AF s r st) (ht:D6 ts (jj s)) (hl:s.length<=1000) (hk:st.t.kind=TF) (eS:st.depth=0) (eT:st.loops=0) (aD:left s st<=701)
  (hm:st.bC=none->Gv (λb=>B<=b) w st.rules ms vm r.decls.length hs rs):
  Calls prog 119 #[.pointer (some ⟨g,0,none⟩)] w (Agt B w g gp tl ts s r.decls f vr vh vd (GG s 1500 st)):=by
 obtain⟨x,hx,eU⟩:=AF.tok S ht;obtain⟨gt,ct,rfl,h1,h2,h3,h4,h5,t0,t1,t2⟩:=h.rd.at_ hx;obtain⟨c0,c1,_⟩:=h.rd.cells;have nO:=h.rd.row.lt;have ff:=λj=>h.rd.row.frozen j;have h8:=h.rd.tl;have H:r.k<ts.length:=h3;unfold maxLen at h2;have eX:Bo s r.nx (AO.ok () (next s st)):=S.next (by rw[hk];decide) (by rw[hk];decide);have l:Kg g w ((w.setCell ⟨g,1,none⟩ (.int .i64 ((r.k:Int)+1))).drewN 1):=((Ac.refl _ w).setCell (p:=⟨g,1,none⟩) (.inl rfl) _).drewN 1;have q1:=h.call (r':=r.nx) l ((h.rd.put 1 (.int .i64 ((r.k:Int)+1)) (r':=r.nx) rfl rfl).drewN 1) rfl;have eY:=FI q1.rd eX ht (kd:=Fi) (kr:=Fi) (by decide) (by decide) (by decide) (by decide);have eZ:x.pos=st.t.pos:=eU.2.1;rw[eZ]at t2;obtain⟨HT,Q1,fa,fb,HP,HM,cz,lu⟩:=zq8 ht q1 l eY h hm (And.intro hk (And.intro eS (And.intro eT (And.intro aD (And.intro S.ok S.decls))))) hl;generalize lv:r.k=kq at*;generalize fc:ts.length=LL at*;clear hx eU S eX hk lv fc h q1 l ht eY hm eS eT aD hl eZ;unfold vs at*;go_enter func119,ntmps119;go_wp2;go_region;go_wp2_with fail;refine fb.out.mono ?_;rintro e w1 ⟨rfl,l,r1,cD,cL,cW⟩;have q2:=Q1.out.call l cD cW;have fd:=Ft cD cL HT.out false;have fh:=Kg.trans fa.out l;obtain⟨fi,Q2,cX,fj,cY⟩:=zq5 fd q2 fh cL (show r1.decls=r.decls from cW);clear l cD cL cW fd q2 fh fb Q1 fa t0 t1 t2 c0 c1 ff;generalize fm:(AO.ok () (next s st)).bu Fi=b at*;have cZ:=Aa fm;clear fm;go_upto_if 27 with fail;go_cut [4] (λs4 wx=>∃(k:Nat) (r2:Fc),s4= .int .i64 k/\Kg g w wx/\RQ B wx g gp (.slice (some ⟨gt,0,none⟩) LL ct) ts f vr vh vm ms r2 vd hs rs/\r2.decls=r.decls/\(b=true->Bo s r2 (DY s Fi (AO.ok () (next s st))))/\
  (b=false->Bo s r2 (SH s false (DY s Fi (AO.ok () (next s st))))/\∀n st1,SH s false (DY s Fi (AO.ok () (next s st)))= .ok n st1->st1.bC=none->n=(k:Int)))
 case first=>
  cases b with
  |true=>
   go_wp2;go_meet;exact⟨0,r1,rfl,cX.out,Q2.out,cY.out,λ_=>fj.out,λe=>absurd e (by decide)⟩
  |false=>
   go_wp2_with fail;refine fi.out.mono ?_;rintro e w2 ⟨v,rfl,d,hv,r2,fo,fp,ft⟩;have F:=Aa (And.intro d (And.intro hv (And.intro fo (And.intro fp ft))));clear d hv fo fp ft;go_wp2;go_meet;obtain⟨f1,f2,f3,f4,f5⟩:=F.out;exact⟨v,r2,rfl,Kg.trans cX.out f1,Q2.out.call f1 f3 f5,f5.trans cY.out,λe=>absurd e (by decide),λ_=>⟨f4,f2⟩⟩
 case rest=>
  obtain⟨k,r2,rfl,d,R,I,hy,hn⟩:=hcut;clear fi Q2 cX fj cY;obtain⟨av,nv,cv,rfl⟩:=R.qk;obtain⟨H3,Q3⟩:=zq2 (And.intro d (And.intro I (And.intro hy hn))) R;obtain⟨c8,p3,p5⟩:=zp3 R.rd.cells.2.2.2.2.2.2.2.2.1 (R.rd.ba.cell 3) (R.rd.ba.cell 5);simp at p3 p5;have bh:=R.ru.hl;have J:=R.ru;obtain⟨⟨ah,ch,rfl⟩,_⟩:=J.nI;have oN:r2.decls.length<=1000:=R.rd.dl;go_upto_region 6 with fail;go_cut [67] (λlA wx=>lA= .bool (if b then ms else hs.getD k false)/\∃q,wx=wc.drewN q)
  case first=>
   cases b with
   |true=>
    clear J bh hy hn d R I;cases ms
    all_goals
     go_wp2;go_meet;exact⟨rfl,0,rfl⟩
   |false=>
    by_cases m:k<r2.decls.length
    ·obtain⟨gh,fP,bv,e,h9,di,K,lB,fR⟩:=J.pX m;injection e with e1 e2 e3;subst e1 e3;have HG:=Aa (show hs.getD k false=bv by rw[List.getD,K];rfl);have e9:decide ((k:Int)<(r2.decls.length:Int))=true:=by simp;omega
     clear J bh hy hn d R I K;unfold maxLen at di;generalize r2.decls.length=nn at*;cases bv
     all_goals
      go_wp2;go_meet;rw[HG.out];exact⟨rfl,0,rfl⟩
    ·have HG:=Aa (show hs.getD k false=false by rw[List.getD,Bl (by omega)];rfl);have e9:decide ((k:Int)<(r2.decls.length:Int))=false:=by simp;omega
     clear J bh hy hn d R I;generalize r2.decls.length=nn at*;go_wp2;go_meet;rw[HG.out];exact⟨rfl,0,rfl⟩
  case rest=>
   obtain⟨rfl,q,rfl⟩:=hcut;clear J bh d R c8 p3 p5;have bq:=λ(K:b=true)=>Hu (e:=JS) (Q3.out.rd.drewN q) (hy K) (by decide) st.t.pos;have br:=λ(K:b=false)=>Hu (e:=JS) (Q3.out.rd.drewN q) (hn K).1 (by decide) st.t.pos;have gQ:∀hit:Bool,b=true->hit=ms->st.bC=none->hit=(Bj st.rules (-1)).isSome:=λhit _ e L=>by rw[e];exact(HM.out L).ms
   obtain⟨y,lJ,z,gX⟩:=zq4 bq I br gQ;clear bq br gQ hy hn I;go_upto_if 67 with fail;go_cut [] (λwx=>Kg g w wx/\∃A,RQ B wx g gp (.slice (some ⟨gt,0,none⟩) LL ct) ts f vr (.slice ah r2.decls.length ch) (.slice av nv cv) ms A vd hs rs/\A.decls=r.decls/\Bo s A (N3 s st)/\cV s st b k)
   case first=>
    have bx:∀(hit:Bool),hit=(if b then ms else hs.getD k false)->∀A,(hit=true->b=true->Bo s A (OM JS st.t.pos (DY s Fi (AO.ok () (next s st)))))->(hit=true->b=false->Bo s A (OM JS st.t.pos (SH s false (DY s Fi (AO.ok () (next s st))))))
      ->(hit=false->b=true->Bo s A (DY s Fi (AO.ok () (next s st))))->(hit=false->b=false->Bo s A (SH s false (DY s Fi (AO.ok () (next s st)))))->Bo s A (N3 s st)/\cV s st b k:=by
     intro hit a A g1 g2 g3 g4;obtain⟨-,-,-,-,M,dj⟩:=cz.out;cases b with
     |true=>
      have dm:(next s st).t.kind=Fi:=by simpa[AO.bu]using cZ.out
      exact lH dm (λL=>gX.out hit rfl a L) (λe=>g1 e rfl) (λe=>g3 e rfl)
     |false=>
      have dm:¬(next s st).t.kind=Fi:=by simpa[AO.bu]using cZ.out
      have e0:SH s false (DY s Fi (AO.ok () (next s st)))=SH s false (AO.ok () (next s st)):=by rw[Gq cZ.out,aJ]
      obtain⟨-,-,-,hn⟩:=H3.out;obtain⟨-,dr⟩:=hn rfl;rw[e0]at dr g2 g4;refine lG dm dr M (λL n st1 e1 gZ=>?_) (λe=>g2 e rfl) (λe=>g4 e rfl);have dt:=((EV (Cc M) (show name s false (next s st)= .ok n st1 from e1)).2.2 gZ).1;have hv:=dr n st1 e1 gZ;have m:k<r.decls.length:=by rw[dj];have:=dt.2;have:(next s st).decls=st.decls:=rfl;rw[this]at dt;have:=dt.2;omega
      have hx:=(HM.out L).hs k m;rw[a];simp only[Ap,A8];rw[List.getD,hx];rfl
    have T:=Aa bx;clear bx;obtain⟨hit,a⟩:∃hit,hit=(if b then ms else hs.getD k false):=⟨_,rfl⟩;have HH:=Aa a;rw[←a];clear a;cases hit with
    |true=>
     have U:Calls prog 135 #[.pointer (some ⟨g,0,none⟩),.int .i64 8,.int .i64 st.t.pos] (wc.drewN q) (λe w'=>e= .returned (.tuple #[])/\Kg g (wc.drewN q) w'/\∃r',Gj w' g gp (.slice (some ⟨gt,0,none⟩) LL ct) ts [vd,.int .i64 f,vr,.slice ah r2.decls.length ch,.slice av nv cv,.bool ms] r'/\(Bo s r' (N3 s st)/\cV s st b k)/\r'.decls=r2.decls):=by
      cases K:b with
      |true=>
       refine(y.out K).mono ?_;rintro e w' ⟨h1,h2,r',h3,h4,h5⟩;refine⟨h1,h2,r',h3,?_,h5⟩;rw[←K];exact T.out true HH.out r' (λ_ _=>h4) (λ_ e=>by rw[K]at e;cases e) (λe=>by cases e) (λe=>by cases e)
      |false=>
       refine(z.out K).mono ?_;rintro e w' ⟨h1,h2,r',h3,h4,h5⟩;refine⟨h1,h2,r',h3,?_,h5⟩;rw[←K];exact T.out true HH.out r' (λ_ e=>by rw[K]at e;cases e) (λ_ _=>h4) (λe=>by cases e) (λe=>by cases e)
     have HC:=Aa U;clear U y z;go_wp2_with fail;refine HC.out.mono ?_;rintro e w4 ⟨rfl,V,A,h4,N,O⟩;have F:=Aa (And.intro V (And.intro h4 (And.intro N O)));clear V h4 N O;go_wp2;go_meet;obtain⟨f1,f2,f3,f4⟩:=F.out;obtain⟨g1,g2,_⟩:=H3.out;exact⟨Kg.trans (g1.drewN q) f1,A,Q3.out.call (Kg.trans ((Ac.refl _ wc).drewN q) f1) f2 f4,f4.trans g2,f3.1,f3.2⟩
    |false=>
     clear y z;go_wp2;go_meet;obtain⟨g1,g2,g3,g4⟩:=H3.out;have hH:=T.out false HH.out r2 (λe=>by cases e) (λe=>by cases e) (λ_ e=>g3 e) (λ_ e=>(g4 e).1);exact⟨g1.drewN q,r2,Q3.out.call ((Ac.refl _ wc).drewN q) (Q3.out.rd.drewN q) rfl,g2,hH.1,hH.2⟩
   case rest=>
    obtain⟨V,A,q4,O,N,hI⟩:=hcut;clear y z gX H3 Q3;have dv:=(eC (g:=g) (gp:=gp) (tl:=.slice (some ⟨gt,0,none⟩) LL ct) (ts:=ts) (pc:=[vd,.int .i64 f,vr,.slice ah r2.decls.length ch,.slice av nv cv,.bool ms]) HT.out lu.out 1500).1 (N3 s st) wc A q4.rd N (λst' e=>by
     obtain⟨hk,hd,hl,aD,M,dj⟩:=cz.out;obtain⟨k',st1,e1,e2⟩:=AC (show(CP s st).bind _=AO.ok () st' from e);injection e2 with _ e2;obtain⟨f1,l1,_⟩:=Gc M hk e1;subst e2;have:=f1.depth;have:=f1.loops;omega)
    rw[O]at dv;obtain⟨hQ,Q4,H4⟩:=zq3 dv q4 (And.intro V (And.intro O (And.intro N hI)));clear dv V q4 O N hI;go_wp2_with fail;refine hQ.out.mono ?_;rintro e P ⟨a5,n5,c5,rfl,bj,hU,r5,hZ,ic,dy⟩;obtain⟨W,ie,bF⟩:=zp3 (Q4.out.call bj hZ (dy.trans H4.out.2.1.symm)) Q4.out.sz (Vq (Kg.trans H4.out.1 bj) HP.out.g0 HP.out.sz);have ig:Bo s r5 (GG s 1500 st):=jR (o:=N3 s st) rfl ic;have X:∀st',GG s 1500 st= .ok () st'->st'.bC=none->∃Y,Cs (λx=>B<=x) P (.slice a5 n5 c5) Y/\st'.rules=st.rules++[(if b then-1 else(k:Int),Y)]/\Bj st.rules (if b then-1 else(k:Int))=none/\Gv (λx=>B<=x) P st.rules ms (.slice av nv cv) r.decls.length hs rs:=by
     intro st' e L;obtain⟨hk,hd,hl,aD,M,dj⟩:=cz.out;obtain⟨k',st1,Y,ii,e1,e2,w1,w2,e3,e4,e5⟩:=oG M hk (by omega) (by omega) e L;have H:=H4.out.2.2.2 k' st1 e1 w1;subst H;have l8:CY s 1500 (N3 s st)= .ok Y ii:=by unfold N3 CY;rw[e1];exact e2
     exact⟨Y,(hU Y ii l8 w2).mono (λx _ hx=>Ad ie hx),e4,e3,((HM.out e5).kg H4.out.1 HP.out.rd.row).kg bj Q4.out.rd.row⟩
    obtain⟨C,Z,dz,u,Q⟩:=zq5 W bF ig X (show r5.decls=r.decls from dy);have c8:=W.rd.cells.2.2.2.2.2.2.2.2.1;have pf:=λj=>W.rd.ba.frozen j;obtain⟨pl,p2,p3,p4,p5⟩:=zp5 W.rd.ba.lt (W.rd.ba.cell 2) (W.rd.ba.cell 3) (W.rd.ba.cell 4) (W.rd.ba.cell 5);have mF:¬g=gp:=λe=>W.rd.ba.bt W.rd.row (by decide) e.symm;have nB:¬gp=g:=λe=>mF e.symm;simp at p2 p3 p4 p5;clear hQ bj hU hZ ic dy W ie bF ig X;cases b with
    |true=>
     go_wp2;go_end0;have hq:=(C.out.hY 5 (.bool true) (vm':=.slice av nv cv) (ms':=true) rfl ⟨_,_,_,rfl⟩).hY 4 (.slice a5 n5 c5) (vm':=.slice a5 n5 c5) (ms':=true) rfl ⟨_,_,_,rfl⟩;have mG:Ac (λx=>B<=x) P ((P.setCell ⟨gp,5,none⟩ (.bool true)).setCell ⟨gp,4,none⟩ (.slice a5 n5 c5)):=((Ac.refl _ P).setCell (p:=⟨gp,5,none⟩) C.out.p0 _).setCell (p:=⟨gp,4,none⟩) C.out.p0 _;refine⟨rfl,Z.out.trans mG,.slice a5 n5 c5,true,r5,hs,rs,hq,dz.out,Q.out,λst' e L=>?_⟩;obtain⟨Y,m1,m2,m3,m4⟩:=u.out st' e L;rw[m2];have H:∀x cs,B<=x->AE P x 262 cs->((P.setCell ⟨gp,5,none⟩ (.bool true)).setCell ⟨gp,4,none⟩ (.slice a5 n5 c5)).heap[x]?=P.heap[x]?:=λx cs _ hr=>by have bn:x≠gp:=hr.bt C.out.rd.ba (by decide);rw[FY _ _ _ _ bn,FY _ _ _ _ bn]
     exact(m4.oO m3 m1).kept H
    |false=>
     have i:r2.decls.length=r5.decls.length:=by rw[lJ.out,Q.out]
     by_cases m:k<r5.decls.length
     ·have e9:decide ((k:Int)<(r2.decls.length:Int))=true:=by simp;omega
      obtain⟨gh,fP,eh,_,h9,di,fR⟩:=C.out.ru.has.form (by omega);obtain⟨gr,cr,er,_,mJ,mM,nC⟩:=C.out.ru.ky.form (by omega);obtain⟨D,E⟩:=zp2 C.out.ru.has C.out.ru.ky;obtain⟨pQ,c⟩:=D.row (g:=gh) (by rw[eh];rfl);obtain⟨pR,G⟩:=E.row (g:=gr) (by rw[er];rfl);have n1:¬g=gh:=λe=>c.bt C.out.rd.row (by decide) e.symm;have n2:¬gp=gh:=λe=>c.bt C.out.rd.ba (by decide) e.symm;have n3:¬gr=gh:=λe=>c.bt G (by decide) e.symm;have n4:¬gh=gr:=λe=>n3 e.symm;obtain⟨ix,iy⟩:=zp2 C.out.ru.hl C.out.ru.rl;have f1:=λj=>c.frozen j;have f2:=λj=>G.frozen j;have d1:P.cell? ⟨gh,k,none⟩=some (.bool (hs.getD k false)):=by rw[eh]at D;have:=D.1.cellAt k (by omega);rw[At]at this;rw[this,List.getD,Ae (by omega)];rfl
      have d2:∃v,P.cell? ⟨gr,k,none⟩=some v:=by rw[er]at E;have:=E.1.cellAt k (by omega);rw[Ae (by omega)]at this;exact⟨_,this⟩
      obtain⟨v0,d2⟩:=d2;have mN:Value.slice ah r2.decls.length ch= .slice (some ⟨gh,0,none⟩) r5.decls.length fP:=eh;injection mN with y1 y2 y3;subst y1 y3;subst er;have dB:=C.out.pY (k:=k) (gh:=gh) (ch:=ch) (by rw[i]);have iL:=dB.1.pZ (k:=k) (gr:=gr) (cr:=cr) rfl (v:=.slice a5 n5 c5) ⟨_,_,_,rfl⟩;obtain⟨mQ,iM,bH,bI⟩:=zq4 dB iL (And.intro c G) (And.intro ix iy);unfold maxLen at di mM;clear dB iL D E c G ix iy eh;rw[←i]at p2 mJ h9 m;generalize eg:r2.decls.length=nn at*;have pU:=Aa eg;clear eg;have nF:=Aa i;clear i;go_wp2;go_end0;refine⟨rfl,Z.out.trans (mQ.out.2.2.trans iM.out.2.2),.slice av nv cv,ms,r5,_,_,iM.out.1,dz.out,Q.out,λst' e L=>?_⟩;obtain⟨Y,m1,m2,m3,m4⟩:=u.out st' e L;rw[m2];have H:∀x cs,B<=x->AE P x 262 cs->((P.setCell ⟨gh,k,none⟩ (.bool true)).setCell ⟨gr,k,none⟩ (.slice a5 n5 c5)).heap[x]?=P.heap[x]?:=λx cs _ hr=>by have bn:x≠gh:=hr.bt bH.out.1 (by decide);have iN:x≠gr:=hr.bt bH.out.2 (by decide);rw[FY _ _ _ _ iN,FY _ _ _ _ bn]
      obtain⟨hx,hy⟩:=zp2 bI.out.1 bI.out.2;rw[Q.out]at hx hy;exact(m4.iG m3 m1 hx hy).kept H
     ·have e9:decide ((k:Int)<(r2.decls.length:Int))=false:=by simp;omega
      have mS:=Aa (show¬k<r.decls.length by rw[←Q.out];exact m);have pV:r2.decls.length<=k:=by omega
      clear m i;generalize eg:r2.decls.length=nn at*;go_wp2;go_end0;refine⟨rfl,Z.out,.slice av nv cv,ms,r5,hs,rs,C.out,dz.out,Q.out,λst' e L=>?_⟩;obtain⟨Y,m1,m2,m3,m4⟩:=u.out st' e L;simp only[Ap,A8]at m2 m3;rw[m2];have e2:∀j:Nat,j<r.decls.length->Bj (st.rules++[((k:Int),Y)]) (j:Int)=Bj st.rules (j:Int):=λj hj=>by rw[G7 _ _ _ _ m3,Ai (by have:=mS.out;omega)]
      have e1:Eo (st.rules++[((k:Int),Y)])=Eo st.rules:=by unfold Eo;rw[G7 _ _ _ _ m3,Ai (by omega)]
      exact⟨by rw[e1];exact m4.ms,by rw[e1];exact m4.vm,λj hj=>by rw[e2 j hj];exact m4.hs j hj,λj hj=>by rw[e2 j hj];exact m4.rs j hj⟩
end
end Go.Proofs.YtepoejiigmhlbaaGreatDoor.Ev
namespace Go.Proofs.YtepoejiigmhlbaaGreatDoor.Ev
open _root_.Go.Proofs.Tryz
def Ku (x:CM):Bool:=x.is==Bw||x.is==Eh
def JT (s:Ah):Nat->Nat->List CM
 |0,_=>[]
 |n+1,i=>if Ku (Rk s i).1 then [(Rk s i).1]else(Rk s i).1::JT s n (Rk s i).2
theorem kj {k:Ah}:(GS k==Eh)=(k==Eh):=by
 unfold GS;split
 ·rename_i h;subst h;decide
 ·rfl
theorem eD {k:Ah}:(GS k==Bw)=(k==Bw):=by
 unfold GS;split
 ·rename_i h;subst h;decide
 ·rfl
theorem Xw {x:CM}{t:MS}(h:x.Of t):Ku x=final t:=by unfold Ku final;rw[h.1,kj,eD,Bool.or_comm]
theorem U4 (s:Ah):∀(n i:Nat),D6 (JT s n i) (Io s n i)
 |0,_=>trivial
 |n+1,i=>by
  obtain⟨a,b⟩:=ac s i;unfold JT Io;rw[Xw a];cases c:final (EY s i).1 with
  |true=>exact⟨a,trivial⟩
  |false=>
   simp only[Ap,A8];rw[b c];exact⟨a,U4 s n _⟩
def PY (s:Ah):List CM:=JT s (s.length+1) 0
theorem Z8 (s:Ah):D6 (PY s) (jj s):=U4 s _ _
theorem jT (s:Ah):(PY s).length<=s.length+1:=by rw[(Z8 s).len];exact nY s
theorem iz (s:Ah) (i:Nat) (h:i<=s.length) (e:Ku (Rk s i).1=false):i<(Rk s i).2/\(Rk s i).2<=s.length:=by obtain⟨f,g⟩:=ac s i;rw[Xw f]at e;rw[g e];obtain⟨a,b,c,d⟩:=JX s i h;obtain⟨e1,j⟩:=qE e;have:=d e1 j;omega
def Fr (s:Ah) (p:Nat):Nat:=
 match s[p]? with
 |none=>p
 |some c=>if low c then skip low s p else if Gn c then skip Gn s p else if Ie c then p+1 else p
def Mm (s:Ah) (p:Nat):Ah:=
 match s[p]? with
 |none=>Eh
 |some c=>
  if low c then(if 8<skip low s p-p then Bw else if A0.contains (Dk s p (skip low s p))then Dk s p (skip low s p)else Cf)
  else if Gn c then(if 3<skip Gn s p-p then Bw else Ky)
  else if Ie c then [c]else Bw
theorem Vf (s:Ah) (p:Nat):Dk s p p=[]:=by unfold Dk;exact Mk (by simp;omega)
theorem XA {s:Ah}{p:Nat}{c:UInt8}(h:s[p]?=some c):Dk s p (p+1)=[c]:=by obtain⟨a,b⟩:=Aj.1 h;unfold Dk;rw[Xb,B6,DK a,b];rfl
theorem ut (s:Ah) (i:Nat):Rk s i=(⟨Mm s (skip blank s i),Dk s (skip blank s i) (Fr s (skip blank s i)),skip blank s i⟩,Fr s (skip blank s i)):=by
 unfold Rk Mm Fr;simp only;generalize skip blank s i=p;cases a:s[p]? with
 |none=>simp only[Vf]
 |some c=>
  simp only;cases b:low c with
  |true=>
   simp only[A6];split<;>rfl
  |false=>
   simp only[Ap,A8];cases d:Gn c with
   |true=>
    simp only[A6];split<;>rfl
   |false=>
    simp only[Ap,A8];cases e:Ie c with
    |true=>simp only[A6,XA a]
    |false=>simp only[Ap,A8,Vf]
theorem dL {s:Ah}{p:Nat}(h:s[p]?=none):Mm s p=Eh/\Fr s p=p:=by unfold Mm Fr;rw[h];exact⟨rfl,rfl⟩
theorem jG {s:Ah}{p:Nat}{c:UInt8}(h:s[p]?=some c) (a:low c=true):Mm s p=(if 8<skip low s p-p then Bw else if A0.contains (Dk s p (skip low s p))then Dk s p (skip low s p)else Cf)/\Fr s p=skip low s p:=by unfold Mm Fr;rw[h];simp only[a,A6];exact⟨trivial,trivial⟩
theorem jH {s:Ah}{p:Nat}{c:UInt8}(h:s[p]?=some c) (a:low c=false) (b:Gn c=true):Mm s p=(if 3<skip Gn s p-p then Bw else Ky)/\Fr s p=skip Gn s p:=by unfold Mm Fr;rw[h];simp only[a,b,A6,Ap,A8];exact⟨trivial,trivial⟩
theorem ZS {s:Ah}{p:Nat}{c:UInt8}(h:s[p]?=some c) (a:low c=false) (b:Gn c=false) (d:Ie c=true):Mm s p=[c]/\Fr s p=p+1:=by unfold Mm Fr;rw[h];simp only[a,b,d,A6,Ap,A8];exact⟨trivial,trivial⟩
theorem nZ {s:Ah}{p:Nat}{c:UInt8}(h:s[p]?=some c) (a:low c=false) (b:Gn c=false) (d:Ie c=false):Mm s p=Bw/\Fr s p=p:=by unfold Mm Fr;rw[h];simp only[a,b,d,Ap,A8];exact⟨trivial,trivial⟩
end Go.Proofs.YtepoejiigmhlbaaGreatDoor.Ev
namespace Go.Proofs.YtepoejiigmhlbaaGreatDoor.Ev
open _root_.Go.Proofs.Tryz
open Go Go.RowKit
structure MQ (w:World) (gw:Nat×Nat):Prop where
 head:w.cell? ⟨14,0,none⟩=some (.slice (some ⟨gw.1,gw.2,none⟩) 24 24)
 at_:∀j,j<24->w.cell? ⟨gw.1,gw.2+j,none⟩=some (vs (A0.getD j []))
 lt:14<w.heap.size/\gw.1<w.heap.size
theorem MQ.kept {w w':World}{gw:Nat×Nat}(h:MQ w gw) (a:Ac (λb=>w.heap.size<=b) w w'):MQ w' gw:=
 ⟨(a.cell (p:=⟨14,0,none⟩) (by have:=h.lt.1;simp only;omega)).trans h.head,λj c=>(a.cell (p:=⟨gw.1,gw.2+j,none⟩) (by have:=h.lt.2;simp only;omega)).trans (h.at_ j c),An h.lt.1 a.size,An h.lt.2 a.size⟩
theorem pG:(prog.info? 255).map (λi=>(i.zero,i.size,i.bytes))=some (some (.agg #[vs [],vs [],.int .i64 0]),3,40):=by kernel_rfl
section
variable {w:World}
theorem U8 (c:UInt8):Calls prog 133 #[.int .u8 c.toNat] w λe w'=>e= .returned (.bool (low c))/\w'=w:=by
 rcases SX c with⟨a,l1,l2⟩|⟨a,l1⟩|⟨a,l1,l2⟩
 ·rw[a];clear a;go_enter func133,ntmps133;go_wp2;go_ret;exact⟨rfl,rfl⟩
 ·rw[a];clear a;go_enter func133,ntmps133;go_wp2;go_ret;exact⟨rfl,rfl⟩
 ·rw[a];have e1:decide ((c.toNat:Int)<=122)=false:=by simp;omega
  clear a;go_enter func133,ntmps133;go_wp2;go_ret;exact⟨rfl,rfl⟩
theorem ap (c:UInt8):Calls prog 134 #[.int .u8 c.toNat] w λe w'=>e= .returned (.bool (Gn c))/\w'=w:=by
 rcases Te c with⟨a,l1,l2⟩|⟨a,l1⟩|⟨a,l1,l2⟩
 ·rw[a];clear a;go_enter func134,ntmps134;go_wp2;go_ret;exact⟨rfl,rfl⟩
 ·rw[a];clear a;go_enter func134,ntmps134;go_wp2;go_ret;exact⟨rfl,rfl⟩
 ·rw[a];have e1:decide ((c.toNat:Int)<=57)=false:=by simp;omega
  clear a;go_enter func134,ntmps134;go_wp2;go_ret;exact⟨rfl,rfl⟩
end
structure TL (w wr:World) (s:Ah) (m i:Nat) (done:List CM) (a:Option Addr) (n c:Nat):Prop where
 kept:Ac (λb=>w.heap.size<=b) w wr
 nn:n=done.length
 sl:Sl (λb=>w.heap.size<=b) wr 255 3 (.slice a n c) n (done.flatMap Le)
 eq:done++JT s (m+1) i=PY s
 i1:i<=s.length
 m1:s.length<=i+m
 dl:done.length<=i
theorem TL.start (w:World) (s:Ah):TL w w s s.length 0 [] none 0 0:=⟨Ac.refl _ _,rfl,⟨Cl _ _ _ _,λg a=>by cases a⟩,rfl,AQ _,by omega,AQ _⟩
theorem TL.drewN {w wr:World}{s:Ah}{m i:Nat}{done:List CM}{a:Option Addr}{n c:Nat}(h:TL w wr s m i done a n c) (k:Nat):TL w (wr.drewN k) s m i done a n c:=⟨h.kept.drewN k,h.nn,h.sl.of_heap rfl,h.eq,h.i1,h.m1,h.dl⟩
theorem TL.next {w wr w3:World}{s:Ah}{m i:Nat}{done:List CM}{a:Option Addr}{n c:Nat}(h:TL w wr s m i done a n c) {x:CM}{E:Nat}(g:Rk s i=(x,E)) (j:Ku x=false) (l:Ac (λb=>w.heap.size<=b) w w3) {g2 c2:Nat}
  (o:Sl (λb=>w.heap.size<=b) w3 255 3 (.slice (some ⟨g2,0,none⟩) (n+1) c2) (n+1) (done.flatMap Le++Le x)):(∃m',TL w w3 s m' E (done++[x]) (some ⟨g2,0,none⟩) (n+1) c2)/\i<E/\E<=s.length:=by
 have f:=iz s i h.i1 (by rw[g];exact j);rw[g]at f;have d:=h.eq;rw[JT,g]at d;simp only[j,Ap,A8]at d;have p:=h.m1;obtain⟨k,o2⟩:=f;simp only at k o2;refine⟨⟨m-1,l,by rw[Ao,←h.nn];rfl,by rw[Kr];simpa using o,?_,o2,by omega,by have:=h.dl;simp;omega⟩,k,o2⟩;have e:m-1+1=m:=by omega
 rw[e,AK];exact d
theorem TL.last {w wr w3:World}{s:Ah}{m i:Nat}{done:List CM}{a:Option Addr}{n c:Nat}(h:TL w wr s m i done a n c) {x:CM}{E:Nat}(e:Rk s i=(x,E)) (f:Ku x=true) {g2 c2:Nat}
  (g:Sl (λb=>w.heap.size<=b) w3 255 3 (.slice (some ⟨g2,0,none⟩) (n+1) c2) (n+1) (done.flatMap Le++Le x)):Sl (λb=>w.heap.size<=b) w3 255 3 (.slice (some ⟨g2,0,none⟩) (n+1) c2) (PY s).length ((PY s).flatMap Le):=by
 have d:=h.eq;rw[JT,e]at d;simp only[f,A6]at d;rw[←d,Kr,Ao,←h.nn];simpa using g
theorem TL.qB {w wr wc w3:World}{s:Ah}{m i:Nat}{done:List CM}{a:Option Addr}{n c:Nat}(h:TL w wr s m i done a n c) (f:Ac (λb=>wr.heap.size<=b) wr wc) {o:Obj}
  (g:Ac (λb=>(Value.slice a n c).ownBlock=some b\/(wc.alloc o).heap.size<=b) (wc.alloc o) w3):Ac (λb=>w.heap.size<=b) w w3:=by
 have d:=h.kept.size;refine h.kept.trans ((f.mono (λb j=>Ad d j)).trans ((zAr.alloc (Ad d f.size) o).trans (g.mono (λb j=>j.elim (λe=>h.sl.2 b e) (λe=>?_)))));have:=f.size;simp at e;omega
def Agr (w:World) (s:Ah) (e:Ending) (w':World):Prop:=
 Ac (λb=>w.heap.size<=b) w w'/\∃v,e= .returned v/\Sl (λb=>w.heap.size<=b) w' 255 3 v (PY s).length ((PY s).flatMap Le)
theorem iJ (a:Ah) (j:Nat) (b:j<24):(A0.take (j+1)).contains a=((A0.take j).contains a||(A0.getD j []==a)):=by
 have h:j<A0.length:=b;rw[gU h];have e:A0.getD j []=A0[j]:=by simp only[List.getD,Ae h,Ic]
 rw[e];generalize A0[j]=k;generalize A0.take j=l;have c:(l++[k]).contains a=(l.contains a|| [k].contains a):=by rw[GF,sN,CO,CO,CO,CC]
 rw[c];congr 1;rw[GF,CO,D8,PL];exact eq_comm
def kQ (a:Ah) (j:Nat):Ah:=if(A0.take j).contains a then a else Cf
theorem pm {a:Ah}{j:Nat}(b:j<24) (h:(A0.getD j []==a)=true):kQ a (j+1)=A0.getD j []:=by unfold kQ;rw[iJ a j b,h,Ul,Al rfl];exact(by simpa using h:A0.getD j []=a).symm
theorem uT {a:Ah}{j:Nat}(b:j<24) (h:(A0.getD j []==a)=false):kQ a (j+1)=kQ a j:=by unfold kQ;rw[iJ a j b,h,Bool.or_false]
section
variable {w:World}{gw:Nat×Nat}{s:Ah}
theorem dK (hw:MQ w gw) (hl:s.length<=1000):Calls prog 116 #[vs s] w (Agr w s):=by
 obtain⟨i0,bz,bC,bD,bE⟩:=Bg pG;obtain⟨gw,ow⟩:=gw;have HW:=Aa hw;clear hw;unfold vs at*;go_enter func116,ntmps116;go_wp2_with fail
 go_loopg [3,4] (s.length+1) (λgg s3 s4 wr=>∃(m i:Nat) (done:List CM) (a:Option Addr) (n c:Nat),s3= .slice a n c/\s4= .int .i64 i/\s.length+1-i<=gg/\TL w wr s m i done a n c)
 case atStart=>exact⟨s.length,0,[],none,0,0,rfl,rfl,by omega,TL.start w s⟩
 case round=>
  obtain⟨m,i,done,a,n,c,rfl,rfl,hg,hT⟩:=hrel;obtain⟨HT,HG⟩:=zq2 hT hg;have bG:=hT.i1;clear hT hg;go_upto_block 2 with fail;go_cut [4] (λs4 W=>s4= .int .i64 (skip blank s i:Nat)/\∃q,W=wr.drewN q)
  case first=>
   go_wp2_with fail
   go_loopg [4] (s.length-i) (λk s4 wz=>∃j:Nat,k=s.length-j/\i<=j/\j<=s.length/\s4= .int .i64 j/\skip blank s j=skip blank s i/\∃q,wz=wr.drewN q)
   case atStart=>exact⟨i,rfl,Ab _,bG,rfl,rfl,0,rfl⟩
   case round=>
    obtain⟨j,y,di,dj,rfl,G,q,rfl⟩:=hrel;obtain⟨H,z⟩:=zq2 y G;clear y G;have dm:=Ay s;by_cases D:j<s.length
    ·obtain⟨d,S⟩:∃d,s[j]?=some d:=⟨_,Ae D⟩;obtain⟨hy,dr⟩:=OC S;have I:=Aa (Lr blank s j d S);clear S;by_cases hb:blank d=true
     ·have fd:d=32\/d=10:=by simpa[blank]using hb
      have HB:=Aa hb;clear hb;rcases fd with rfl|rfl
      all_goals
       go_wp2;go_roundg (s.length-(j+1))
       case measure=>have:=H.out;omega
       case rel=>
        have F:=I.out;rw[Al HB.out,z.out]at F;exact⟨j+1,rfl,by omega,by omega,by go_num,F.symm,q,rfl⟩
     ·have e1:((d.toNat:Int)==32)=false:=by simp only[BH,ne_eq];intro e;apply hb;have:d=32:=rB.1 (by show d.toNat=32;omega);rw[this];rfl
      have e2:((d.toNat:Int)==10)=false:=by simp only[BH,ne_eq];intro e;apply hb;have:d=10:=rB.1 (by show d.toNat=10;omega);rw[this];rfl
      have e3:decide ((d.toNat:Int)=32)=false:=by simpa using e1
      have e4:decide ((d.toNat:Int)=10)=false:=by simpa using e2
      have HB:=Aa hb;clear hb;go_wp2;go_meet;have F:=I.out;rw[Ai HB.out,z.out]at F;rw[F];exact⟨rfl,q,rfl⟩
    ·have X:j=s.length:=by omega
     have A:=M5 blank s j (by simp;omega);rw[z.out]at A;have Y:=Aa A;have S:decide ((j:Int)<(s.length:Int))=false:=by simp;omega
     clear A X;go_wp2;go_meet;rw[Y.out];exact⟨rfl,q,rfl⟩
  case rest=>
   obtain⟨rfl,q,rfl⟩:=hcut;obtain⟨lj,M⟩:=Mn blank s i bG;have hT:=HT.out.drewN q;have dt:=ut s i;obtain⟨r,bH⟩:=zq2 hT dt;clear hT dt HT;generalize wr.drewN q=g at*;generalize skip blank s i=p at*;have dv:Ac (λb=>g.heap.size<=b) g (g.alloc (.cells #[vs Bw,vs [],.int .i64 p] 255)):=zAr.alloc (Ab _) _;have bt:=AE.new g 255 [vs Bw,vs [],.int .i64 p];obtain⟨bi,T⟩:=zq2 dv bt;clear dv bt;unfold vs at*;go_upto_block 4 with fail;go_cut [6] (λs6 W=>s6= .int .i64 (Fr s p:Nat)/\Ac (λb=>g.heap.size<=b) g W/\AE W g.heap.size 255 [vs (Mm s p),vs [],.int .i64 p])
   case first=>
    have dm:=Ay s;have fi:s[p]?=none\/∃c,s[p]?=some c:=by
     cases s[p]? with
     |none=>exact .inl rfl
     |some c=>exact .inr ⟨c,rfl⟩
    have dy:=Aa (HW.out.kept r.out.kept);rcases fi with Z|⟨c,U⟩
    ·have fj:p=s.length:=by
      have:s.length<=p:=by simpa using Z
      omega
     have HI:=Aa (dL Z);clear Z;subst fj;go_wp2;go_meet;rw[HI.out.1,HI.out.2];exact⟨rfl,zAr.alloc (Ab _) _,AE.new g 255 [vs Eh,vs [],.int .i64 s.length]⟩
    ·have dz:p<s.length:=by
      rcases Be p s.length with h|h
      ·exact h
      ·rw[Bl h]at U;cases U
     obtain⟨hx,ll⟩:=OC U;have lm:((p:Int)==(s.length:Int))=false:=by simp;omega
     have iP:decide ((p:Int)=(s.length:Int))=false:=by simp;omega
     cases l:low c with
     |true=>
      obtain⟨N,dA,B⟩:=zq3 (jG U l) l (U8 (w:=g.alloc (.cells #[vs Bw,vs [],.int .i64 p] 255)) c);rw[l]at B;clear U l;unfold vs at B;go_wp2_with fail;refine B.out.mono ?_;rintro e w1 ⟨rfl,rfl⟩;go_upto_block 5 with fail;go_cut [6] (λs6 W=>s6= .int .i64 (skip low s p:Nat)/\W=(g.alloc (.cells #[vs Bw,vs [],.int .i64 p] 255)))
      case first=>
       go_wp2_with fail
       go_loopg [6] (s.length-p) (λk s6 wz=>∃j:Nat,k=s.length-j/\p<=j/\j<=s.length/\s6= .int .i64 j/\skip low s j=skip low s p/\wz=(g.alloc (.cells #[vs Bw,vs [],.int .i64 p] 255)))
       case atStart=>exact⟨p,rfl,Ab _,M,rfl,rfl,rfl⟩
       case round=>
        obtain⟨j,y,di,dj,rfl,G,rfl⟩:=hrel;obtain⟨H,z⟩:=zq2 y G;clear y G;by_cases D:j<s.length
        ·obtain⟨d,S⟩:∃d,s[j]?=some d:=⟨_,Ae D⟩;obtain⟨hy,dr⟩:=OC S;obtain⟨I,C⟩:=zq2 (Lr low s j d S) (U8 (w:=g.alloc (.cells #[vs Bw,vs [],.int .i64 p] 255)) d);clear S;unfold vs at C;cases t:low d with
         |true=>
          rw[t]at C;have O:=Aa t;clear t;go_wp2_with fail;refine C.out.mono ?_;rintro e w1 ⟨rfl,rfl⟩;go_wp2;go_roundg (s.length-(j+1))
          case measure=>have:=H.out;omega
          case rel=>
           have F:=I.out;rw[O.out,Al rfl,z.out]at F;exact⟨j+1,rfl,by omega,by omega,by go_num,F.symm,rfl⟩
         |false=>
          rw[t]at C;have O:=Aa t;clear t;go_wp2_with fail;refine C.out.mono ?_;rintro e w1 ⟨rfl,rfl⟩;go_wp2;go_meet;have F:=I.out;rw[O.out,Ai (by decide),z.out]at F;rw[F];exact⟨rfl,rfl⟩
        ·have X:j=s.length:=by omega
         have A:=M5 low s j (by simp;omega);rw[z.out]at A;have Y:=Aa A;have S:decide ((j:Int)<(s.length:Int))=false:=by simp;omega
         clear A X;go_wp2;go_meet;rw[Y.out];exact⟨rfl,rfl⟩
      case rest=>
       obtain⟨rfl,rfl⟩:=hcut;obtain⟨bI,cy⟩:=Mn low s p M;have dB:=Aa (And.intro bI cy);have cz:=Gy s p (skip low s p);generalize skip low s p=e at*;by_cases h8:8<e-p
       ·have cD:(8:Int)<(e:Int)-(p:Int):=by omega
        have aD:decide ((e:Int)-(p:Int)<=8)=false:=by simp;omega
        have H8:=Aa h8;clear h8;go_wp2;go_meet;rw[N.out.1,N.out.2,Al H8.out];exact⟨rfl,bi.out,T.out⟩
       ·have cD:(e:Int)-(p:Int)<=8:=by omega
        have aD:decide ((e:Int)-(p:Int)<=8)=true:=by simp;omega
        have H8:=Aa h8;clear h8;generalize hW:Dk s p e=f at*;have bo:=dy.out.kept ((Ac.refl _ g).alloc (Ab _) (.cells #[vs Cf,vs [],.int .i64 p] 255));obtain⟨hh,fm⟩:=zp2 bo.head bo.lt.2;dsimp only at hh fm;have lr:=Aa bo;clear bo;go_wp2_with fail
        go_loopg [60] 24 (λk fo wz=>∃j:Nat,k=24-j/\j<=24/\fo= .int .i64 j/\Ac (λb=>g.heap.size<=b) g wz/\AE wz g.heap.size 255 [vs (kQ f j),vs [],.int .i64 p])
        case atStart=>exact⟨0,rfl,by omega,rfl,(Ac.refl _ g).alloc (Ab _) (.cells #[vs Cf,vs [],.int .i64 p] 255),AE.new g 255 [vs Cf,vs [],.int .i64 p]⟩
        case round=>
         obtain⟨j,y,hj,rfl,hk,hr⟩:=hrel;by_cases D:j<24
         ·have fp:=(dy.out.kept hk).at_ j D;dsimp only at fp;obtain⟨r0,rl⟩:=zp2 (hr.cell 0) hr.lt;have rf:=λj=>hr.frozen j;obtain⟨HK,HR,H⟩:=zq3 hk hr y;clear hk hr y;simp at r0;cases hm:(A0.getD j []==f)with
          |true=>
           have HY:=Aa (pm D hm);have fP:decide (A0.getD j []=f)=true:=by simpa using hm
           generalize A0.getD j []=kw at*;unfold vs at*;go_wp2;go_roundg (24-(j+1))
           case measure=>have:=H.out;omega
           case rel=>
            refine⟨j+1,rfl,by omega,by go_num,HK.out.setCell (p:=⟨g.heap.size,0,none⟩) (Ab _) _,?_⟩;rw[HY.out];exact HR.out.bF 0 (vs kw)
          |false=>
           have HY:=Aa (uT D hm);have fP:decide (A0.getD j []=f)=false:=by simpa using hm
           generalize A0.getD j []=kw at*;unfold vs at*;go_wp2;go_roundg (24-(j+1))
           case measure=>have:=H.out;omega
           case rel=>
            refine⟨j+1,rfl,by omega,by go_num,HK.out,?_⟩;rw[HY.out];exact HR.out
         ·have fR:j=24:=by omega
          subst fR;obtain⟨HK,HR⟩:=zq2 hk hr;clear hk hr y;go_wp2;go_meet;rw[N.out.1,N.out.2,Ai H8.out];exact⟨rfl,HK.out,HR.out⟩
     |false=>
      obtain⟨B,J⟩:=zq2 (U8 (w:=g.alloc (.cells #[vs Bw,vs [],.int .i64 p] 255)) c) (ap (w:=g.alloc (.cells #[vs Bw,vs [],.int .i64 p] 255)) c);rw[l]at B;unfold vs at B J;cases v:Gn c with
      |true=>
       obtain⟨N,dA⟩:=zq2 (jH U l v) (And.intro l v);rw[v]at J;clear U l v;go_wp2_with fail;refine B.out.mono ?_;rintro e w1 ⟨rfl,rfl⟩;go_wp2_with fail;refine J.out.mono ?_;rintro e w1 ⟨rfl,rfl⟩;go_upto_block 9 with fail;go_cut [6] (λs6 W=>s6= .int .i64 (skip Gn s p:Nat)/\W=(g.alloc (.cells #[vs Bw,vs [],.int .i64 p] 255)))
       case first=>
        go_wp2_with fail
        go_loopg [6] (s.length-p) (λk s6 wz=>∃j:Nat,k=s.length-j/\p<=j/\j<=s.length/\s6= .int .i64 j/\skip Gn s j=skip Gn s p/\wz=(g.alloc (.cells #[vs Bw,vs [],.int .i64 p] 255)))
        case atStart=>exact⟨p,rfl,Ab _,M,rfl,rfl,rfl⟩
        case round=>
         obtain⟨j,y,di,dj,rfl,G,rfl⟩:=hrel;obtain⟨H,z⟩:=zq2 y G;clear y G;by_cases D:j<s.length
         ·obtain⟨d,S⟩:∃d,s[j]?=some d:=⟨_,Ae D⟩;obtain⟨hy,dr⟩:=OC S;obtain⟨I,C⟩:=zq2 (Lr Gn s j d S) (ap (w:=g.alloc (.cells #[vs Bw,vs [],.int .i64 p] 255)) d);clear S;unfold vs at C;cases t:Gn d with
          |true=>
           rw[t]at C;have O:=Aa t;clear t;go_wp2_with fail;refine C.out.mono ?_;rintro e w1 ⟨rfl,rfl⟩;go_wp2;go_roundg (s.length-(j+1))
           case measure=>have:=H.out;omega
           case rel=>
            have F:=I.out;rw[O.out,Al rfl,z.out]at F;exact⟨j+1,rfl,by omega,by omega,by go_num,F.symm,rfl⟩
          |false=>
           rw[t]at C;have O:=Aa t;clear t;go_wp2_with fail;refine C.out.mono ?_;rintro e w1 ⟨rfl,rfl⟩;go_wp2;go_meet;have F:=I.out;rw[O.out,Ai (by decide),z.out]at F;rw[F];exact⟨rfl,rfl⟩
         ·have X:j=s.length:=by omega
          have A:=M5 Gn s j (by simp;omega);rw[z.out]at A;have Y:=Aa A;have S:decide ((j:Int)<(s.length:Int))=false:=by simp;omega
          clear A X;go_wp2;go_meet;rw[Y.out];exact⟨rfl,rfl⟩
       case rest=>
        obtain⟨rfl,rfl⟩:=hcut;obtain⟨bI,cy⟩:=Mn Gn s p M;have dB:=Aa (And.intro bI cy);generalize skip Gn s p=e at*;by_cases h8:3<e-p
        ·have cD:(3:Int)<(e:Int)-(p:Int):=by omega
         have aD:decide ((e:Int)-(p:Int)<=3)=false:=by simp;omega
         have H8:=Aa h8;clear h8;go_wp2;go_meet;rw[N.out.1,N.out.2,Al H8.out];exact⟨rfl,bi.out,T.out⟩
        ·have cD:(e:Int)-(p:Int)<=3:=by omega
         have aD:decide ((e:Int)-(p:Int)<=3)=true:=by simp;omega
         have H8:=Aa h8;clear h8;go_wp2;go_meet;rw[N.out.1,N.out.2,Ai H8.out];exact⟨rfl,(Ac.refl _ g).alloc (Ab _) (.cells #[vs Ky,vs [],.int .i64 p] 255),AE.new g 255 [vs Ky,vs [],.int .i64 p]⟩
      |false=>
       rw[v]at J;have cX:=XA U;have cz:=Gy s p (p+1);rw[cX]at cz;have gQ:(p:Int)+1<=(s.length:Int):=by omega
       have iS:(p:Int)<=(p:Int)+1:=by omega
       obtain⟨HP,HN⟩:=zq2 (λhp:Ie c=true=>ZS U l v hp) (λhp:Ie c=false=>nZ U l v hp);clear U l v;cases P:Ie c with
       |true=>
        have gY:c=59\/c=123\/c=125\/c=60:=by simpa[Ie,or_assoc]using P
        have N:=Aa (HP.out P);clear P cX;go_wp2_with fail;refine B.out.mono ?_;rintro e w1 ⟨rfl,rfl⟩;go_wp2_with fail;refine J.out.mono ?_;rintro e w1 ⟨rfl,rfl⟩;clear B J;rcases gY with rfl|rfl|rfl|rfl
        all_goals
         go_wp2;go_meet;rw[N.out.1,N.out.2];exact⟨by go_num,(Ac.refl _ g).alloc (Ab _) (.cells #[vs [_],vs [],.int .i64 p] 255),AE.new g 255 [vs [_],vs [],.int .i64 p]⟩
       |false=>
        have N:=Aa (HN.out P);have ba:∀k:UInt8,k=59\/k=123\/k=125\/k=60->¬(c.toNat:Int)=(k.toNat:Int):=by intro k hk e;have gZ:c=k:=rB.1 (by omega);rw[gZ]at P;rcases hk with rfl|rfl|rfl|rfl<;>exact absurd P (by decide)
        have d1:¬(c.toNat:Int)=59:=ba 59 (by decide);have d2:¬(c.toNat:Int)=123:=ba 123 (by decide);have d3:¬(c.toNat:Int)=125:=ba 125 (by decide);have d4:¬(c.toNat:Int)=60:=ba 60 (by decide);have b1:((c.toNat:Int)==59)=false:=by simpa using d1
        have b2:((c.toNat:Int)==123)=false:=by simpa using d2
        have b3:((c.toNat:Int)==125)=false:=by simpa using d3
        have b4:((c.toNat:Int)==60)=false:=by simpa using d4
        have n1:decide ((c.toNat:Int)=59)=false:=by simpa using d1
        have n2:decide ((c.toNat:Int)=123)=false:=by simpa using d2
        have n3:decide ((c.toNat:Int)=125)=false:=by simpa using d3
        have n4:decide ((c.toNat:Int)=60)=false:=by simpa using d4
        clear P ba cX;go_wp2_with fail;refine B.out.mono ?_;rintro e w1 ⟨rfl,rfl⟩;go_wp2_with fail;refine J.out.mono ?_;rintro e w1 ⟨rfl,rfl⟩;clear B J;go_wp2;go_meet;rw[N.out.1,N.out.2];exact⟨rfl,bi.out,T.out⟩
   case rest=>
    obtain⟨rfl,o,be⟩:=hcut;clear bi T;have hH:p<=Fr s p/\Fr s p<=s.length:=by
     unfold Fr;cases U:s[p]? with
     |none=>exact⟨Ab _,M⟩
     |some c=>
      simp only;have dz:=(Aj.1 U).1;obtain⟨a1,a2⟩:=Mn low s p M;obtain⟨b1,b2⟩:=Mn Gn s p M;split
      ·exact⟨a1,a2⟩
      ·split
       ·exact⟨b1,b2⟩
       ·split
        ·omega
        ·omega
    obtain⟨e1,e2⟩:=hH;obtain⟨cz,eg,dm,eF⟩:=zp4 (Gy s p (Fr s p)) (iz s i bG) (Ay s) be.lt;have rf:=λj=>be.frozen j;have r1:=be.cell 1;simp at r1;have eG:=be.bF 1 (vs (Dk s p (Fr s p)));have eR:=o.setCell (p:=⟨g.heap.size,1,none⟩) (Ab _) (vs (Dk s p (Fr s p)));obtain⟨eS,eT,lB⟩:=zq3 eG eR eg;clear o be eG eR eg;generalize Mm s p=K at*;generalize hE:Fr s p=E at*;generalize hP:Dk s p E=f at*;clear hE hP;unfold vs at*;go_upto_region 28 with fail;go_cut [] (λW=>Ac (λb=>g.heap.size<=b) g W/\AE W g.heap.size 255 [vs K,vs f,.int .i64 p])
    case first=>
     go_wp2;go_meet;exact⟨eT.out,eS.out⟩
    case rest=>
     clear eT eS rf eF r1;obtain⟨bq,Q⟩:=hcut;have hI:2<=maxLen:=by unfold maxLen;omega
     have hQ:=r.out.nn;have hU:=r.out.dl;have eU:=(r.out.sl.kept bq (λb hb F=>by have:=r.out.sl.lt hb;omega)).alloc (.cells #[vs K,vs f,.int .i64 p] 255);have q1:w.heap.size<=(wc.alloc (.cells #[vs K,vs f,.int .i64 p] 255)).heap.size:=by have:=bq.size;have:=r.out.kept.size;simp;omega
     have q2:=C7 wc [vs K,vs f,.int .i64 p] 255;have q3:∀u∈ [vs K,vs f,.int .i64 p],u.oneCell'=true:=by intro u hu;simp at hu;rcases hu with rfl|rfl|rfl<;>rfl
     have q4:n+1<=maxLen:=by unfold maxLen;omega
     have q5:(n+1)*40<=140737488355328:=by omega
     obtain⟨c0,c1,c2,eF⟩:=zp4 (Q.cell 0) (Q.cell 1) (Q.cell 2) Q.lt;have eV:∀w3,Ac (λb=>(Value.slice a n c).ownBlock=some b\/(wc.alloc (.cells #[vs K,vs f,.int .i64 p] 255)).heap.size<=b) (wc.alloc (.cells #[vs K,vs f,.int .i64 p] 255)) w3->w3.cell? ⟨g.heap.size,0,none⟩=some (.string ⟨K.toArray⟩):=by
      intro w3 hk;have Z:¬((Value.slice a n c).ownBlock=some g.heap.size\/(wc.alloc (.cells #[vs K,vs f,.int .i64 p] 255)).heap.size<=g.heap.size):=by
       rintro(h1|h1)
       ·have:=r.out.sl.lt h1;omega
       ·simp at h1;omega
      exact(hk.cell (p:=⟨g.heap.size,0,none⟩) Z).trans ((Q.alloc _).cell 0)
     have cY:=Aa eV;clear eV;obtain⟨cZ,Q1,Q2,Q3,da,lJ⟩:=zq6 eU q1 q2 q3 bq Q;clear eU q1 q2 q3 bq Q hQ hI hU;simp at c0 c1 c2;unfold vs at*;by_cases R:K=Bw
     ·have b1:(K==Bw)=true:=by simpa using R
      have b2:decide (K=Bw)=true:=by simpa using R
      have HF:=Aa (show Ku ⟨K,f,p⟩=true by unfold Ku;rw[b1];rfl);clear R;go_wp2_with (at_builtin;go_must (refine Dy cO bz bC bD bE rfl (by decide) cZ.out Q1.out rfl _ _ rfl rfl ⟨wc.heap.size,0,none⟩ 1 1 [.string ⟨K.toArray⟩,.string ⟨f.toArray⟩,.int .i64 p] rfl rfl Q2.out Q3.out q4 q5 (Cg _) ?_;intro g2 bu w3 L o x;have bf:=Aa L;have bg:=Aa o;have bx:=Aa x;have d0:=cY.out _ o;clear L o x));go_ret;exact⟨r.out.qB da.out bg.out,_,rfl,r.out.last bH.out HF.out bf.out⟩
     ·have b1:(K==Bw)=false:=by simpa using R
      have b2:decide (K=Bw)=false:=by simpa using R
      by_cases V:K=Eh
      ·have b3:(K==Eh)=true:=by simpa using V
       have b4:decide (K=Eh)=true:=by simpa using V
       have HF:=Aa (show Ku ⟨K,f,p⟩=true by unfold Ku;rw[b3,Ul]);clear R V;go_wp2_with (at_builtin;go_must (refine Dy cO bz bC bD bE rfl (by decide) cZ.out Q1.out rfl _ _ rfl rfl ⟨wc.heap.size,0,none⟩ 1 1 [.string ⟨K.toArray⟩,.string ⟨f.toArray⟩,.int .i64 p] rfl rfl Q2.out Q3.out q4 q5 (Cg _) ?_;intro g2 bu w3 L o x;have bf:=Aa L;have bg:=Aa o;have bx:=Aa x;have d0:=cY.out _ o;clear L o x));go_ret;exact⟨r.out.qB da.out bg.out,_,rfl,r.out.last bH.out HF.out bf.out⟩
      ·have b3:(K==Eh)=false:=by simpa using V
       have b4:decide (K=Eh)=false:=by simpa using V
       have HF:=Aa (show Ku ⟨K,f,p⟩=false by unfold Ku;rw[b1,b3];rfl);clear R V;go_wp2_with (at_builtin;go_must (refine Dy cO bz bC bD bE rfl (by decide) cZ.out Q1.out rfl _ _ rfl rfl ⟨wc.heap.size,0,none⟩ 1 1 [.string ⟨K.toArray⟩,.string ⟨f.toArray⟩,.int .i64 p] rfl rfl Q2.out Q3.out q4 q5 (Cg _) ?_;intro g2 bu w3 L o x;have bf:=Aa L;have bg:=Aa o;have bx:=Aa x;have d0:=cY.out _ o;clear L o x));have eX:=r.out.next bH.out HF.out (r.out.qB da.out bg.out) bf.out;have ix:=Aa eX;obtain⟨_,o1,o2⟩:=eX;go_roundg (s.length+1-E)
       case measure=>have:=HG.out;omega
       case rel=>
        obtain⟨⟨m',hL⟩,_,_⟩:=ix.out;exact⟨m',E,_,_,_,_,rfl,rfl,Ab _,hL⟩
end
end Go.Proofs.YtepoejiigmhlbaaGreatDoor.Ev
