/- Lemmas for a law's walk. Conditions: none. -/
import Derived.Test.YtodkkholbjeioaaGreatDoorZu14
import Derived.Test.YtodkkholbjeioaaGreatDoorZu17
import Derived.Test.YtodkkholbjeioaaGreatDoorZu18
set_option linter.all false
set_option maxRecDepth 100000
set_option maxHeartbeats 8000000
namespace Go.Proofs.YtodkkholbjeioaaGreatDoor.Ev
open _root_.Go.Proofs.Tryz
def Oe (s:Ah) (n:Nat) (o:AQ Unit):AQ Unit:=o.bind λ_ st=>DF s n st
def NR (s:Ah) (m n:Nat) (o:AQ Unit):AQ Unit:=o.bind λ_ st=>Ee s m n st
def PU (o:AQ Unit):Bool:=match o with
 | .ok _ st=>isDecl st.t.kind
 | .bad _ _=>false
theorem ft (o:AQ Unit):PU o=(o.cj EO||o.cj Gg||o.cj Jy||o.cj Cy):=by cases o<;>rfl
theorem bE {o:AQ Unit}(h:PU o=true):∃st,o= .ok () st/\isDecl st.t.kind=true:=by
 cases o with
 |ok a st=>exact⟨st,rfl,h⟩
 |bad e p=>cases h
theorem Zd {k:Ah}(h:isDecl k=true):k=EO\/k=Gg\/k=Jy\/k=Cy:=by unfold isDecl at h;simpa[or_assoc]using h
section
variable {s:Ah}{o:AQ Unit}{st:PS}{n m:Nat}
theorem cQ (h:isDecl st.t.kind=true):Oe s (n+1) (.ok () st)=Oe s n (decl s st):=by show DF s (n+1) st=_;unfold DF Oe;rw[Al h]
theorem gz (h:PU o=false):Oe s (n+1) o=o:=by
 cases o with
 |bad e p=>rfl
 |ok a st=>
  have b:isDecl st.t.kind=false:=h;show DF s (n+1) st=_;unfold DF;rw[b];rfl
theorem aH (h:st.t.kind=T9):NR s m (n+1) (.ok () st)=NR s m n (GJ s m st):=by show Ee s m (n+1) st=_;unfold Ee NR;rw[Al h]
theorem eM (h:o.cj T9=false):NR s m (n+1) o=o:=by
 cases o with
 |bad e p=>rfl
 |ok a st=>
  have b:¬st.t.kind=T9:=by simpa[AQ.cj]using h
  show Ee s m (n+1) st=_;unfold Ee;rw[Ai b]
theorem eW:Fm s=(NR s 1500 702 (Oe s 702 (.ok () (start s)))).bind λ_ st=>want s Ek st:=by unfold Fm Oe NR;show(DF s 702 (start s)).bind _=((DF s 702 (start s)).bind _).bind _;cases DF s 702 (start s)<;>rfl
theorem AG.start (s:Ah):AG s ⟨0,0,0,0,0,0,0,[],0,0⟩ (start s):=
 ⟨PG.start s,az s,rfl,rfl,rfl,rfl,rfl,rfl,rfl,by decide,by decide⟩
theorem pt (a:¬700<s.length) {e p:Nat}(h:Fm s= .bad e p):read s= .error (e,p):=by unfold read;rw[Ai a,h]
theorem eT (a:¬700<s.length) {t:M9}{x:Nat×Nat}(h:Fm s= .ok t st) (b:st.bJ=some x):read s= .error x:=by unfold read;rw[Ai a,h];simp only;rw[b]
theorem aU (a:¬700<s.length) {t:M9}(h:Fm s= .ok t st) (b:st.bJ=none) (c:(Es st.rules).isSome=false):read s= .error (Qu,0):=by unfold read;rw[Ai a,h];simp only;rw[b];simp only;rw[Al (by cases d:Es st.rules<;>simp_all)]
theorem kN (a:¬700<s.length) {t:M9}(h:Fm s= .ok t st) (b:st.bJ=none) (c:(Es st.rules).isSome=true):read s= .ok ⟨st.decls,st.bI,st.rules⟩:=by unfold read;rw[Ai a,h];simp only;rw[b];simp only;rw[Ai (by cases d:Es st.rules<;>simp_all)]
theorem eU (a:700<s.length):read s= .error (rK,0):=by unfold read;rw[Al a]
end
end Go.Proofs.YtodkkholbjeioaaGreatDoor.Ev
namespace Go.Proofs.YtodkkholbjeioaaGreatDoor.Ev
open _root_.Go.Proofs.Tryz
open Go Go.RowKit
section
variable {w:World}{g gp:Nat}{tl:Value}{ts:List CN}{pc:List Value}{r:Fh}{s:Ah}{α:Type}{o:AQ α}
theorem ku (h:Gl w g gp tl ts pc r) (hs:Bp s r o) (t:Eb ts (ji s)) {kd kr:Ah}(z:kd≠KQ) (d:GU kd=kr):
  Calls prog 86 #[.pointer (some ⟨g,0,none⟩),vs kr] w (λe w'=>e= .returned (.bool (o.cj kd))/\Kg g w w'/\Gl w' g gp tl ts pc (if o.cj kd then {r with k:=r.k+1}else r)):=by
 have b:=Kn h hs t z d;obtain⟨A,C,_⟩:=h.cells;have D:=λj=>h.row.frozen j;have E:=h.tl;have l:=hs.lt;rw[←t.len]at l;obtain⟨u,H⟩:=zq2 h hs;cases i:o.cj kd with
 |true=>
  obtain⟨a,st,rfl,v,c⟩:=Gz (s:=s) i;rw[i]at b;obtain⟨x,F⟩:=zq2 b c;generalize m:r.k=k at*;generalize y:ts.length=L at*;obtain⟨G,I⟩:=zq2 m y;clear b hs h i v c t m y d;unfold vs at*;go_enter nV,gW;go_wp2_with fail;refine x.out.mono ?_;rintro e w1 ⟨rfl,n,rfl⟩;go_wp2;go_ret;have q:Kg g w ((w.setCell ⟨g,1,none⟩ (.int .i64 (k+1))).drewN n):=((Ac.refl _ w).setCell (p:=⟨g,1,none⟩) (.inl rfl) _).drewN n;refine⟨rfl,q,u.out.dS q ?_ rfl⟩;have:=u.out.row.bM 1 (.int .i64 (k+1));exact this
 |false=>
  have c:=Gs (s:=s) i;rw[i]at b;obtain⟨x,F⟩:=zq2 b c;clear b hs h i c t d A C D l E;unfold vs at*;go_enter nV,gW;go_wp2_with fail;refine x.out.mono ?_;rintro e w1 ⟨rfl,n,rfl⟩;go_wp2;go_ret;exact⟨rfl,zAr.drewN n,u.out.drewN n⟩
def Aom (w:World) (g gp:Nat) (tl:Value) (ts:List CN) (pc:List Value) (s:Ah) (a:List Bi) (o:AQ M9) (e:Ending) (w':World):Prop:=
 ∃x:CN,e= .returned (EG x)/\Kg g w w'/\∃r',Gl w' g gp tl ts pc r'/\r'.decls=a/\match o with
  | .ok _ st=>r'.bad=0/\su st.bJ r'
  | .bad e p=>r'.bad=e/\r'.fT=p/\e≠0
theorem kH (h:Gl w g gp tl ts pc r) (hs:Bp s r o) (H:Eb ts (ji s)):
  Calls prog 56 #[.pointer (some ⟨g,0,none⟩),vs Ek] w (Aom w g gp tl ts pc s r.decls (BE s Ek o)):=by
 have b:=λW (hW:Gl W g gp tl ts pc r)=>ku hW hs H (kd:=Ek) (kr:=Ek) (by decide) (by decide);obtain⟨c0,c1,_⟩:=h.cells;have bW:=h.row.lt;obtain⟨x,n⟩:=hs.tok H;obtain⟨Y,Z,rfl,h1,h2,h3,h4,h5,t0,t1,t2⟩:=h.at_ n;unfold maxLen at h2;have ci:r.k<ts.length:=h3;have h8:=h.tl;obtain⟨HR,J,K,HT⟩:=zq4 h hs H b;generalize q:r.k=k at*;generalize hL:ts.length=L at*;obtain⟨cy,HL⟩:=zq2 q hL;clear hs h n H q hL b;cases hb:o.cj Ek
 all_goals
  have I:=Aa hb;clear hb;unfold vs at*;go_enter func56,ntmps56;go_wp2;go_region;go_wp2_with fail;have u:Gl ((w.alloc (.cells #[vs [],vs [],.int .i64 0] 138)).alloc (.cells #[vs x.is,vs x.bZ,.int .i64 x.pos] 138)).drew g gp (.slice (some ⟨Y,0,none⟩) L Z) ts pc r:=((HR.out.alloc _).alloc _).drewN 1;have x0:AF ((w.alloc (.cells #[vs [],vs [],.int .i64 0] 138)).alloc (.cells #[vs x.is,vs x.bZ,.int .i64 x.pos] 138)).drew w.heap.size 138 [vs [],vs [],.int .i64 0]:=(AF.new w _ _).alloc _;have x1:AF ((w.alloc (.cells #[vs [],vs [],.int .i64 0] 138)).alloc (.cells #[vs x.is,vs x.bZ,.int .i64 x.pos] 138)).drew (w.heap.size+1) 138 [vs x.is,vs x.bZ,.int .i64 x.pos]:=by have:=AF.new (w.alloc (.cells #[vs [],vs [],.int .i64 0] 138)) 138 [vs x.is,vs x.bZ,.int .i64 x.pos];simp only[Ig]at this;exact this
  have v:Kg g w ((w.alloc (.cells #[vs [],vs [],.int .i64 0] 138)).alloc (.cells #[vs x.is,vs x.bZ,.int .i64 x.pos] 138)).drew:=(((Ac.refl _ w).alloc (.inr (Ab _)) _).alloc (.inr (by simp)) _).drew;have d:=HT.out _ u;rw[I.out]at d;obtain⟨M,X0,X1,KK⟩:=zq4 d x0 x1 v;clear u d x0 x1 v;unfold vs at*;refine M.out.mono ?_;rintro e w1 ⟨rfl,y,z⟩;obtain⟨m,A⟩:=zq2 y z;clear y z
  first
   |(go_wp2_with fail
     refine(Np A.out J.out K.out (e:=2) (by decide)).mono ?_;rintro e w2 ⟨rfl,C,r2,D,E,F⟩;have N:=Aa F;clear F;obtain⟨O,P,Q⟩:=zq3 C D E;clear C D E)
   |skip
  first
   |have i:=Ep O.out (Ep m.out X0.out (by omega)) (by omega)
   |have i:=Ep m.out X0.out (by omega)
  first
   |have G:=Ep O.out (Ep m.out X1.out (by omega)) (by omega)
   |have G:=Ep m.out X1.out (by omega)
  obtain⟨d0,d1,d2,e0,R,S⟩:=zp6 (i.cell 0) (i.cell 1) (i.cell 2) (G.cell 0) (G.cell 1) (G.cell 2);have fz:=λj=>i.frozen j;have Y0:=Aa i;clear i G;simp at d0 d1 d2 e0 R S;go_wp2;have q1:=Y0.out;have l:(Value.slice (some ⟨Y,0,none⟩) L Z).ownBlock≠some w.heap.size:=λe=>by injection e with e;simp only at e;omega
  first
   |have g0:=P.out
   |have g0:=A.out
  first
   |have v:Kg g w _:=(KK.out.trans m.out).trans O.out
   |have v:Kg g w _:=KK.out.trans m.out
  have g1:=g0.dK q1 (by decide) l 0 (.string ⟨x.is.toArray⟩);have q2:=q1.bM 0 (.string ⟨x.is.toArray⟩);have g2:=g1.dK q2 (by decide) l 1 (.string ⟨x.bZ.toArray⟩);have q3:=q2.bM 1 (.string ⟨x.bZ.toArray⟩);have T:=g2.dK q3 (by decide) l 2 (.int .i64 x.pos);have q4:=q3.bM 2 (.int .i64 x.pos);have k4:=((v.setCell (p:=⟨w.heap.size,0,none⟩) (.inr (Ab _)) (.string ⟨x.is.toArray⟩)).setCell (p:=⟨w.heap.size,1,none⟩) (.inr (Ab _)) (.string ⟨x.bZ.toArray⟩)).setCell (p:=⟨w.heap.size,2,none⟩) (.inr (Ab _)) (.int .i64 x.pos);refine AB (AT (cs:=[.string ⟨x.is.toArray⟩,.string ⟨x.bZ.toArray⟩,.int .i64 x.pos]) Tryz.results56 jx aB rfl q4) rfl ?_;refine⟨x,rfl,k4,?_⟩
  first
   |(obtain⟨a,st,rfl,e1,e2⟩:=XN (s:=s) I.out
     rw[e2];have U:=AG.bad J.out;have V:=AG.bJ J.out;simp only[A7]at T;exact⟨_,T,rfl,U,V⟩)
   |(refine⟨_,T,N.out,?_⟩
     have n:=Z7 (s:=s) I.out (r:=_) (by rw[Gs I.out];exact(show Bp s _ ((o.bind λ_ st=>AQ.ok () st).ma D9)from by cases o<;>exact Q.out));have c:=n.1;have X:=n.2;cases hw:BE s Ek o with
     |ok t st=>exact absurd hw (X t st)
     |bad e p=>
      rw[hw]at c;exact⟨DM.bad c,DM.fT c,DM.ne c⟩)
end
section
variable {B:Nat}{w:World}{g gp:Nat}{tl:Value}{ts:List CN}{f:Int}{r:Fh}{vd:Value}{s:Ah}{st:PS}
theorem kR (h:RP B w g gp tl ts f A6 A6 A6 false r vd) (hs:AG s r st) (d:Eb ts (ji s)) (e:isDecl st.t.kind=true) (a:r.decls.length<=900) (b:f=st.bI):
  Calls prog 54 #[.pointer (some ⟨g,0,none⟩)] w (sK B w g gp tl ts s r.decls.length (decl s st)):=by
 rcases Zd e with c|c|c|c
 ·exact QF (.inl rfl) h hs d c a b
 ·exact QF (.inr (.inl rfl)) h hs d c a b
 ·exact QF (.inr (.inr rfl)) h hs d c a b
 ·exact eX h hs d c a
end
def Mf (N:Nat->Prop) (w:World) (gp:Nat) (p:Ax):Prop:=
 ∃vd vr vh vm hs rs,AF w gp 85 [vd,.int .i64 p.bI,vr,vh,vm,.bool true]/\Sl N w 87 3 vd p.decls.length (p.decls.flatMap FN)/\
  Qd N w vr vh p.decls.length hs rs/\Gx N w p.rules true vm p.decls.length hs rs/\N gp/\∃a n c,vm= .slice a n c
def Ahl (w:World) (s:Ah) (e:Ending) (w':World):Prop:=
 Ac (λb=>w.heap.size<=b) w w'/\match read s with
  | .error (k,pos)=>e= .returned (.tuple #[.pointer none,.int .i64 k,.int .i64 pos])
  | .ok p=>∃gp,e= .returned (.tuple #[.pointer (some ⟨gp,0,none⟩),.int .i64 0,.int .i64 0])/\Mf (λb=>w.heap.size<=b) w' gp p
section
variable {B:Nat}{w w2:World}{g gp:Nat}{tl:Value}{ts:List CN}{f:Int}{vr vh vm:Value}{ms:Bool}{r:Fh}{vd:Value}{hs:List Bool}{rs:List Value}{s:Ah}{st:PS}
theorem RP.iF (h:RP B w g gp tl ts f vr vh vm ms r vd) (i:Nat) (u:Value) {vr' vh' vm':Value}{ms':Bool}(m: [vd,.int .i64 f,vr,vh,vm,.bool ms].set i u=[vd,.int .i64 f,vr',vh',vm',.bool ms']):
  RP B (w.setCell ⟨gp,i,none⟩ u) g gp tl ts f vr' vh' vm' ms' r vd:=by
 have j:Ac (λb=>b=gp) w (w.setCell ⟨gp,i,none⟩ u):=Ac.one w ⟨gp,i,none⟩ _;obtain⟨N,k⟩:=h.rd.ji;have c:=h.rd.bQ.cZ h.rd.row (by decide);have a:=h.sl.kept j (λb d e=>h.sl.bK h.rd.bQ (by decide) (e▸d));have l:=h.rd.bQ.bM i u;rw[m]at l;exact⟨⟨h.rd.row.dK (λe=>c e.symm) _,⟨N,k.kept j (λb d e=>k.bK h.rd.bQ (by decide) (e▸d))⟩,h.rd.tl,l,⟨_,vd,rfl,a⟩,h.rd.dl⟩,h.g0,h.p0,a,by simpa using h.sz⟩
theorem RP.alloc (h:RP B w g gp tl ts f vr vh vm ms r vd) (o:Obj):RP B (w.alloc o) g gp tl ts f vr vh vm ms r vd:=
 h.call ((Ac.refl (λb=>b=g\/w.heap.size<=b) w).alloc (.inr (Ab _)) o) (h.rd.alloc o) rfl
theorem RP.drewN (h:RP B w g gp tl ts f vr vh vm ms r vd) (n:Nat):RP B (w.drewN n) g gp tl ts f vr vh vm ms r vd:=h.call ((Ac.refl _ w).drewN n) (h.rd.drewN n) rfl
theorem ko {m:Nat}{st':PS}(h:na s st) (i:st.t.kind=T9) (e:GJ s m st= .ok () st'):st'.bI=st.bI:=by
 rw[VB]at e;obtain⟨k,st1,e1,j⟩:=AD e;obtain⟨b,l,n,c⟩:=AD j;injection c with _ c;obtain⟨a,_,_⟩:=Ge h.ok i e1;obtain⟨d,_⟩:=DW a.ok (by rw[a.depth,h.depth];omega) (by rw[a.loops,h.loops];omega) n;rw[←c];split
 ·exact d.bI.trans a.bI
 ·exact d.bI.trans a.bI
structure YK (B:Nat) (w wr:World) (g gp:Nat) (tl:Value) (ts:List CN) (s:Ah) (n:Nat) (o:AQ Unit) (r:Fh) (f:Int) (vd:Value):Prop where
 rp:RP B wr g gp tl ts f A6 A6 A6 false r vd
 kept:Ac (λb=>B<=b) w wr
 fR:Bp s r o
 eq:Oe s (n+1) o=Oe s 702 (.ok () (start s))
 nP:∀st,o= .ok () st->na s st/\st.rules=[]/\f=st.bI/\left s st<=n
 dl:r.decls.length+Df s o<=702
theorem YK.next {B:Nat}{w wr w':World}{n:Nat}{r':Fh}{i:Int}{c:Value}(h:YK B w wr g gp tl ts s n (.ok () st) r f vd) (j:isDecl st.t.kind=true) (k:Ac (λb=>B<=b) wr w') (u:RP B w' g gp tl ts i A6 A6 A6 false r' c) (hs:Bp s r' (decl s st))
  (v:∀st',decl s st= .ok () st'->i=st'.bI) (C:r'.decls.length<=r.decls.length+1):(∃x,YK B w w' g gp tl ts s x (decl s st) r' i c)/\Df s (decl s st)<Df s (AQ.ok () st:AQ Unit):=by
 obtain⟨l,q,D,E⟩:=h.nP st rfl;have d:=Pi l.ok;have m:Df s (decl s st)<Df s (AQ.ok () st:AQ Unit):=by
  show Df s (decl s st)<left s st;cases y:decl s st with
  |bad e p=>exact d
  |ok a st'=>exact(SJ l j q y).2.2
 refine⟨⟨n-1,u,h.kept.trans k,hs,?_,λst' e=>?_,by have:=h.dl;omega⟩,m⟩
 ·have e:n-1+1=n:=by omega
  rw[e,←cQ j];exact h.eq
 ·obtain⟨z,A,F⟩:=SJ l j q e;exact⟨z,A,v st' e,by omega⟩
structure YG (B:Nat) (w wr:World) (g gp:Nat) (tl:Value) (ts:List CN) (s:Ah) (n:Nat) (o0 o:AQ Unit) (r:Fh) (f:Int) (vr vh vm:Value) (ms:Bool) (vd:Value) (hs:List Bool) (rs:List Value):Prop where
 rq:RQ B wr g gp tl ts f vr vh vm ms r vd hs rs
 kept:Ac (λb=>B<=b) w wr
 fR:Bp s r o
 eq:NR s 1500 (n+1) o=NR s 1500 702 o0
 nP:∀st,o= .ok () st->na s st/\f=st.bI/\left s st<=n/\n<=701/\(st.bJ=none->Gx (λb=>B<=b) wr st.rules ms vm r.decls.length hs rs)
theorem YG.next {B:Nat}{w wr w':World}{n:Nat}{v:AQ Unit}{r':Fh}{vm':Value}{ms':Bool}{c:List Bool}{d:List Value}(h:YG B w wr g gp tl ts s n v (.ok () st) r f vr vh vm ms vd hs rs) (j:st.t.kind=T9) (l:Ac (λb=>B<=b) wr w')
  (x:RQ B w' g gp tl ts f vr vh vm' ms' r' vd c d) (m:Bp s r' (GJ s 1500 st)) (q:r'.decls=r.decls) (y:∀st',GJ s 1500 st= .ok () st'->st'.bJ=none->Gx (λb=>B<=b) w' st'.rules ms' vm' r.decls.length c d):
  (∃z,YG B w w' g gp tl ts s z v (GJ s 1500 st) r' f vr vh vm' ms' vd c d)/\Df s (GJ s 1500 st)<Df s (AQ.ok () st:AQ Unit):=by
 obtain⟨k,A,E,F,G⟩:=h.nP st rfl;have i:=Pi k.ok;have u:Df s (GJ s 1500 st)<Df s (AQ.ok () st:AQ Unit):=by
  show Df s (GJ s 1500 st)<left s st;cases q:GJ s 1500 st with
  |bad e p=>exact i
  |ok a st'=>exact(RM k j q).2.1
 refine⟨⟨n-1,x,h.kept.trans l,m,?_,λst' e=>?_⟩,u⟩
 ·have e:n-1+1=n:=by omega
  rw[e,←aH j];exact h.eq
 ·obtain⟨C,H,I⟩:=RM k j e;refine⟨C,A.trans (ko k j e).symm,by omega,by omega,λD=>?_⟩;rw[q];exact y st' e D
end
theorem fu:(prog.info? 83).map (λi=>(i.zero,i.size,i.bytes))=some (some (.slice none 0 0),1,24):=by kernel_rfl
theorem lN:(prog.info? 4).map (λi=>(i.zero,i.size,i.bytes))=some (some (.bool false),1,1):=by kernel_rfl
theorem pI (n:Nat) (g:n<=1000) (W:World):(Instr.makeSlice 81 (.int .i64 (n:Int)) (.int .i64 (n:Int))).run prog W=
  .ok (.slice (some ⟨W.heap.size,0,none⟩) n n) (W.alloc (.cells (List.replicate n (Value.slice none 0 0)).toArray 83)):=by
 obtain⟨f,a,b,c,d⟩:=Bg fu;have h:=WZ (P:=prog) W 81 83 f _ underlying81 a b .i64 .i64 (n:Int) (n:Int) (by omega) (by omega) (by rw[d];omega) (by omega);rw[c,As]at h;have e:(Value.slice none 0 0).cells=#[Value.slice none 0 0]:=rfl;rw[e,GQ,GC]at h;exact h
theorem zW13 (n:Nat) (g:n<=1000) (W:World):(Instr.makeSlice 82 (.int .i64 (n:Int)) (.int .i64 (n:Int))).run prog W=
  .ok (.slice (some ⟨W.heap.size,0,none⟩) n n) (W.alloc (.cells (List.replicate n (Value.bool false)).toArray 4)):=by
 obtain⟨f,a,b,c,d⟩:=Bg lN;have h:=WZ (P:=prog) W 82 4 f _ underlying82 a b .i64 .i64 (n:Int) (n:Int) (by omega) (by omega) (by rw[d];omega) (by omega);rw[c,As]at h;have e:(Value.bool false).cells=#[Value.bool false]:=rfl;rw[e,GQ,GC]at h;exact h
theorem Ct.iD (N:Nat->Prop) (w:World):Ct N w (.slice none 0 0) .nil:=⟨[],⟨Cn _ _ _ _,λg a=>by cases a⟩,rfl⟩
theorem Gx.none_ (N:Nat->Prop) (w:World) (n:Nat):Gx N w [] false (.slice none 0 0) n (List.replicate n false) (List.replicate n (.slice none 0 0)):=
 ⟨rfl,Ct.iD N w,λk a=>by rw[By,Al a];rfl,λk a=>⟨.slice none 0 0,by rw[By,Al a],Ct.iD N w⟩⟩
theorem Sl.made {N:Nat->Prop}{w:World}{t:TypeId}{n:Nat}{x:Value}(b:N w.heap.size) (c:n<=maxLen):Sl N (w.alloc (.cells (List.replicate n x).toArray t)) t 1 (.slice (some ⟨w.heap.size,0,none⟩) n n) n (List.replicate n x):=
 ⟨⟨by simp,.inr ⟨w.heap.size,n,_,rfl,AM _,P7 w _,Ab _,c,by simp,by simp⟩⟩,λg a=>by injection a with a;simp only at a;exact a▸b⟩
abbrev Adp:Fh:=⟨0,0,0,0,0,0,0,[],0,0⟩
theorem RP.start {B:Nat}{W:World}{tl:Value}{ts:List CN}(h:Sl (λb=>B<=b) W 138 3 tl ts.length (ts.flatMap Lp)) (c:ts.length<=1000) (d:B<=W.heap.size):
  RP B ((W.alloc (.cells #[.slice none 0 0,.int .i64 0,.slice none 0 0,.slice none 0 0,.slice none 0 0,.bool false] 85)).alloc (.cells #[tl,.int .i64 0,.int .i64 0,.int .i64 0,.int .i64 0,.int .i64 0,.int .i64 0,.int .i64 0,.pointer (some ⟨W.heap.size,0,none⟩),.int .i64 0] 136))
   (W.heap.size+1) W.heap.size tl ts 0 A6 A6 A6 false Adp A6:=by
 have i:=AF.new W 85 [.slice none 0 0,.int .i64 0,.slice none 0 0,.slice none 0 0,.slice none 0 0,.bool false];have e:=AF.new (W.alloc (.cells #[.slice none 0 0,.int .i64 0,.slice none 0 0,.slice none 0 0,.slice none 0 0,.bool false] 85)) 136 [tl,.int .i64 0,.int .i64 0,.int .i64 0,.int .i64 0,.int .i64 0,.int .i64 0,.int .i64 0,.pointer (some ⟨W.heap.size,0,none⟩),.int .i64 0];simp only[Ig]at e;have a:∀f,Sl (λb=>B<=b) f 87 3 A6 0 []:=λf=>⟨Cn _ _ _ _,λg j=>by cases j⟩;exact⟨⟨e,⟨_,(h.alloc _).alloc _⟩,c,i.alloc _,⟨_,A6,rfl,a _⟩,AM _⟩,Nat.le_succ_of_le d,d,a _,by simp;omega⟩
section
variable {w:World}{gw:Nat×Nat}{s:Ah}
theorem XY (D:M8 w gw) (s:Ah):Calls prog 30 #[vs s] w (Ahl w s):=by
 by_cases h7:700<s.length
 ·have hr:=Aa (eU h7);have jC:=Ay s;have bU:(700:Int)<(s.length:Int):=by omega
  clear h7 D;unfold vs;go_enter func30,ntmps30;go_wp2
  go_ret3
  refine⟨Ac.refl _ _,?_⟩;rw[hr.out];rfl
 ·have fy:=eB D (s:=s) (by omega);have jC:=Ay s;have bU:(s.length:Int)<=700:=by omega
  obtain⟨fB,H7⟩:=zq2 fy h7;clear fy h7 D;unfold vs at*;go_enter func30,ntmps30;go_wp2_with fail;refine fB.out.mono ?_;rintro e w1 ⟨Z,tl,rfl,dd⟩;have fC:=kp s;obtain⟨O,P,rfl⟩:=dd.cB;generalize jD:(Value.slice O (Qm s).length P)=tl at*;have i:=RP.start (B:=w.heap.size) dd (by omega) Z.size;have kP:Ac (λb=>w.heap.size<=b) w ((w1.alloc (.cells #[.slice none 0 0,.int .i64 0,.slice none 0 0,.slice none 0 0,.slice none 0 0,.bool false] 85)).alloc (.cells #[tl,.int .i64 0,.int .i64 0,.int .i64 0,.int .i64 0,.int .i64 0,.int .i64 0,.int .i64 0,.pointer (some ⟨w1.heap.size,0,none⟩),.int .i64 0] 136)):=
   (Z.alloc Z.size _).alloc (by simp;have:=Z.size;omega) _
  have fD:YK w.heap.size w ((w1.alloc (.cells #[.slice none 0 0,.int .i64 0,.slice none 0 0,.slice none 0 0,.slice none 0 0,.bool false] 85)).alloc (.cells #[tl,.int .i64 0,.int .i64 0,.int .i64 0,.int .i64 0,.int .i64 0,.int .i64 0,.int .i64 0,.pointer (some ⟨w1.heap.size,0,none⟩),.int .i64 0] 136)) (w1.heap.size+1) w1.heap.size tl (Qm s) s 701 (.ok () (start s)) Adp 0 A6:=
   ⟨i,kP,AG.start s,rfl,λst e=>by
    injection e with _ e;subst e;have hl:left s (start s)<=701:=by unfold left;omega
    exact⟨Tn s (by omega),rfl,rfl,hl⟩,by
    have hl:left s (start s)<=701:=by unfold left;omega
    show 0+left s (start s)<=702;omega⟩
  have bV:=Aa fD;clear dd i kP fD fB;subst jD;generalize fE:Qm s=f at*;have A:=Aa (show Eb f (ji s)from fE▸aJ s);clear fE;go_upto_block 0 with fail;generalize (w1.alloc (.cells #[.slice none 0 0,.int .i64 0,.slice none 0 0,.slice none 0 0,.slice none 0 0,.bool false] 85)).alloc (.cells #[.slice O f.length P,.int .i64 0,.int .i64 0,.int .i64 0,.int .i64 0,.int .i64 0,.int .i64 0,.int .i64 0,.pointer (some ⟨w1.heap.size,0,none⟩),.int .i64 0] 136)=W0 at*;generalize w1.heap.size+1=g at*;generalize w1.heap.size=gp at*;clear Z fC;go_cut [] (λM=>∃n l r1 k m,YK w.heap.size w M g gp (.slice O f.length P) f s n l r1 k m/\PU l=false)
  case first=>
   go_wp2_with fail
   go_loopg [] 702 (λgg wr=>∃n l r1 k m,YK w.heap.size w wr g gp (.slice O f.length P) f s n l r1 k m/\Df s l<=gg)
   case atStart=>exact⟨701,_,_,_,_,bV.out,by have:=bV.out.dl;simp at this ⊢;omega⟩
   case round=>
    clear bV;obtain⟨n,l,r1,k,m,T,hg⟩:=hrel;have i1:=λW (h:Gl W g gp (.slice O f.length P) f [m,.int .i64 k,A6,A6,A6,.bool false] r1)=>Kn h T.fR A.out (kd:=EO) (kr:=EO) (by decide) (by decide);have i2:=λW (h:Gl W g gp (.slice O f.length P) f [m,.int .i64 k,A6,A6,A6,.bool false] r1)=>Kn h T.fR A.out (kd:=Gg) (kr:=Gg) (by decide) (by decide);have i3:=λW (h:Gl W g gp (.slice O f.length P) f [m,.int .i64 k,A6,A6,A6,.bool false] r1)=>Kn h T.fR A.out (kd:=Jy) (kr:=Jy) (by decide) (by decide);have i4:=λW (h:Gl W g gp (.slice O f.length P) f [m,.int .i64 k,A6,A6,A6,.bool false] r1)=>Kn h T.fR A.out (kd:=Cy) (kr:=Cy) (by decide) (by decide);obtain⟨U,I2,I3,I4,u,HG,V⟩:=zq7 i1 i2 i3 i4 T hg (ft l);clear i1 i2 i3 i4 T hg;unfold vs at*;go_upto_region 4 with fail;go_cut [28] (λjM M=>jM= .bool (PU l)/\∃q,M=wr.drewN q)
    case first=>
     cases b1:l.cj EO with
     |true=>
      rw[b1]at U V;go_wp2_with fail;refine(U.out _ u.out.rp.rd).mono ?_;rintro x X ⟨rfl,Y,rfl⟩;go_wp2;go_meet;exact⟨by rw[V.out];rfl,Y,rfl⟩
     |false=>
      rw[b1]at U V;cases b2:l.cj Gg with
      |true=>
       rw[b2]at I2 V;go_wp2_with fail;refine(U.out _ u.out.rp.rd).mono ?_;rintro x X ⟨rfl,Y,rfl⟩;go_wp2_with fail;refine(I2.out _ (u.out.rp.rd.drewN _)).mono ?_;rintro x X ⟨rfl,q2,rfl⟩;go_wp2;go_meet;exact⟨by rw[V.out];rfl,_,rfl⟩
      |false=>
       rw[b2]at I2 V;cases b3:l.cj Jy with
       |true=>
        rw[b3]at I3 V;go_wp2_with fail;refine(U.out _ u.out.rp.rd).mono ?_;rintro x X ⟨rfl,Y,rfl⟩;go_wp2_with fail;refine(I2.out _ (u.out.rp.rd.drewN _)).mono ?_;rintro x X ⟨rfl,q2,rfl⟩;go_wp2_with fail;refine(I3.out _ (u.out.rp.rd.drewN _)).mono ?_;rintro x X ⟨rfl,q3,rfl⟩;go_wp2;go_meet;exact⟨by rw[V.out];rfl,_,rfl⟩
       |false=>
        rw[b3]at I3 V;cases b4:l.cj Cy
        all_goals
         rw[b4]at I4 V;go_wp2_with fail;refine(U.out _ u.out.rp.rd).mono ?_;rintro x X ⟨rfl,Y,rfl⟩;go_wp2_with fail;refine(I2.out _ (u.out.rp.rd.drewN _)).mono ?_;rintro x X ⟨rfl,q2,rfl⟩;go_wp2_with fail;refine(I3.out _ (u.out.rp.rd.drewN _)).mono ?_;rintro x X ⟨rfl,q3,rfl⟩;go_wp2_with fail;refine(I4.out _ (u.out.rp.rd.drewN _)).mono ?_;rintro x X ⟨rfl,q4,rfl⟩;go_wp2;go_meet;exact⟨by rw[V.out];rfl,_,rfl⟩
    case rest=>
     obtain⟨rfl,q,rfl⟩:=hcut;clear U I2 I3 I4 V;have F:=u.out;have dG:=F.rp.drewN q;have fH:=F.kept.drewN q;cases hid:PU l with
     |true=>
      obtain⟨st,rfl,G⟩:=bE hid;obtain⟨Q,m2,m3,m4⟩:=F.nP st rfl;have dH:=F.dl;have fJ:=kR dG F.fR A.out G (by omega) m3;obtain⟨fK,dI⟩:=zq2 fJ G;clear F dG fH fJ G hid Q m2 m3 m4 dH;go_wp2_with fail;refine fK.out.mono ?_;rintro x X ⟨rfl,fL,f2,nH,r2,fM,o,fN,fO⟩;have H:=u.out.next dI.out (((Ac.refl _ wr).drewN q).trans fL) fM o fN fO;have dJ:=Aa H;obtain⟨jR,hg⟩:=zp2 H.2 HG.out;clear H fL fM o fN fO fK;go_wp2;go_roundg (Df s (decl s st))
      case measure=>omega
      case rel=>
       obtain⟨⟨n',hn⟩,_⟩:=dJ.out;exact⟨n',_,_,_,_,hn,Ab _⟩
     |false=>
      have HF:=Aa hid;clear F dG fH hid;go_wp2;go_meet;obtain⟨l1,l2,l3,l4,l5,l6⟩:=u.out;exact⟨n,l,r1,k,m,⟨l1.drewN q,l2.drewN q,l3,l4,l5,l6⟩,HF.out⟩
  case rest=>
   obtain⟨n,l,r1,k,m,T,hid⟩:=hcut;clear bV;have fP:l=Oe s 702 (.ok () (start s)):=by rw[←T.eq,gz hid]
   have dH:=T.dl;have i:=T.rp;have bU:=i.sl;obtain⟨ad,cd,rfl⟩:=bU.cB;obtain⟨c8,p0,p2⟩:=zp3 i.rd.cells.2.2.2.2.2.2.2.2.1 (i.rd.bQ.cell 0) (i.rd.bQ.cell 2);have pf:=λj=>i.rd.bQ.frozen j;have pl:=i.rd.bQ.lt;have rl:=i.rd.row.lt;simp at p0 p2;have fS:=pI r1.decls.length (by omega);obtain⟨u,lT,dK,nN⟩:=zq4 T fP (show r1.decls.length<=702 by omega) hid;clear T i bU fP dH hid;generalize fT:r1.decls.length=N at*;have be:=Aa fT;generalize fU:(List.replicate N (Value.slice none 0 0))=E at fS;have lU:=Aa fU;clear fT fU;unfold A6 at*;go_upto_region 6 with fail;go_cut [] (λM=>∃vr,RP w.heap.size M g gp (.slice O f.length P) f k vr (.slice none 0 0) (.slice none 0 0) false r1 (.slice ad N cd)/\Sl (λb=>w.heap.size<=b) M 83 1 vr N (List.replicate N (Value.slice none 0 0))/\Ac (λb=>w.heap.size<=b) w M)
   case first=>
    go_region;go_wp2;go_meet;have C:=u.out.rp.sz;have dL:=u.out.rp.iF 2 (.slice (some ⟨wc.heap.size,0,none⟩) N N) (vr':=.slice (some ⟨wc.heap.size,0,none⟩) N N) (vh':=A6) (vm':=A6) (ms':=false) rfl;have bL:=Sl.made (N:=λb=>w.heap.size<=b) (w:=wc.setCell ⟨gp,2,none⟩ (.slice (some ⟨wc.heap.size,0,none⟩) N N)) (t:=83) (n:=N) (x:=Value.slice none 0 0) (by simpa using C) (by unfold maxLen;have:=dK.out;omega);simp only[dv]at bL;rw[←lU.out];exact⟨_,(dL.alloc _).drewN 1,bL.of_heap rfl,((u.out.kept.setCell (p:=⟨gp,2,none⟩) u.out.rp.p0 _).alloc (by simpa using C) _).drew⟩
   case rest=>
    obtain⟨vr,i,bM,hk⟩:=hcut;obtain⟨gI,ik,iu⟩:=zp3 i.rd.cells.2.2.2.2.2.2.2.2.1 (i.rd.bQ.cell 0) (i.rd.bQ.cell 3);have lV:=λj=>i.rd.bQ.frozen j;have lX:=i.rd.bQ.lt;have lY:=i.rd.row.lt;simp at ik iu;have cu:=zW13 N (by have:=dK.out;omega);obtain⟨dN,HP,HK⟩:=zq3 bM i hk;clear c8 p0 p2 pf pl rl fS i bM hk;generalize cw:(List.replicate N (Value.bool false))=E2 at cu;have iy:=Aa cw;clear cw;go_upto_region 7 with fail;go_cut [] (λM=>∃vh,RP w.heap.size M g gp (.slice O f.length P) f k vr vh (.slice none 0 0) false r1 (.slice ad N cd)/\Sl (λb=>w.heap.size<=b) M 4 1 vh N (List.replicate N (Value.bool false))/\Sl (λb=>w.heap.size<=b) M 83 1 vr N (List.replicate N (Value.slice none 0 0))/\Ac (λb=>w.heap.size<=b) w M)
    case first=>
     go_region;go_wp2;go_meet;have C:=HP.out.sz;have dL:=HP.out.iF 3 (.slice (some ⟨wc.heap.size,0,none⟩) N N) (vr':=vr) (vh':=.slice (some ⟨wc.heap.size,0,none⟩) N N) (vm':=.slice none 0 0) (ms':=false) rfl;have bL:=Sl.made (N:=λb=>w.heap.size<=b) (w:=wc.setCell ⟨gp,3,none⟩ (.slice (some ⟨wc.heap.size,0,none⟩) N N)) (t:=4) (n:=N) (x:=Value.bool false) (by simpa using C) (by unfold maxLen;have:=dK.out;omega);simp only[dv]at bL;rw[←iy.out];have iz:Ac (λb=>b=gp) wc (wc.setCell ⟨gp,3,none⟩ (.slice (some ⟨wc.heap.size,0,none⟩) N N)):=Ac.one wc ⟨gp,3,none⟩ _;have lZ:=(dN.out.kept iz (λb hb e=>dN.out.bK HP.out.rd.bQ (by decide) (e▸hb))).alloc (.cells (List.replicate N (Value.bool false)).toArray 4);exact⟨_,(dL.alloc _).drewN 1,bL.of_heap rfl,lZ.of_heap rfl,((HK.out.setCell (p:=⟨gp,3,none⟩) HP.out.p0 _).alloc (by simpa using C) _).drew⟩
    case rest=>
     obtain⟨vh,i,iA,bM,hk⟩:=hcut;have iB:YG w.heap.size w wc g gp (.slice O f.length P) f s 701 l l r1 k vr vh (.slice none 0 0) false (.slice ad N cd) (List.replicate N false) (List.replicate N (.slice none 0 0)):=by
      refine⟨⟨i,⟨?_,?_,?_,?_,?_⟩,⟨_,_,_,rfl⟩⟩,hk,u.out.fR,rfl,λst e=>?_⟩
      ·rw[be.out,Qf];exact iA
      ·rw[be.out];exact bM
      ·rw[be.out,CO]
      ·rw[be.out,CO]
      ·intro v hv;rw[List.eq_of_mem_replicate hv];exact⟨_,_,_,rfl⟩
      ·obtain⟨Q,m2,m3,m4⟩:=u.out.nP st e;refine⟨Q,m3,by have:=Q.dl;omega,Ab _,λ_=>?_⟩;rw[m2,be.out];exact Gx.none_ _ _ _
     have dP:=Aa iB;clear gI ik iu lV lX lY cu i iA bM hk iB dN HP HK;go_upto_block 2 with fail;go_cut [] (λM=>∃n2 o2 r2 I R o J,YG w.heap.size w M g gp (.slice O f.length P) f s n2 l o2 r2 k vr vh I R (.slice ad N cd) o J/\o2.cj T9=false)
     case first=>
      go_wp2_with fail
      go_loopg [] 702 (λgg wr=>∃n2 o2 r2 I R o J,YG w.heap.size w wr g gp (.slice O f.length P) f s n2 l o2 r2 k vr vh I R (.slice ad N cd) o J/\Df s o2<=gg)
      case atStart=>exact⟨701,_,_,_,_,_,_,dP.out,by have:=VW (s:=s) l;have:=H7.out;omega⟩
      case round=>
       clear dP;obtain⟨n2,o2,r2,I,R,o,J,r,hg⟩:=hrel;have i1:=Kn r.rq.rd r.fR A.out (kd:=T9) (kr:=T9) (by decide) (by decide);obtain⟨U,d,HG⟩:=zq3 i1 r hg;clear i1 r hg;unfold vs at*;cases b1:o2.cj T9 with
       |true=>
        obtain⟨a0,st,rfl,G⟩:=AQ.iw b1;cases a0;obtain⟨Q,m2,m3,m5,m4⟩:=d.out.nP st rfl;rw[b1]at U;clear b1;go_wp2_with fail;refine U.out.mono ?_;rintro x X ⟨rfl,Y,rfl⟩;have iD:=kD (d.out.rq.call ((Ac.refl _ wr).drewN Y) (d.out.rq.rd.drewN Y) rfl) d.out.fR A.out (by have:=H7.out;omega) G Q.depth Q.loops (by have:=Q.dl;omega) (λD=>(m4 D).kept (λ_ _ _ _=>rfl));obtain⟨iE,dI⟩:=zq2 iD G;clear iD Q m2 m3 m4 m5 G;go_wp2_with fail;refine iE.out.mono ?_;rintro x w3 ⟨rfl,iG,nS,nT,r3,oh,ol,iH,iI,iT,i8⟩;have H:=d.out.next dI.out (((Ac.refl _ wr).drewN Y).trans iG) iH iI iT i8;have dJ:=Aa H;have jR:Df s (GJ s 1500 st)<Df s (AQ.ok () st:AQ Unit):=H.2;have hg:Df s (AQ.ok () st:AQ Unit)<=_:=HG.out;clear H iG iH iI iT i8 iE;go_wp2;go_roundg (Df s (GJ s 1500 st))
        case measure=>omega
        case rel=>
         obtain⟨⟨n',hn⟩,_⟩:=dJ.out;exact⟨n',_,_,_,_,_,_,hn,Ab _⟩
       |false=>
        rw[b1]at U;have l7:=Aa b1;clear b1;go_wp2_with fail;refine U.out.mono ?_;rintro x X ⟨rfl,Y,rfl⟩;go_wp2;go_meet;obtain⟨l1,l2,l3,l4,l5⟩:=d.out;exact⟨n2,o2,r2,I,R,o,J,⟨l1.call ((Ac.refl _ wr).drewN Y) (l1.rd.drewN Y) rfl,l2.drewN Y,l3,l4,λst e=>by
         obtain⟨Q,m2,m3,m5,m4⟩:=l5 st e;exact⟨Q,m2,m3,m5,λD=>(m4 D).kept (λ_ _ _ _=>rfl)⟩⟩,l7.out⟩
     case rest=>
      obtain⟨n2,o2,r2,I,R,o,J,r,jd⟩:=hcut;clear dP;have je:o2=NR s 1500 702 l:=by rw[←r.eq,eM jd]
      have cy:Fm s=BE s Ek o2:=by rw[eW,je,lT.out];rfl
      have jf:=kH r.rq.rd r.fR A.out;obtain⟨jg,d,z⟩:=zq3 jf r cy;clear jf r cy je jd;unfold vs at*;go_wp2_with fail;refine jg.out.mono ?_;rintro x w4 ⟨x4,rfl,dQ,r4,h4,jh,bY⟩;obtain⟨c4,c5,c6,c7,gI,p5⟩:=zp6 h4.cells.2.2.2.2.1 h4.cells.2.2.2.2.2.1 h4.cells.2.2.2.2.2.2.1 h4.cells.2.2.2.2.2.2.2.1 h4.cells.2.2.2.2.2.2.2.2.1 (h4.bQ.cell 5);simp at p5;obtain⟨oq,ot⟩:=zp2 h4.row.lt h4.bQ.lt;obtain⟨K4,H4,jj,dR⟩:=zq4 (d.out.kept.trans (VX dQ d.out.rq.g0 d.out.rq.sz)) h4 dQ (show r4.decls=r2.decls from jh);clear dQ h4 jh jg;unfold EG;cases D:BE s Ek o2 with
      |bad e p=>
       rw[D]at bY z;obtain⟨e1,e2,e3⟩:=bY;have k:((r4.bad:Int)==0)=false:=by rw[e1];simpa using e3
       have f2:decide ((r4.bad:Int)=0)=false:=by rw[e1];simpa using e3
       obtain⟨HB,HR⟩:=zq2 (And.intro e1 e2) (pt H7.out z.out);clear D e1 e2 e3;unfold vs at*;go_wp2;go_region;go_wp2
       go_ret3
       refine⟨K4.out.drewN 1,?_⟩;rw[HR.out,HB.out.1,HB.out.2];rfl
      |ok t4 dU=>
       rw[D]at bY z;obtain⟨e1,e2⟩:=bY;have k:(r4.bad:Int)=0:=by rw[e1];rfl
       rw[k]at c4;have HW:=Aa D;clear D e1 k;cases K:dU.bJ with
       |some y=>
        rw[K]at e2;obtain⟨e3,e4,e5⟩:=e2;have k:((r4.bJ:Int)==0)=false:=by rw[e3];simpa using e5
        have f2:decide ((r4.bJ:Int)=0)=false:=by rw[e3];simpa using e5
        obtain⟨HB,HR⟩:=zq2 (And.intro e3 e4) (eT H7.out z.out K);clear K e3 e4 e5;unfold vs at*;go_wp2;go_region;go_wp2
        go_ret3
        refine⟨K4.out.drewN 1,?_⟩;rw[HR.out,HB.out.1,HB.out.2];rfl
       |none=>
        rw[K]at e2;have k:(r4.bJ:Int)=0:=by rw[show r4.bJ=0 from e2];rfl
        rw[k]at c6;have l9:∃c,o2= .ok () c/\dU=next s c:=by
         have D:=HW.out;cases o2 with
         |bad e p=>cases D
         |ok a c=>exact⟨c,rfl,(BH (show want s Ek c= .ok t4 dU from D)).2.2⟩
        obtain⟨c,rfl,rfl⟩:=l9;have da:c.bJ=none:=K;obtain⟨Q,m2,m3,m5,m4⟩:=d.out.nP c rfl;have L:=(m4 da).kg jj.out d.out.rq.rd.row;have bZ:=L.ms;obtain⟨dV,HF,jl⟩:=zq3 L m2 K;clear K e2 k Q m2 m3 m4 m5 L da;cases S:(Es c.rules).isSome with
        |false=>
         rw[S]at bZ;have HR:=Aa (aU H7.out z.out jl.out S);clear S;subst bZ;unfold vs at*;go_wp2
         go_ret3
         refine⟨K4.out,?_⟩;rw[HR.out];rfl
        |true=>
         rw[S]at bZ;have HR:=Aa (kN H7.out z.out jl.out S);clear S;subst bZ;unfold vs at*;go_wp2
         go_ret3
         refine⟨K4.out,?_⟩;rw[HR.out];have hq:=d.out.rq.call jj.out H4.out dR.out;have bN:c.decls=r4.decls:=by rw[dR.out];exact(AG.decls d.out.fR).symm
         refine⟨gp,rfl,.slice ad N cd,vr,vh,I,o,J,?_,?_,?_,?_,hq.p0,hq.qn⟩
         ·show AF w4 gp _ [_,.int .i64 c.bI,_,_,_,.bool true];rw[←HF.out];exact H4.out.bQ
         ·show Sl _ w4 _ 3 _ c.decls.length (c.decls.flatMap FN);rw[bN];exact hq.sl
         ·show Qd _ w4 _ _ c.decls.length _ _;rw[bN];exact hq.ru
         ·show Gx _ w4 c.rules true _ c.decls.length _ _;rw[bN,dR.out];exact dV.out
end
def Cf (e:Gp):List Value:=[.int .u64 e.key,.int .i64 e.bI]
def Far (u v:Value):Prop:=∀b,u.ownBlock=some b->v.ownBlock≠some b
theorem Far.symm {u v:Value}(h:Far u v):Far v u:=λb a c=>h b c a
structure QR (S:Nat->Prop) (w:World) (vq:Value) (q:List (List Gp)) (vl:List Value):Prop where
 outer:Sl S w 122 1 vq q.length vl
 len:vl.length=q.length
 inner:∀(i:Nat) v l,vl[i]?=some v->q[i]?=some l->Sl S w 117 2 v l.length (l.flatMap Cf)
 dK:∀(i j:Nat) u v,i≠j->vl[i]?=some u->vl[j]?=some v->Far u v
section
variable {S S1:Nat->Prop}{w w':World}{vq:Value}{q:List (List Gp)}{vl:List Value}
theorem QR.kept (h:QR S w vq q vl) (e:Ac S1 w w') (f:∀b,S b->b<w.heap.size->¬S1 b):QR S w' vq q vl:=
 ⟨h.outer.kept e (λb a=>f b (h.outer.2 b a) (h.outer.lt a)),h.len,
  λi v l c d=>(h.inner i v l c d).kept e (λb a=>f b ((h.inner i v l c d).2 b a) ((h.inner i v l c d).lt a)),h.dK⟩
theorem QR.mono (h:QR S w vq q vl) (e:∀b,b<w.heap.size->S b->S1 b):QR S1 w vq q vl:=
 ⟨⟨h.outer.1,λg a=>e g (h.outer.lt a) (h.outer.2 g a)⟩,h.len,λi v l c d=>⟨(h.inner i v l c d).1,λg a=>e g ((h.inner i v l c d).lt a) ((h.inner i v l c d).2 g a)⟩,h.dK⟩
theorem QR.at_ (h:QR S w vq q vl) {k:Nat}(c:k<q.length):∃v l,vl[k]?=some v/\q[k]?=some l/\w.cell? ⟨vq.ownBlock.getD 0,k,none⟩=some v:=by have f:=h.len;have a:=h.outer;obtain⟨v,b⟩:∃v,vl[k]?=some v:=⟨_,Ae (by omega)⟩;obtain⟨g,d,e,_⟩:=a.form (by omega);refine⟨v,q[k],b,Ae c,?_⟩;clear h;subst e;exact(a.1.cellAt k (by omega)).trans b
theorem QR.bM (h:QR S w vq q vl) {k:Nat}{v:Value}(B:vl[k]?=some v) (N:Ac S1 w w') (O:∀b,S1 b->v.ownBlock=some b\/w.heap.size<=b) {u:Value}{l':List Gp}
  (Q:Sl S w' 117 2 u l'.length (l'.flatMap Cf)) (s:∀b,u.ownBlock=some b->v.ownBlock=some b\/w.heap.size<=b) {g c:Nat} (e:vq= .slice (some ⟨g,0,none⟩) q.length c):
  QR S (w'.setCell ⟨g,k,none⟩ u) vq (q.set k l') (vl.set k u):=by
 have f:k<q.length:=by rw[←h.len];exact(Aj.1 B).1
 have G:q[k]?=some q[k]:=Ae f;have H:=h.inner k v q[k] B G;have C:vq.ownBlock=some g:=by rw[e];rfl
 have n1:v.ownBlock≠some g:=H.da h.outer (by decide) C;have I:¬S1 g:=λn=>(O g n).elim n1 (λp=>by have:=h.outer.lt C;omega);have m:=h.outer.kept N (λb a=>by rw[C]at a;injection a with a;exact a▸I);have P:Ac (λb=>b=g) w' (w'.setCell ⟨g,k,none⟩ u):=Ac.one w' ⟨g,k,none⟩ u;refine⟨?_,by simp[h.len],?_,?_⟩
 ·have n:=m;rw[e]at n;have R:=n.1.stored k u;refine⟨?_,m.2⟩;rw[A9,e];exact R.1
 ·intro i x l t A;rcases Nat.decEq i k with D|rfl
  ·rw[BU (Kj D)]at t A;have d:=h.inner i x l t A;have E:=h.dK i k x v D t B;have J:=d.kept N (λb a n=>(O b n).elim (λe=>E b a e) (λp=>by have:=d.lt a;omega));exact J.kept P (λb a n=>d.da h.outer (by decide) C (n▸a))
  ·rw[CG (by rw[h.len];exact f)]at t;rw[CG f]at A;injection t with t;injection A with A;subst t A;refine Q.kept P (λb a n=>?_);subst n;exact(s b a).elim n1 (λp=>by have:=h.outer.lt C;omega)
 ·intro i j x y z d o;rcases Nat.decEq i k with F|rfl
  ·rw[BU (Kj F)]at d;rcases Nat.decEq j k with K|rfl
   ·rw[BU (Kj K)]at o;exact h.dK i j x y z d o
   ·rw[CG (by rw[h.len];exact f)]at o;injection o with o;subst o;have L:i<q.length:=by rw[←h.len];exact(Aj.1 d).1
    intro b a r;exact(s b r).elim (λe=>h.dK i j x v F d B b a e) (λp=>by have:=(h.inner i x q[i] d (Ae L)).lt a;omega)
  ·rw[CG (by rw[h.len];exact f)]at d;injection d with d;subst d;rw[BU z]at o;have M:j<q.length:=by rw[←h.len];exact(Aj.1 o).1
   intro b a r;exact(s b a).elim (λe=>h.dK j i y v (Kj z) o B b r e) (λp=>by have:=(h.inner j y q[j] o (Ae M)).lt r;omega)
theorem QR.jd (h:QR S w vq q vl) {k i:Nat}{g c:Nat}{l:List Gp}(r:vl[k]?=some (.slice (some ⟨g,0,none⟩) l.length c)) (y:q[k]?=some l) {e:Gp}(A:l[i]?=some e) (f:Int):
  QR S (w.setCell ⟨g,i*2+1,none⟩ (.int .i64 f)) vq (q.set k (l.set i {e with bI:=f})) vl:=by
 have s:k<q.length:=(Aj.1 y).1;have n:=h.inner k _ l r y;have z:Ac (λb=>b=g) w (w.setCell ⟨g,i*2+1,none⟩ (.int .i64 f)):=Ac.one w ⟨g,i*2+1,none⟩ _;have o:=n.bM (f:=Cf) (λ_=>rfl) (i:=i) (j:=1) (x:=e) (x':={e with bI:=f}) (u:=.int .i64 f) A (by omega) rfl;refine⟨?_,by rw[A9];exact h.len,?_,h.dK⟩
 ·rw[A9];exact h.outer.kept z (λb t v=>n.da h.outer (by decide) t (v▸rfl))
 ·intro j x m a d;rcases Nat.decEq j k with p|rfl
  ·rw[BU (Kj p)]at d;exact(h.inner j x m a d).kept z (λb t v=>h.dK j k x _ p a r b t (v▸rfl))
  ·rw[CG s]at d;injection d with d;subst d;rw[r]at a;injection a with a;subst a;have:=o;rw[A9]at this ⊢;exact this
end
section
variable {S:Nat->Prop}{w w':World}{e:TypeId}{size n m:Nat}{u v:Value}{xs news:List Value}
theorem Lc {P:Program}{r:Array Oper}{o:Oper}{a:Act}{K:Act->World->Prop}{Q:Exit->Act->World->Prop}{E:Prop}{i:TypeInfo}{z:Value}{bytes:Nat}{t:TypeId}(O:P.underlying t=some (.slice e)) (R:P.info? e=some i) (hz:i.zero=some z)
  (p:i.size=size) (C:i.bytes=bytes) (D:z.cells.size=size) (F:0<size) (h:Sl S w e size v n xs) (hS:S w.heap.size)
  (G:o.guard=none) (s x:Operand) (U:o.op= .call {callee:=.builtin .append,args:=#[s,x],argTypes:=#[t,t]}) (V:a.eval s=v)
  (W:a.eval x=u) (j:ij w size u m news) (h1:∀u∈news,u.oneCell'=true)
  (H:n+m<=maxLen) (l:(n+m)*bytes<=140737488355328)
  (X:∀d f w',Sl S w' e size (.slice d (n+m) f) (n+m) (xs++news)->Ac (λb=>v.ownBlock=some b\/w.heap.size<=b) w w'->((Value.slice d (n+m) f).ownBlock=v.ownBlock\/(Value.slice d (n+m) f).ownBlock=some w.heap.size)->
   K (a.put o.dst (.slice d (n+m) f)) w'):if Region.wanted o (yielded r a.tmps)=true then Oper.wp P o a w K Q else E:=by
 have hw:Region.wanted o (yielded r a.tmps)=true:=by simp[Region.wanted,G]
 rw[Al hw];rcases j.2 with⟨rfl,rfl⟩|⟨ad,c,rfl,hc⟩
 ·have hn:news=[]:=Iy (by simpa using j.1);subst hn;have y:=run_append_owned_none (P:=P) (w:=w) 0 t o.type e i size O R v n xs h.1;unfold Oper.wp;simp only[execOp,U,resolve,invoke,builtin,GO,UG,GP,TM,BS,PF,V,W,y];obtain⟨d,f,rfl⟩:∃d f,v= .slice d n f:=by
   rcases h.1.2 with⟨e1,I⟩|⟨g,J,L,e1,_⟩
   ·exact⟨none,0,by rw[e1,I]⟩
   ·exact⟨_,_,e1⟩
  exact X d f w (by rw[AO];exact h) zAr (.inl rfl)
 ·obtain⟨v',w',hr,Y,A,h4,q⟩:=run_append_own_at (P:=P) w 0 t o.type e i z size bytes O R hz p C D F v n xs h.1 ad m c news j.1 hc h1 H l (AM _);unfold Oper.wp execOp;simp only[U,resolve,invoke,builtin,GO,UG,GP,TM,BS,PF,V,W,hr];obtain⟨d,f,rfl⟩:∃d f,v'= .slice d (n+m) f:=by
   rcases Y.2 with⟨e1,I⟩|⟨g,J,L,e1,_⟩
   ·exact⟨none,0,by rw[e1,I]⟩
   ·exact⟨_,_,e1⟩
  refine X d f w' ⟨Y,λg B=>?_⟩ ⟨A.os,A.tape,A.output,A.size,λk Z=>?_⟩ q
  ·rcases q with q|q
   ·exact h.2 g (q▸B)
   ·rw[q]at B;injection B with B;exact B▸hS
  ·rcases Be k w.heap.size with M|N
   ·exact A.block k M (λe=>Z (.inl e.symm))
   ·exact absurd (.inr N) Z
end
theorem Mf.kept {N T:Nat->Prop}{w w':World}{gp:Nat}{p:Ax}(h:Mf N w gp p) (i:Ac T w w') (d:∀b,N b->b<w.heap.size->¬T b):Mf N w' gp p:=by
 obtain⟨q,r,t,x,y,z,l,j,A,B,o,C⟩:=h;exact⟨q,r,t,x,y,z,l.kept i (d _ o l.lt),j.kept i (λb a=>d b (j.2 b a) (j.lt a)),A.kept i (λb cs f a=>d b a f.lt) (λb cs f a=>d b a f.lt),
  B.kept (λk cs D f=>i.block k (d k D f.lt)),o,C⟩
theorem Mf.mono {N N':Nat->Prop}{w:World}{gp:Nat}{p:Ax}(h:Mf N w gp p) (a:∀k,k<w.heap.size->N k->N' k):Mf N' w gp p:=by obtain⟨i,j,l,o,q,r,d,b,t,x,y,z⟩:=h;exact⟨i,j,l,o,q,r,d,⟨b.1,λg f=>a g (b.lt f) (b.2 g f)⟩,t.mono a,x.mono a,a _ d.lt y,z⟩
theorem Mf.decl {N:Nat->Prop}{w:World}{gp:Nat}{p:Ax}(h:Mf N w gp p) {k:Nat}(l:k<p.decls.length):∃a b,w.cell? ⟨gp,0,none⟩=some (.slice (some ⟨a,0,none⟩) p.decls.length b)/\p.decls.length<=b/\b<=maxLen/\a<w.heap.size/\gp<w.heap.size/\
  w.cell? ⟨a,k*3,none⟩=some (vs (B6 (Aq p.decls (k:Int)).kind))/\w.cell? ⟨a,k*3+1,none⟩=some (vs (Aq p.decls (k:Int)).name)/\w.cell? ⟨a,k*3+2,none⟩=some (.int .i64 (Aq p.decls (k:Int)).max):=by
 obtain⟨t,x,y,z,A,B,i,d,_⟩:=h;obtain⟨a,b,rfl,_,o,q,r⟩:=d.form (by omega);have f:p.decls[k]?=some (Aq p.decls (k:Int)):=by unfold Aq;rw[As,Ae l];rfl
 exact⟨a,b,i.cell 0,o,q,r,i.lt,d.at_ (λ_=>rfl) f (j:=0) (by omega),d.at_ (λ_=>rfl) f (j:=1) (by omega),d.at_ (λ_=>rfl) f (j:=2) (by omega)⟩
structure Ew (S:Nat->Prop) (w:World) (g gp:Nat) (vq vv:Value) (s:St) (c:Km) (vl:List Value):Prop where
 row:AF w g 50 [.pointer (some ⟨gp,0,none⟩),vq,vv,.int .i64 c.fx,.int .i64 c.dH,.int .i64 c.cw]
 q:QR S w vq s.q vl
 v:Sl S w 3 1 vv s.vars.length (s.vars.map JF)
 sg:S g
section
variable {S S' T:Nat->Prop}{w w':World}{g gp:Nat}{vq vv:Value}{s:St}{c:Km}{vl:List Value}
theorem Ew.kept (h:Ew S w g gp vq vv s c vl) (a:Ac T w w') (d:∀b,S b->b<w.heap.size->¬T b):Ew S w' g gp vq vv s c vl:=
 ⟨h.row.kept a (d _ h.sg h.row.lt),h.q.kept a d,h.v.kept a (λb f=>d b (h.v.2 b f) (h.v.lt f)),h.sg⟩
theorem Ew.mono (h:Ew S w g gp vq vv s c vl) (a:∀b,b<w.heap.size->S b->S' b):Ew S' w g gp vq vv s c vl:=
 ⟨h.row,h.q.mono a,⟨h.v.1,λb d=>a b (h.v.lt d) (h.v.2 b d)⟩,a _ h.row.lt h.sg⟩
theorem Ew.later (h:Ew S w g gp vq vv s c vl) (a:Ac (λb=>w.heap.size<=b) w w'):Ew S w' g gp vq vv s c vl:=h.kept a (λb _ d f=>by omega)
end
def fQ:Option (Nat×Nat)->Int
 |some (k,_)=>(k:Nat)
 |none=> -1
def fI:Option (Nat×Nat)->Int
 |some (_,i)=>(i:Nat)
 |none=> -1
def FI (o:Option (Nat×Nat)):Value:=.tuple #[.int .i64 (fQ o),.int .i64 (fI o)]
theorem VJ (key:Int):∀(l:List Gp) (a i:Nat),i<l.length->C7 key (l.drop i) (a+i)=(if(Bm l i).key=key then some (a+i)else C7 key (l.drop (i+1)) (a+(i+1))):=by
 intro l a i b;rw[DO b,C7];have e:Bm l i=l[i]:=by unfold Bm;rw[Ae b];rfl
 rw[e];rfl
theorem Vc (key:Int) (q:List (List Gp)) (k:Nat) (a:k<q.length):DY key (q.drop k) k=(match C7 key q[k] 0 with
  |some i=>some (k,i)
  |none=>DY key (q.drop (k+1)) (k+1)):=by
 rw[DO a,DY];cases C7 key q[k] 0<;>rfl
structure QB (s:St):Prop where
 n:s.q.length<=1000
 l:∀l∈s.q,l.length<=100000
section
variable {S:Nat->Prop}{w:World}{g gp:Nat}{vq vv:Value}{s:St}{c:Km}{vl:List Value}
theorem NQ (h:Ew S w g gp vq vv s c vl) (L:QB s) (key:Int):Calls prog 39 #[.pointer (some ⟨g,0,none⟩),.int .u64 key] w λe w'=>e= .returned (FI (s.find key))/\Ac (λb=>w.heap.size<=b) w w':=by
 obtain⟨c1,rl,Z⟩:=zp3 (h.row.cell 1) h.row.lt h.q.outer;obtain⟨aq,cq,rfl⟩:=Z.cB;have bL:=L.n;obtain⟨H,HB⟩:=zq2 h L;simp at c1;clear h L Z;go_enter func39,ntmps39;go_wp2_with fail
 go_loopg [15] s.q.length (λgg M wr=>∃k:Nat,k<=s.q.length/\s.q.length-k<=gg/\M= .int .i64 k/\Ac (λb=>w.heap.size<=b) w wr/\DY key (s.q.drop k) k=s.find key)
 case atStart=>exact⟨0,AM _,by omega,rfl,Ac.refl _ _,rfl⟩
 case round=>
  obtain⟨k,hk,hg,rfl,o,t⟩:=hrel;by_cases C:k<s.q.length
  ·obtain⟨v,l,hv,J,x⟩:=H.out.q.at_ C;have D:=H.out.q.inner k v l hv J;obtain⟨al,cl,rfl⟩:=D.cB;obtain⟨gq,bQ,eq,_,q1,q2,q3⟩:=H.out.q.outer.form (by omega);injection eq with N bU O;subst N O;have d0:wr.cell? ⟨gq,k,none⟩=some (.slice al l.length cl):=(o.cell (p:=⟨gq,k,none⟩) (by simp only;omega)).trans x;have bV:l.length<=100000:=HB.out.l l (Aw J);have G:s.q[k]=l:=by have:=Ae C;rw[J]at this;injection this with this;exact this.symm
   have E:=Vc key s.q k C;rw[G,t]at E;have bW:=o.size;obtain⟨F,z,P⟩:=zq3 D E o;clear D x hv J G E t o q1;unfold maxLen at q2;go_wp2_with fail
   go_loopg [22] l.length (λQ R wz=>∃i:Nat,i<=l.length/\l.length-i<=Q/\R= .int .i64 i/\Ac (λb=>w.heap.size<=b) w wz/\C7 key (l.drop i) (0+i)=C7 key l 0)
   case atStart=>exact⟨0,AM _,by omega,rfl,P.out,rfl⟩
   case round=>
    obtain⟨i,hi,bY,rfl,d,r⟩:=hrel;by_cases A:i<l.length
    ·obtain⟨I,bZ,el,_,q4,q5,q6⟩:=F.out.form (by omega);injection el with U cu V;subst U V;have K:l[i]?=some (Bm l i):=by unfold Bm;rw[Ae A];rfl
     have e0:wr.cell? ⟨I,i*2,none⟩=some (.int .u64 (Bm l i).key):=(d.cell (p:=⟨I,i*2,none⟩) (by simp only;omega)).trans (F.out.at_ (λ_=>rfl) K (j:=0) (by omega));have e1:wr.cell? ⟨I,i*2+1,none⟩=some (.int .i64 (Bm l i).bI):=(d.cell (p:=⟨I,i*2+1,none⟩) (by simp only;omega)).trans (F.out.at_ (λ_=>rfl) K (j:=1) (by omega));have B:=d.size;have cw:¬I=wr.heap.size:=by omega
     have f:=VJ key l 0 i A;rw[r]at f;unfold maxLen at q5;by_cases a:(Bm l i).key=key
     ·have b1:((Bm l i).key==key)=true:=by simpa using a
      have b2:decide ((Bm l i).key=key)=true:=by simpa using a
      rw[Al a,DK]at f;rw[f]at z;have y:=Aa d;clear a f r d K;go_wp2;go_ret2;rw[z.out];exact⟨rfl,y.out.alloc B _⟩
     ·have b1:((Bm l i).key==key)=false:=by simpa using a
      have b2:decide ((Bm l i).key=key)=false:=by simpa using a
      rw[Ai a]at f;obtain⟨y,W⟩:=zq2 d f;clear a f r d K;go_wp2;go_roundg (l.length-(i+1))
      case measure=>omega
      case rel=>exact⟨i+1,by omega,by omega,by go_num,y.out.alloc B _,W.out.symm⟩
    ·have X:i=l.length:=by omega
     subst X;rw[nu,C7]at r;rw[←r]at z;have y:=Aa d;clear r d;go_wp2;go_roundg (s.q.length-(k+1))
     case measure=>omega
     case rel=>exact⟨k+1,by omega,by omega,by go_num,y.out,z.out.symm⟩
  ·have Y:k=s.q.length:=by omega
   subst Y;rw[nu,DY]at t;obtain⟨HW,P⟩:=zq2 t o;clear t o;go_wp2;go_ret2;rw[←HW.out];exact⟨rfl,P.out⟩
end
def GI (p:Ax) (s:St):Prop:=G4 p s/\∃A a,CE A a s.q
theorem GI.bN {p:Ax}{key:Int}{x:D4}{r r':DQ}(h:GI p r.s) (b:Em p) (d:Ki p.decls x) (e:bN p key x r= .ok r'):GI p r'.s:=by obtain⟨f,A,l,g⟩:=h;have:=Y4 g f b key x d r.gone;rw[show(⟨r.s,r.gone⟩:DQ)=r from rfl,e]at this;obtain⟨i,a,_,j,k⟩:=this;exact⟨k,i,a,j⟩
structure WI (p:Ax) (s:St):Prop where
 q:s.q.length=p.decls.length
 v:s.vars.length=p.decls.length
 len:∀l∈s.q,l.length<=100
theorem GI.wi {p:Ax}{s:St}(h:GI p s):WI p s:=by obtain⟨a,A,i,b⟩:=h;refine⟨a.q,a.v,λl d=>?_⟩;rw[b.nH]at d;obtain⟨m,f,rfl⟩:=AE.1 d;obtain⟨k,g⟩:=Jh.1 f;have:=b.iy k m g;simp;omega
theorem WI.qb {p:Ax}{s:St}(h:WI p s) (a:Em p):QB s:=
 ⟨by rw[h.q];have:=a.decls.len;omega,λl b=>by have:=h.len l b;omega⟩
theorem WI.out {p:Ax}{s:St}(h:WI p s) (k i:Nat):WI p (s.out k i):=by
 refine⟨by unfold St.out;simpa using h.q,h.v,λl b=>?_⟩;unfold St.out at b;rcases EJ b with a|a
 ·exact h.len l a
 ·rw[a];have f:((s.q[k]?).getD []).length<=100:=by
   cases d:s.q[k]? with
   |none=>simp
   |some m=>exact h.len m (Aw d)
  have:=List.length_eraseIdx_le ((s.q[k]?).getD []) i;omega
theorem WI.bM {p:Ax}{s:St}(h:WI p s) {k:Nat}{l:List Gp}(b:l.length<=100):WI p {s with q:=s.q.set k l}:=by
 refine⟨by simpa using h.q,h.v,λm d=>?_⟩;rcases EJ d with a|a
 ·exact h.len m a
 ·rw[a];exact b
structure Dz (B:Nat) (w:World) (gr gs gp:Nat) (vq vv vg:Value) (vl:List Value) (p:Ax) (c:Km) (key:Int) (r:DQ) (e:Nat):Prop where
 row:AF w gr 112 [.pointer (some ⟨gs,0,none⟩),.int .u64 key,vg,.int .i64 e]
 st:Ew (λb=>B<=b) w gs gp vq vv r.s c vl
 gone:Sl (λb=>B<=b) w 25 1 vg r.gone.length (r.gone.map KE)
 bQ:Mf (λb=>b<B) w gp p
 iI:B<=gr
 sz:B<=w.heap.size
 pw:Em p
 gi:WI p r.s
section
variable {B:Nat}{w w':World}{gr gs gp:Nat}{vq vv vg:Value}{vl:List Value}{p:Ax}{c:Km}{key:Int}{r:DQ}{e:Nat}
theorem Dz.later (h:Dz B w gr gs gp vq vv vg vl p c key r e) (a:Ac (λb=>w.heap.size<=b) w w'):Dz B w' gr gs gp vq vv vg vl p c key r e:=
 ⟨h.row.kept a (λe=>by have:=h.row.lt;omega),h.st.later a,h.gone.later a (λb d=>d),h.bQ.kept a (λb _ d f=>by omega),h.iI,Ad h.sz a.size,h.pw,h.gi⟩
theorem Dz.qb (h:Dz B w gr gs gp vq vv vg vl p c key r e):QB r.s:=h.gi.qb h.pw
theorem Dz.queue (h:Dz B w gr gs gp vq vv vg vl p c key r e) {k:Nat}(t:k<p.decls.length):∃d f l g i,vq= .slice (some ⟨d,0,none⟩) r.s.q.length f/\r.s.q.length<=f/\f<=maxLen/\d<w.heap.size/\k<r.s.q.length/\r.s.q[k]?=some l/\l.length<=100000/\r.s.queue (k:Int)=l/\
  w.cell? ⟨d,k,none⟩=some (.slice g l.length i)/\vl[k]?=some (.slice g l.length i)/\Sl (λb=>B<=b) w 117 2 (.slice g l.length i) l.length (l.flatMap Cf):=by
 have j:k<r.s.q.length:=by rw[h.gi.q];exact t
 obtain⟨v,l,o,n,a⟩:=h.st.q.at_ j;have m:=h.st.q.inner k v l o n;obtain⟨g,i,rfl⟩:=m.cB;obtain⟨d,f,rfl,_,u,x,y⟩:=h.st.q.outer.form (by omega);refine⟨d,f,l,g,i,rfl,u,x,y,j,n,h.qb.l l (Aw n),?_,a,o,m⟩;unfold St.queue;rw[As,n];rfl
end
section
variable {B:Nat}{w:World}{gr gs gp:Nat}{vq vv vg:Value}{vl:List Value}{p:Ax}{c:Km}{key:Int}{r:DQ}{e:Nat}
theorem eI (h:Dz B w gr gs gp vq vv vg vl p c key r e) (v:Ra) (I:Wx p.decls v):Calls prog 128 #[.pointer (some ⟨gr,0,none⟩),.agg (Fq v).toArray] w λx w'=>x= .returned (.int .i64 (JD key r.s v))/\Ac (λb=>w.heap.size<=b) w w':=by
 obtain⟨M,c1,N,s2,rl,sl⟩:=zp6 (h.row.cell 0) (h.row.cell 1) (h.st.row.cell 1) (h.st.row.cell 2) h.row.lt h.st.row.lt;simp at M c1 N s2;have nr:¬gr=w.heap.size:=by omega
 have ns:¬gs=w.heap.size:=by omega
 have H:=Aa h;clear h;cases v with
 |num n=>
  unfold Fq DU C6 vs;go_enter ic,ZV;go_wp2;go_ret;exact⟨rfl,(Ac.refl _ w).alloc (Ab _) _⟩
 |len k=>
  have d:Ix p.decls.length k:=I.1;obtain⟨m,rfl⟩:∃m:Nat,k=(m:Int):=⟨k.toNat,by have:=d.1;omega⟩;obtain⟨gq,cq,l,al,cl,rfl,q1,O,q3,J,g,P,f,d0,_,_⟩:=H.out.queue (k:=m) (by have:=d.2;omega);have nq:¬gq=w.heap.size:=by omega
  have HQ:=Aa f;clear f g d I;unfold maxLen at O;unfold Fq DU C6 vs;go_enter ic,ZV;go_wp2;go_region;go_wp2;go_ret;show _=Ending.returned (.int .i64 ((r.s.queue (m:Int)).length:Int))/\_;rw[HQ.out];exact⟨rfl,((Ac.refl _ w).alloc (Ab _) _).drew⟩
 |var k=>
  have d:Ix p.decls.length k:=I.1;obtain⟨m,rfl⟩:∃m:Nat,k=(m:Int):=⟨k.toNat,by have:=d.1;omega⟩;have z:r.s.vars.length=p.decls.length:=H.out.gi.v;have J:m<r.s.vars.length:=by rw[z];have:=d.2;omega
  have h8:=H.out.pw.decls.len;obtain⟨gv,cv,rfl,_,cj,Q,cu⟩:=H.out.st.v.form (by omega);have cx:=H.out.st.v.1.cellAt m (by simpa using J);have ex:(r.s.vars.map JF)[m]?=some (.int .i64 (r.s.var (m:Int))):=by unfold St.var;rw[As,At,Ae J];rfl
  rw[ex]at cx;have nv:¬gv=w.heap.size:=by omega
  unfold maxLen at Q;generalize r.s.vars.length=L at*;clear ex d I z;show Calls _ _ _ _ λx w'=>x= .returned (.int .i64 (r.s.var (m:Int)))/\_;generalize r.s.var (m:Int)=X at*;unfold Fq DU C6 vs;go_enter ic,ZV;go_wp2;go_region;go_wp2;go_ret;exact⟨rfl,((Ac.refl _ w).alloc (Ab _) _).drew⟩
 |bI=>
  have A:=λW (hk:Ac (λb=>w.heap.size<=b) w W)=>NQ (H.out.later hk).st H.out.qb key;have R:=Aa A;clear A;have C:JD key r.s .bI=dW r.s key:=rfl;rw[C];have a:dW r.s key=match r.s.find key with|some (k,i)=>(Bm (r.s.queue k) i).bI|none=>0:=rfl
  generalize dW r.s key=FR at*;have o:=Aa a;clear a C;unfold Fq DU C6 vs;go_enter ic,ZV;have k1:Ac (λb=>w.heap.size<=b) w (w.alloc (.cells #[.string ⟨Cy.toArray⟩,.int .i64 0] 151)).drew:=((Ac.refl _ w).alloc (Ab _) _).drew;have S:=Aa k1;clear k1;go_upto_region 8 with fail;go_cut [5,6] (λs5 s6 wx=>s5= .int .i64 (fQ (r.s.find key))/\s6= .int .i64 (fI (r.s.find key))/\Ac (λb=>w.heap.size<=b) w wx)
  case first=>
   generalize r.s.find key=FO at*
   go_region_law (first|(go_simp;go_at_call 39;refine(R.out _ S.out).mono ?_;rintro x w2 ⟨rfl,D⟩;have T:=Aa D;clear D;unfold FI))
   all_goals go_wp2
   all_goals go_meet
   all_goals exact⟨rfl,rfl,S.out.trans (T.out.mono (λb hb=>Ad S.out.size hb))⟩
  obtain⟨rfl,rfl,K⟩:=hcut;have K2:=Aa K;have t:=H.out.later K;obtain⟨M,N,rl,sl⟩:=zp4 (t.row.cell 0) (t.st.row.cell 1) t.row.lt t.st.row.lt;simp at M N;cases E:r.s.find key with
  |none=>
   have a:=o.out;rw[E]at a;simp only at a;subst a;simp only[fQ,fI];clear K t E;go_wp2;go_ret;exact⟨rfl,K2.out⟩
  |some ki=>
   obtain⟨k,i⟩:=ki;have a:=o.out;rw[E]at a;simp only at a;obtain⟨l0,e0,u,F,U,V,G⟩:=Lo E;have Y:k<p.decls.length:=by rw[←H.out.gi.q];exact(Aj.1 u).1
   obtain⟨gq,cq,l,al,cl,rfl,q1,O,q3,J,g,P,f,d0,_,y⟩:=t.queue Y;have Z:i<l.length:=by rw[u]at g;injection g with g;exact g▸(Aj.1 F).1
   obtain⟨gl,dF,el,_,q4,q5,q6⟩:=y.form (by omega);injection el with be dI bJ;subst be bJ;have hx:l[i]?=some (Bm l i):=by unfold Bm;rw[Ae Z];rfl
   have x1:=y.at_ (λ_=>rfl) hx (j:=1) (by omega);simp[Cf]at x1;rw[f]at a;subst a;unfold maxLen at O q5;simp only[fQ,fI];clear K t E u F U V G y hx f g o;go_wp2;go_ret;exact⟨rfl,K2.out⟩
end
end Go.Proofs.YtodkkholbjeioaaGreatDoor.Ev
