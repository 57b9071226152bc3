/- Lemmas for a law's walk. Conditions: none. -/
import Derived.Test.YtepoejiigmhlbaaGreatDoorZa14
import Derived.Test.YtepoejiigmhlbaaGreatDoorZa17
import Derived.Test.YtepoejiigmhlbaaGreatDoorZa18
set_option linter.all false
set_option maxRecDepth 100000
set_option maxHeartbeats 8000000
namespace Go.Proofs.YtepoejiigmhlbaaGreatDoor.Ev
open _root_.Go.Proofs.Tryz
def NT (s:Ah) (n:Nat) (o:AO Unit):AO Unit:=o.bind λ_ st=>DC s n st
def Nx (s:Ah) (m n:Nat) (o:AO Unit):AO Unit:=o.bind λ_ st=>Eb s m n st
def Pu (o:AO Unit):Bool:=match o with
 | .ok _ st=>isDecl st.t.kind
 | .bad _ _=>false
theorem eO (o:AO Unit):Pu o=(o.bu EK||o.bu Ge||o.bu Jo||o.bu Cx):=by cases o<;>rfl
theorem aW {o:AO Unit}(h:Pu o=true):∃st,o= .ok () st/\isDecl st.t.kind=true:=by
 cases o with
 |ok a st=>exact⟨st,rfl,h⟩
 |bad e p=>cases h
theorem YJ {k:Ah}(h:isDecl k=true):k=EK\/k=Ge\/k=Jo\/k=Cx:=by unfold isDecl at h;simpa[or_assoc]using h
section
variable {s:Ah}{o:AO Unit}{st:PS}{n m:Nat}
theorem bX (h:isDecl st.t.kind=true):NT s (n+1) (.ok () st)=NT s n (decl s st):=by show DC s (n+1) st=_;unfold DC NT;rw[Al h]
theorem fG (h:Pu o=false):NT s (n+1) o=o:=by
 cases o with
 |bad e p=>rfl
 |ok a st=>
  have b:isDecl st.t.kind=false:=h;show DC s (n+1) st=_;unfold DC;rw[b];rfl
theorem Z6 (h:st.t.kind=TF):Nx s m (n+1) (.ok () st)=Nx s m n (GG s m st):=by show Eb s m (n+1) st=_;unfold Eb Nx;rw[Al h]
theorem dU (h:o.bu TF=false):Nx s m (n+1) o=o:=by
 cases o with
 |bad e p=>rfl
 |ok a st=>
  have b:¬st.t.kind=TF:=by simpa[AO.bu]using h
  show Eb s m (n+1) st=_;unfold Eb;rw[Ai b]
theorem eA:Fh s=(Nx s 1500 702 (NT s 702 (.ok () (start s)))).bind λ_ st=>want s Eh st:=by unfold Fh NT Nx;show(DC s 702 (start s)).bind _=((DC s 702 (start s)).bind _).bind _;cases DC s 702 (start s)<;>rfl
theorem AF.start (s:Ah):AF s ⟨0,0,0,0,0,0,0,[],0,0⟩ (start s):=
 ⟨Ph.start s,ZY s,rfl,rfl,rfl,rfl,rfl,rfl,rfl,by decide,by decide⟩
theorem oL (a:¬700<s.length) {e p:Nat}(h:Fh s= .bad e p):read s= .error (e,p):=by unfold read;rw[Ai a,h]
theorem ew (a:¬700<s.length) {t:MS}{x:Nat×Nat}(h:Fh s= .ok t st) (b:st.bC=some x):read s= .error x:=by unfold read;rw[Ai a,h];simp only;rw[b]
theorem aw (a:¬700<s.length) {t:MS}(h:Fh s= .ok t st) (b:st.bC=none) (c:(Eo st.rules).isSome=false):read s= .error (P7,0):=by unfold read;rw[Ai a,h];simp only;rw[b];simp only;rw[Al (by cases d:Eo st.rules<;>simp_all)]
theorem j9 (a:¬700<s.length) {t:MS}(h:Fh s= .ok t st) (b:st.bC=none) (c:(Eo st.rules).isSome=true):read s= .ok ⟨st.decls,st.aD,st.rules⟩:=by unfold read;rw[Ai a,h];simp only;rw[b];simp only;rw[Ai (by cases d:Eo st.rules<;>simp_all)]
theorem ey (a:700<s.length):read s= .error (qO,0):=by unfold read;rw[Al a]
end
end Go.Proofs.YtepoejiigmhlbaaGreatDoor.Ev
namespace Go.Proofs.YtepoejiigmhlbaaGreatDoor.Ev
open _root_.Go.Proofs.Tryz
open Go Go.RowKit
section
variable {w:World}{g gp:Nat}{tl:Value}{ts:List CM}{pc:List Value}{r:Fc}{s:Ah}{α:Type}{o:AO α}
theorem jU (h:Gj w g gp tl ts pc r) (hs:Bo s r o) (t:D6 ts (jj s)) {kd kr:Ah}(z:kd≠Ky) (d:GS kd=kr):
  Calls prog 137 #[.pointer (some ⟨g,0,none⟩),vs kr] w (λe w'=>e= .returned (.bool (o.bu kd))/\Kg g w w'/\Gj w' g gp tl ts pc (if o.bu kd then {r with k:=r.k+1}else r)):=by
 have b:=Ka h hs t z d;obtain⟨A,C,_⟩:=h.cells;have D:=λj=>h.row.frozen j;have E:=h.tl;have l:=hs.lt;rw[←t.len]at l;obtain⟨u,H⟩:=zq2 h hs;cases i:o.bu kd with
 |true=>
  obtain⟨a,st,rfl,v,c⟩:=Gx (s:=s) i;rw[i]at b;obtain⟨x,F⟩:=zq2 b c;generalize m:r.k=k at*;generalize y:ts.length=L at*;obtain⟨G,I⟩:=zq2 m y;clear b hs h i v c t m y d;unfold vs at*;go_enter gK,Zw;go_wp2_with fail;refine x.out.mono ?_;rintro e w1 ⟨rfl,n,rfl⟩;go_wp2;go_ret;have q:Kg g w ((w.setCell ⟨g,1,none⟩ (.int .i64 (k+1))).drewN n):=((Ac.refl _ w).setCell (p:=⟨g,1,none⟩) (.inl rfl) _).drewN n;refine⟨rfl,q,u.out.dv q ?_ rfl⟩;have:=u.out.row.bF 1 (.int .i64 (k+1));exact this
 |false=>
  have c:=Gq (s:=s) i;rw[i]at b;obtain⟨x,F⟩:=zq2 b c;clear b hs h i c t d A C D l E;unfold vs at*;go_enter gK,Zw;go_wp2_with fail;refine x.out.mono ?_;rintro e w1 ⟨rfl,n,rfl⟩;go_wp2;go_ret;exact⟨rfl,zAr.drewN n,u.out.drewN n⟩
def Anu (w:World) (g gp:Nat) (tl:Value) (ts:List CM) (pc:List Value) (s:Ah) (a:List Bi) (o:AO MS) (e:Ending) (w':World):Prop:=
 ∃x:CM,e= .returned (ED x)/\Kg g w w'/\∃r',Gj w' g gp tl ts pc r'/\r'.decls=a/\match o with
  | .ok _ st=>r'.bad=0/\rx st.bC r'
  | .bad e p=>r'.bad=e/\r'.fm=p/\e≠0
theorem j3 (h:Gj w g gp tl ts pc r) (hs:Bo s r o) (H:D6 ts (jj s)):
  Calls prog 120 #[.pointer (some ⟨g,0,none⟩),vs Eh] w (Anu w g gp tl ts pc s r.decls (BC s Eh o)):=by
 have b:=λW (hW:Gj W g gp tl ts pc r)=>jU hW hs H (kd:=Eh) (kr:=Eh) (by decide) (by decide);obtain⟨c0,c1,_⟩:=h.cells;have bx:=h.row.lt;obtain⟨x,n⟩:=hs.tok H;obtain⟨Y,Z,rfl,h1,h2,h3,h4,h5,t0,t1,t2⟩:=h.at_ n;unfold maxLen at h2;have bE:r.k<ts.length:=h3;have h8:=h.tl;obtain⟨HR,J,K,HT⟩:=zq4 h hs H b;generalize q:r.k=k at*;generalize hL:ts.length=L at*;obtain⟨bI,HL⟩:=zq2 q hL;clear hs h n H q hL b;cases hb:o.bu Eh
 all_goals
  have I:=Aa hb;clear hb;unfold vs at*;go_enter func120,ntmps120;go_wp2;go_region;go_wp2_with fail;have u:Gj ((w.alloc (.cells #[vs [],vs [],.int .i64 0] 255)).alloc (.cells #[vs x.is,vs x.br,.int .i64 x.pos] 255)).drew g gp (.slice (some ⟨Y,0,none⟩) L Z) ts pc r:=((HR.out.alloc _).alloc _).drewN 1;have x0:AE ((w.alloc (.cells #[vs [],vs [],.int .i64 0] 255)).alloc (.cells #[vs x.is,vs x.br,.int .i64 x.pos] 255)).drew w.heap.size 255 [vs [],vs [],.int .i64 0]:=(AE.new w _ _).alloc _;have x1:AE ((w.alloc (.cells #[vs [],vs [],.int .i64 0] 255)).alloc (.cells #[vs x.is,vs x.br,.int .i64 x.pos] 255)).drew (w.heap.size+1) 255 [vs x.is,vs x.br,.int .i64 x.pos]:=by have:=AE.new (w.alloc (.cells #[vs [],vs [],.int .i64 0] 255)) 255 [vs x.is,vs x.br,.int .i64 x.pos];simp only[Ib]at this;exact this
  have v:Kg g w ((w.alloc (.cells #[vs [],vs [],.int .i64 0] 255)).alloc (.cells #[vs x.is,vs x.br,.int .i64 x.pos] 255)).drew:=(((Ac.refl _ w).alloc (.inr (Ab _)) _).alloc (.inr (by simp)) _).drew;have d:=HT.out _ u;rw[I.out]at d;obtain⟨M,X0,X1,KK⟩:=zq4 d x0 x1 v;clear u d x0 x1 v;unfold vs at*;refine M.out.mono ?_;rintro e w1 ⟨rfl,y,z⟩;obtain⟨m,A⟩:=zq2 y z;clear y z
  first
   |(go_wp2_with fail
     refine(M7 A.out J.out K.out (e:=2) (by decide)).mono ?_;rintro e w2 ⟨rfl,C,r2,D,E,F⟩;have N:=Aa F;clear F;obtain⟨O,P,Q⟩:=zq3 C D E;clear C D E)
   |skip
  first
   |have i:=Em O.out (Em m.out X0.out (by omega)) (by omega)
   |have i:=Em m.out X0.out (by omega)
  first
   |have G:=Em O.out (Em m.out X1.out (by omega)) (by omega)
   |have G:=Em m.out X1.out (by omega)
  obtain⟨d0,d1,d2,e0,R,S⟩:=zp6 (i.cell 0) (i.cell 1) (i.cell 2) (G.cell 0) (G.cell 1) (G.cell 2);have fz:=λj=>i.frozen j;have Y0:=Aa i;clear i G;simp at d0 d1 d2 e0 R S;go_wp2;have q1:=Y0.out;have l:(Value.slice (some ⟨Y,0,none⟩) L Z).ownBlock≠some w.heap.size:=λe=>by injection e with e;simp only at e;omega
  first
   |have g0:=P.out
   |have g0:=A.out
  first
   |have v:Kg g w _:=(KK.out.trans m.out).trans O.out
   |have v:Kg g w _:=KK.out.trans m.out
  have g1:=g0.dc q1 (by decide) l 0 (.string ⟨x.is.toArray⟩);have q2:=q1.bF 0 (.string ⟨x.is.toArray⟩);have g2:=g1.dc q2 (by decide) l 1 (.string ⟨x.br.toArray⟩);have q3:=q2.bF 1 (.string ⟨x.br.toArray⟩);have T:=g2.dc q3 (by decide) l 2 (.int .i64 x.pos);have q4:=q3.bF 2 (.int .i64 x.pos);have k4:=((v.setCell (p:=⟨w.heap.size,0,none⟩) (.inr (Ab _)) (.string ⟨x.is.toArray⟩)).setCell (p:=⟨w.heap.size,1,none⟩) (.inr (Ab _)) (.string ⟨x.br.toArray⟩)).setCell (p:=⟨w.heap.size,2,none⟩) (.inr (Ab _)) (.int .i64 x.pos);refine AA (AP (cs:=[.string ⟨x.is.toArray⟩,.string ⟨x.br.toArray⟩,.int .i64 x.pos]) Tryz.results120 jc Z0 rfl q4) rfl ?_;refine⟨x,rfl,k4,?_⟩
  first
   |(obtain⟨a,st,rfl,e1,e2⟩:=Xi (s:=s) I.out
     rw[e2];have U:=AF.bad J.out;have V:=AF.bC J.out;simp only[A6]at T;exact⟨_,T,rfl,U,V⟩)
   |(refine⟨_,T,N.out,?_⟩
     have n:=ZJ (s:=s) I.out (r:=_) (by rw[Gq I.out];exact(show Bo s _ ((o.bind λ_ st=>AO.ok () st).lv D5)from by cases o<;>exact Q.out));have c:=n.1;have X:=n.2;cases hw:BC s Eh o with
     |ok t st=>exact absurd hw (X t st)
     |bad e p=>
      rw[hw]at c;exact⟨DI.bad c,DI.fm c,DI.ne c⟩)
end
section
variable {B:Nat}{w:World}{g gp:Nat}{tl:Value}{ts:List CM}{f:Int}{r:Fc}{vd:Value}{s:Ah}{st:PS}
theorem kf (h:RP B w g gp tl ts f A4 A4 A4 false r vd) (hs:AF s r st) (d:D6 ts (jj s)) (e:isDecl st.t.kind=true) (a:r.decls.length<=900) (b:f=st.aD):
  Calls prog 118 #[.pointer (some ⟨g,0,none⟩)] w (rN B w g gp tl ts s r.decls.length (decl s st)):=by
 rcases YJ e with c|c|c|c
 ·exact Qe (.inl rfl) h hs d c a b
 ·exact Qe (.inr (.inl rfl)) h hs d c a b
 ·exact Qe (.inr (.inr rfl)) h hs d c a b
 ·exact eB h hs d c a
end
def L0 (N:Nat->Prop) (w:World) (gp:Nat) (p:Ax):Prop:=
 ∃vd vr vh vm hs rs,AE w gp 222 [vd,.int .i64 p.aD,vr,vh,vm,.bool true]/\Sl N w 224 3 vd p.decls.length (p.decls.flatMap FL)/\
  PO N w vr vh p.decls.length hs rs/\Gv N w p.rules true vm p.decls.length hs rs/\N gp/\∃a n c,vm= .slice a n c
def Agu (w:World) (s:Ah) (e:Ending) (w':World):Prop:=
 Ac (λb=>w.heap.size<=b) w w'/\match read s with
  | .error (k,pos)=>e= .returned (.tuple #[.pointer none,.int .i64 k,.int .i64 pos])
  | .ok p=>∃gp,e= .returned (.tuple #[.pointer (some ⟨gp,0,none⟩),.int .i64 0,.int .i64 0])/\L0 (λb=>w.heap.size<=b) w' gp p
section
variable {B:Nat}{w w2:World}{g gp:Nat}{tl:Value}{ts:List CM}{f:Int}{vr vh vm:Value}{ms:Bool}{r:Fc}{vd:Value}{hs:List Bool}{rs:List Value}{s:Ah}{st:PS}
theorem RP.hY (h:RP B w g gp tl ts f vr vh vm ms r vd) (i:Nat) (u:Value) {vr' vh' vm':Value}{ms':Bool}(m: [vd,.int .i64 f,vr,vh,vm,.bool ms].set i u=[vd,.int .i64 f,vr',vh',vm',.bool ms']):
  RP B (w.setCell ⟨gp,i,none⟩ u) g gp tl ts f vr' vh' vm' ms' r vd:=by
 have j:Ac (λb=>b=gp) w (w.setCell ⟨gp,i,none⟩ u):=Ac.one w ⟨gp,i,none⟩ _;obtain⟨N,k⟩:=h.rd.jj;have c:=h.rd.ba.bt h.rd.row (by decide);have a:=h.sl.kept j (λb d e=>h.sl.bD h.rd.ba (by decide) (e▸d));have l:=h.rd.ba.bF i u;rw[m]at l;exact⟨⟨h.rd.row.dc (λe=>c e.symm) _,⟨N,k.kept j (λb d e=>k.bD h.rd.ba (by decide) (e▸d))⟩,h.rd.tl,l,⟨_,vd,rfl,a⟩,h.rd.dl⟩,h.g0,h.p0,a,by simpa using h.sz⟩
theorem RP.alloc (h:RP B w g gp tl ts f vr vh vm ms r vd) (o:Obj):RP B (w.alloc o) g gp tl ts f vr vh vm ms r vd:=
 h.call ((Ac.refl (λb=>b=g\/w.heap.size<=b) w).alloc (.inr (Ab _)) o) (h.rd.alloc o) rfl
theorem RP.drewN (h:RP B w g gp tl ts f vr vh vm ms r vd) (n:Nat):RP B (w.drewN n) g gp tl ts f vr vh vm ms r vd:=h.call ((Ac.refl _ w).drewN n) (h.rd.drewN n) rfl
theorem jS {m:Nat}{st':PS}(h:mv s st) (i:st.t.kind=TF) (e:GG s m st= .ok () st'):st'.aD=st.aD:=by
 rw[U6]at e;obtain⟨k,st1,e1,j⟩:=AC e;obtain⟨b,l,n,c⟩:=AC j;injection c with _ c;obtain⟨a,_,_⟩:=Gc h.ok i e1;obtain⟨d,_⟩:=DT a.ok (by rw[a.depth,h.depth];omega) (by rw[a.loops,h.loops];omega) n;rw[←c];split
 ·exact d.aD.trans a.aD
 ·exact d.aD.trans a.aD
structure Yh (B:Nat) (w wr:World) (g gp:Nat) (tl:Value) (ts:List CM) (s:Ah) (n:Nat) (o:AO Unit) (r:Fc) (f:Int) (vd:Value):Prop where
 rp:RP B wr g gp tl ts f A4 A4 A4 false r vd
 kept:Ac (λb=>B<=b) w wr
 fi:Bo s r o
 eq:NT s (n+1) o=NT s 702 (.ok () (start s))
 nG:∀st,o= .ok () st->mv s st/\st.rules=[]/\f=st.aD/\left s st<=n
 dl:r.decls.length+Dd s o<=702
theorem Yh.next {B:Nat}{w wr w':World}{n:Nat}{r':Fc}{i:Int}{c:Value}(h:Yh B w wr g gp tl ts s n (.ok () st) r f vd) (j:isDecl st.t.kind=true) (k:Ac (λb=>B<=b) wr w') (u:RP B w' g gp tl ts i A4 A4 A4 false r' c) (hs:Bo s r' (decl s st))
  (v:∀st',decl s st= .ok () st'->i=st'.aD) (C:r'.decls.length<=r.decls.length+1):(∃x,Yh B w w' g gp tl ts s x (decl s st) r' i c)/\Dd s (decl s st)<Dd s (AO.ok () st:AO Unit):=by
 obtain⟨l,q,D,E⟩:=h.nG st rfl;have d:=OS l.ok;have m:Dd s (decl s st)<Dd s (AO.ok () st:AO Unit):=by
  show Dd s (decl s st)<left s st;cases y:decl s st with
  |bad e p=>exact d
  |ok a st'=>exact(Sd l j q y).2.2
 refine⟨⟨n-1,u,h.kept.trans k,hs,?_,λst' e=>?_,by have:=h.dl;omega⟩,m⟩
 ·have e:n-1+1=n:=by omega
  rw[e,←bX j];exact h.eq
 ·obtain⟨z,A,F⟩:=Sd l j q e;exact⟨z,A,v st' e,by omega⟩
structure Yd (B:Nat) (w wr:World) (g gp:Nat) (tl:Value) (ts:List CM) (s:Ah) (n:Nat) (o0 o:AO Unit) (r:Fc) (f:Int) (vr vh vm:Value) (ms:Bool) (vd:Value) (hs:List Bool) (rs:List Value):Prop where
 rq:RQ B wr g gp tl ts f vr vh vm ms r vd hs rs
 kept:Ac (λb=>B<=b) w wr
 fi:Bo s r o
 eq:Nx s 1500 (n+1) o=Nx s 1500 702 o0
 nG:∀st,o= .ok () st->mv s st/\f=st.aD/\left s st<=n/\n<=701/\(st.bC=none->Gv (λb=>B<=b) wr st.rules ms vm r.decls.length hs rs)
theorem Yd.next {B:Nat}{w wr w':World}{n:Nat}{v:AO Unit}{r':Fc}{vm':Value}{ms':Bool}{c:List Bool}{d:List Value}(h:Yd B w wr g gp tl ts s n v (.ok () st) r f vr vh vm ms vd hs rs) (j:st.t.kind=TF) (l:Ac (λb=>B<=b) wr w')
  (x:RQ B w' g gp tl ts f vr vh vm' ms' r' vd c d) (m:Bo s r' (GG s 1500 st)) (q:r'.decls=r.decls) (y:∀st',GG s 1500 st= .ok () st'->st'.bC=none->Gv (λb=>B<=b) w' st'.rules ms' vm' r.decls.length c d):
  (∃z,Yd B w w' g gp tl ts s z v (GG s 1500 st) r' f vr vh vm' ms' vd c d)/\Dd s (GG s 1500 st)<Dd s (AO.ok () st:AO Unit):=by
 obtain⟨k,A,E,F,G⟩:=h.nG st rfl;have i:=OS k.ok;have u:Dd s (GG s 1500 st)<Dd s (AO.ok () st:AO Unit):=by
  show Dd s (GG s 1500 st)<left s st;cases q:GG s 1500 st with
  |bad e p=>exact i
  |ok a st'=>exact(Rj k j q).2.1
 refine⟨⟨n-1,x,h.kept.trans l,m,?_,λst' e=>?_⟩,u⟩
 ·have e:n-1+1=n:=by omega
  rw[e,←Z6 j];exact h.eq
 ·obtain⟨C,H,I⟩:=Rj k j e;refine⟨C,A.trans (jS k j e).symm,by omega,by omega,λD=>?_⟩;rw[q];exact y st' e D
end
theorem eP:(prog.info? 220).map (λi=>(i.zero,i.size,i.bytes))=some (some (.slice none 0 0),1,24):=by kernel_rfl
theorem lg:(prog.info? 4).map (λi=>(i.zero,i.size,i.bytes))=some (some (.bool false),1,1):=by kernel_rfl
theorem oW (n:Nat) (g:n<=1000) (W:World):(Instr.makeSlice 218 (.int .i64 (n:Int)) (.int .i64 (n:Int))).run prog W=
  .ok (.slice (some ⟨W.heap.size,0,none⟩) n n) (W.alloc (.cells (List.replicate n (Value.slice none 0 0)).toArray 220)):=by
 obtain⟨f,a,b,c,d⟩:=Bg eP;have h:=Wr (P:=prog) W 218 220 f _ underlying218 a b .i64 .i64 (n:Int) (n:Int) (by omega) (by omega) (by rw[d];omega) (by omega);rw[c,As]at h;have e:(Value.slice none 0 0).cells=#[Value.slice none 0 0]:=rfl;rw[e,GO,GA]at h;exact h
theorem zS (n:Nat) (g:n<=1000) (W:World):(Instr.makeSlice 219 (.int .i64 (n:Int)) (.int .i64 (n:Int))).run prog W=
  .ok (.slice (some ⟨W.heap.size,0,none⟩) n n) (W.alloc (.cells (List.replicate n (Value.bool false)).toArray 4)):=by
 obtain⟨f,a,b,c,d⟩:=Bg lg;have h:=Wr (P:=prog) W 219 4 f _ underlying219 a b .i64 .i64 (n:Int) (n:Int) (by omega) (by omega) (by rw[d];omega) (by omega);rw[c,As]at h;have e:(Value.bool false).cells=#[Value.bool false]:=rfl;rw[e,GO,GA]at h;exact h
theorem Cs.hQ (N:Nat->Prop) (w:World):Cs N w (.slice none 0 0) .nil:=⟨[],⟨Cl _ _ _ _,λg a=>by cases a⟩,rfl⟩
theorem Gv.none_ (N:Nat->Prop) (w:World) (n:Nat):Gv N w [] false (.slice none 0 0) n (List.replicate n false) (List.replicate n (.slice none 0 0)):=
 ⟨rfl,Cs.hQ N w,λk a=>by rw[BK,Al a];rfl,λk a=>⟨.slice none 0 0,by rw[BK,Al a],Cs.hQ N w⟩⟩
theorem Sl.made {N:Nat->Prop}{w:World}{t:TypeId}{n:Nat}{x:Value}(b:N w.heap.size) (c:n<=maxLen):Sl N (w.alloc (.cells (List.replicate n x).toArray t)) t 1 (.slice (some ⟨w.heap.size,0,none⟩) n n) n (List.replicate n x):=
 ⟨⟨by simp,.inr ⟨w.heap.size,n,_,rfl,AQ _,PH w _,Ab _,c,by simp,by simp⟩⟩,λg a=>by injection a with a;simp only at a;exact a▸b⟩
abbrev Acx:Fc:=⟨0,0,0,0,0,0,0,[],0,0⟩
theorem RP.start {B:Nat}{W:World}{tl:Value}{ts:List CM}(h:Sl (λb=>B<=b) W 255 3 tl ts.length (ts.flatMap Le)) (c:ts.length<=1000) (d:B<=W.heap.size):
  RP B ((W.alloc (.cells #[.slice none 0 0,.int .i64 0,.slice none 0 0,.slice none 0 0,.slice none 0 0,.bool false] 222)).alloc (.cells #[tl,.int .i64 0,.int .i64 0,.int .i64 0,.int .i64 0,.int .i64 0,.int .i64 0,.int .i64 0,.pointer (some ⟨W.heap.size,0,none⟩),.int .i64 0] 253))
   (W.heap.size+1) W.heap.size tl ts 0 A4 A4 A4 false Acx A4:=by
 have i:=AE.new W 222 [.slice none 0 0,.int .i64 0,.slice none 0 0,.slice none 0 0,.slice none 0 0,.bool false];have e:=AE.new (W.alloc (.cells #[.slice none 0 0,.int .i64 0,.slice none 0 0,.slice none 0 0,.slice none 0 0,.bool false] 222)) 253 [tl,.int .i64 0,.int .i64 0,.int .i64 0,.int .i64 0,.int .i64 0,.int .i64 0,.int .i64 0,.pointer (some ⟨W.heap.size,0,none⟩),.int .i64 0];simp only[Ib]at e;have a:∀f,Sl (λb=>B<=b) f 224 3 A4 0 []:=λf=>⟨Cl _ _ _ _,λg j=>by cases j⟩;exact⟨⟨e,⟨_,(h.alloc _).alloc _⟩,c,i.alloc _,⟨_,A4,rfl,a _⟩,AQ _⟩,Nat.le_succ_of_le d,d,a _,by simp;omega⟩
section
variable {w:World}{gw:Nat×Nat}{s:Ah}
theorem Xv (D:MQ w gw) (s:Ah):Calls prog 95 #[vs s] w (Agu w s):=by
 by_cases h7:700<s.length
 ·have hr:=Aa (ey h7);have iW:=Ay s;have bq:(700:Int)<(s.length:Int):=by omega
  clear h7 D;unfold vs;go_enter func95,ntmps95;go_wp2
  go_ret3
  refine⟨Ac.refl _ _,?_⟩;rw[hr.out];rfl
 ·have eR:=dK D (s:=s) (by omega);have iW:=Ay s;have bq:(s.length:Int)<=700:=by omega
  obtain⟨eS,H7⟩:=zq2 eR h7;clear eR h7 D;unfold vs at*;go_enter func95,ntmps95;go_wp2_with fail;refine eS.out.mono ?_;rintro e w1 ⟨Z,tl,rfl,cW⟩;have eT:=jT s;obtain⟨O,P,rfl⟩:=cW.bz;generalize i9:(Value.slice O (PY s).length P)=tl at*;have i:=RP.start (B:=w.heap.size) cW (by omega) Z.size;have kP:Ac (λb=>w.heap.size<=b) w ((w1.alloc (.cells #[.slice none 0 0,.int .i64 0,.slice none 0 0,.slice none 0 0,.slice none 0 0,.bool false] 222)).alloc (.cells #[tl,.int .i64 0,.int .i64 0,.int .i64 0,.int .i64 0,.int .i64 0,.int .i64 0,.int .i64 0,.pointer (some ⟨w1.heap.size,0,none⟩),.int .i64 0] 253)):=
   (Z.alloc Z.size _).alloc (by simp;have:=Z.size;omega) _
  have eU:Yh w.heap.size w ((w1.alloc (.cells #[.slice none 0 0,.int .i64 0,.slice none 0 0,.slice none 0 0,.slice none 0 0,.bool false] 222)).alloc (.cells #[tl,.int .i64 0,.int .i64 0,.int .i64 0,.int .i64 0,.int .i64 0,.int .i64 0,.int .i64 0,.pointer (some ⟨w1.heap.size,0,none⟩),.int .i64 0] 253)) (w1.heap.size+1) w1.heap.size tl (PY s) s 701 (.ok () (start s)) Acx 0 A4:=
   ⟨i,kP,AF.start s,rfl,λst e=>by
    injection e with _ e;subst e;have hl:left s (start s)<=701:=by unfold left;omega
    exact⟨SQ s (by omega),rfl,rfl,hl⟩,by
    have hl:left s (start s)<=701:=by unfold left;omega
    show 0+left s (start s)<=702;omega⟩
  have br:=Aa eU;clear cW i kP eU eS;subst i9;generalize eV:PY s=f at*;have A:=Aa (show D6 f (jj s)from eV▸Z8 s);clear eV;go_upto_block 0 with fail;generalize (w1.alloc (.cells #[.slice none 0 0,.int .i64 0,.slice none 0 0,.slice none 0 0,.slice none 0 0,.bool false] 222)).alloc (.cells #[.slice O f.length P,.int .i64 0,.int .i64 0,.int .i64 0,.int .i64 0,.int .i64 0,.int .i64 0,.int .i64 0,.pointer (some ⟨w1.heap.size,0,none⟩),.int .i64 0] 253)=W0 at*;generalize w1.heap.size+1=g at*;generalize w1.heap.size=gp at*;clear Z eT;go_cut [] (λM=>∃n l r1 k m,Yh w.heap.size w M g gp (.slice O f.length P) f s n l r1 k m/\Pu l=false)
  case first=>
   go_wp2_with fail
   go_loopg [] 702 (λgg wr=>∃n l r1 k m,Yh w.heap.size w wr g gp (.slice O f.length P) f s n l r1 k m/\Dd s l<=gg)
   case atStart=>exact⟨701,_,_,_,_,br.out,by have:=br.out.dl;simp at this ⊢;omega⟩
   case round=>
    clear br;obtain⟨n,l,r1,k,m,T,hg⟩:=hrel;have i1:=λW (h:Gj W g gp (.slice O f.length P) f [m,.int .i64 k,A4,A4,A4,.bool false] r1)=>Ka h T.fi A.out (kd:=EK) (kr:=EK) (by decide) (by decide);have i2:=λW (h:Gj W g gp (.slice O f.length P) f [m,.int .i64 k,A4,A4,A4,.bool false] r1)=>Ka h T.fi A.out (kd:=Ge) (kr:=Ge) (by decide) (by decide);have i3:=λW (h:Gj W g gp (.slice O f.length P) f [m,.int .i64 k,A4,A4,A4,.bool false] r1)=>Ka h T.fi A.out (kd:=Jo) (kr:=Jo) (by decide) (by decide);have i4:=λW (h:Gj W g gp (.slice O f.length P) f [m,.int .i64 k,A4,A4,A4,.bool false] r1)=>Ka h T.fi A.out (kd:=Cx) (kr:=Cx) (by decide) (by decide);obtain⟨U,I2,I3,I4,u,HG,V⟩:=zq7 i1 i2 i3 i4 T hg (eO l);clear i1 i2 i3 i4 T hg;unfold vs at*;go_upto_region 4 with fail;go_cut [28] (λjl M=>jl= .bool (Pu l)/\∃q,M=wr.drewN q)
    case first=>
     cases b1:l.bu EK with
     |true=>
      rw[b1]at U V;go_wp2_with fail;refine(U.out _ u.out.rp.rd).mono ?_;rintro x X ⟨rfl,Y,rfl⟩;go_wp2;go_meet;exact⟨by rw[V.out];rfl,Y,rfl⟩
     |false=>
      rw[b1]at U V;cases b2:l.bu Ge with
      |true=>
       rw[b2]at I2 V;go_wp2_with fail;refine(U.out _ u.out.rp.rd).mono ?_;rintro x X ⟨rfl,Y,rfl⟩;go_wp2_with fail;refine(I2.out _ (u.out.rp.rd.drewN _)).mono ?_;rintro x X ⟨rfl,q2,rfl⟩;go_wp2;go_meet;exact⟨by rw[V.out];rfl,_,rfl⟩
      |false=>
       rw[b2]at I2 V;cases b3:l.bu Jo with
       |true=>
        rw[b3]at I3 V;go_wp2_with fail;refine(U.out _ u.out.rp.rd).mono ?_;rintro x X ⟨rfl,Y,rfl⟩;go_wp2_with fail;refine(I2.out _ (u.out.rp.rd.drewN _)).mono ?_;rintro x X ⟨rfl,q2,rfl⟩;go_wp2_with fail;refine(I3.out _ (u.out.rp.rd.drewN _)).mono ?_;rintro x X ⟨rfl,q3,rfl⟩;go_wp2;go_meet;exact⟨by rw[V.out];rfl,_,rfl⟩
       |false=>
        rw[b3]at I3 V;cases b4:l.bu Cx
        all_goals
         rw[b4]at I4 V;go_wp2_with fail;refine(U.out _ u.out.rp.rd).mono ?_;rintro x X ⟨rfl,Y,rfl⟩;go_wp2_with fail;refine(I2.out _ (u.out.rp.rd.drewN _)).mono ?_;rintro x X ⟨rfl,q2,rfl⟩;go_wp2_with fail;refine(I3.out _ (u.out.rp.rd.drewN _)).mono ?_;rintro x X ⟨rfl,q3,rfl⟩;go_wp2_with fail;refine(I4.out _ (u.out.rp.rd.drewN _)).mono ?_;rintro x X ⟨rfl,q4,rfl⟩;go_wp2;go_meet;exact⟨by rw[V.out];rfl,_,rfl⟩
    case rest=>
     obtain⟨rfl,q,rfl⟩:=hcut;clear U I2 I3 I4 V;have F:=u.out;have cY:=F.rp.drewN q;have eY:=F.kept.drewN q;cases hid:Pu l with
     |true=>
      obtain⟨st,rfl,G⟩:=aW hid;obtain⟨Q,m2,m3,m4⟩:=F.nG st rfl;have cZ:=F.dl;have eZ:=kf cY F.fi A.out G (by omega) m3;obtain⟨fa,da⟩:=zq2 eZ G;clear F cY eY eZ G hid Q m2 m3 m4 cZ;go_wp2_with fail;refine fa.out.mono ?_;rintro x X ⟨rfl,fb,f2,mT,r2,fc,o,fd,fh⟩;have H:=u.out.next da.out (((Ac.refl _ wr).drewN q).trans fb) fc o fd fh;have db:=Aa H;obtain⟨jr,hg⟩:=zp2 H.2 HG.out;clear H fb fc o fd fh fa;go_wp2;go_roundg (Dd s (decl s st))
      case measure=>omega
      case rel=>
       obtain⟨⟨n',hn⟩,_⟩:=db.out;exact⟨n',_,_,_,_,hn,Ab _⟩
     |false=>
      have HF:=Aa hid;clear F cY eY hid;go_wp2;go_meet;obtain⟨l1,l2,l3,l4,l5,l6⟩:=u.out;exact⟨n,l,r1,k,m,⟨l1.drewN q,l2.drewN q,l3,l4,l5,l6⟩,HF.out⟩
  case rest=>
   obtain⟨n,l,r1,k,m,T,hid⟩:=hcut;clear br;have fj:l=NT s 702 (.ok () (start s)):=by rw[←T.eq,fG hid]
   have cZ:=T.dl;have i:=T.rp;have bq:=i.sl;obtain⟨ad,cd,rfl⟩:=bq.bz;obtain⟨c8,p0,p2⟩:=zp3 i.rd.cells.2.2.2.2.2.2.2.2.1 (i.rd.ba.cell 0) (i.rd.ba.cell 2);have pf:=λj=>i.rd.ba.frozen j;have pl:=i.rd.ba.lt;have rl:=i.rd.row.lt;simp at p0 p2;have fm:=oW r1.decls.length (by omega);obtain⟨u,ln,dc,m8⟩:=zq4 T fj (show r1.decls.length<=702 by omega) hid;clear T i bq fj cZ hid;generalize fo:r1.decls.length=N at*;have be:=Aa fo;generalize fp:(List.replicate N (Value.slice none 0 0))=E at fm;have lr:=Aa fp;clear fo fp;unfold A4 at*;go_upto_region 6 with fail;go_cut [] (λM=>∃vr,RP w.heap.size M g gp (.slice O f.length P) f k vr (.slice none 0 0) (.slice none 0 0) false r1 (.slice ad N cd)/\Sl (λb=>w.heap.size<=b) M 220 1 vr N (List.replicate N (Value.slice none 0 0))/\Ac (λb=>w.heap.size<=b) w M)
   case first=>
    go_region;go_wp2;go_meet;have C:=u.out.rp.sz;have dh:=u.out.rp.hY 2 (.slice (some ⟨wc.heap.size,0,none⟩) N N) (vr':=.slice (some ⟨wc.heap.size,0,none⟩) N N) (vh':=A4) (vm':=A4) (ms':=false) rfl;have bf:=Sl.made (N:=λb=>w.heap.size<=b) (w:=wc.setCell ⟨gp,2,none⟩ (.slice (some ⟨wc.heap.size,0,none⟩) N N)) (t:=220) (n:=N) (x:=Value.slice none 0 0) (by simpa using C) (by unfold maxLen;have:=dc.out;omega);simp only[cN]at bf;rw[←lr.out];exact⟨_,(dh.alloc _).drewN 1,bf.of_heap rfl,((u.out.kept.setCell (p:=⟨gp,2,none⟩) u.out.rp.p0 _).alloc (by simpa using C) _).drew⟩
   case rest=>
    obtain⟨vr,i,bg,hk⟩:=hcut;obtain⟨fP,fR,gQ⟩:=zp3 i.rd.cells.2.2.2.2.2.2.2.2.1 (i.rd.ba.cell 0) (i.rd.ba.cell 3);have lu:=λj=>i.rd.ba.frozen j;have lv:=i.rd.ba.lt;have lw:=i.rd.row.lt;simp at fR gQ;have bH:=zS N (by have:=dc.out;omega);obtain⟨di,HP,HK⟩:=zq3 bg i hk;clear c8 p0 p2 pf pl rl fm i bg hk;generalize bI:(List.replicate N (Value.bool false))=E2 at bH;have gY:=Aa bI;clear bI;go_upto_region 7 with fail;go_cut [] (λM=>∃vh,RP w.heap.size M g gp (.slice O f.length P) f k vr vh (.slice none 0 0) false r1 (.slice ad N cd)/\Sl (λb=>w.heap.size<=b) M 4 1 vh N (List.replicate N (Value.bool false))/\Sl (λb=>w.heap.size<=b) M 220 1 vr N (List.replicate N (Value.slice none 0 0))/\Ac (λb=>w.heap.size<=b) w M)
    case first=>
     go_region;go_wp2;go_meet;have C:=HP.out.sz;have dh:=HP.out.hY 3 (.slice (some ⟨wc.heap.size,0,none⟩) N N) (vr':=vr) (vh':=.slice (some ⟨wc.heap.size,0,none⟩) N N) (vm':=.slice none 0 0) (ms':=false) rfl;have bf:=Sl.made (N:=λb=>w.heap.size<=b) (w:=wc.setCell ⟨gp,3,none⟩ (.slice (some ⟨wc.heap.size,0,none⟩) N N)) (t:=4) (n:=N) (x:=Value.bool false) (by simpa using C) (by unfold maxLen;have:=dc.out;omega);simp only[cN]at bf;rw[←gY.out];have gZ:Ac (λb=>b=gp) wc (wc.setCell ⟨gp,3,none⟩ (.slice (some ⟨wc.heap.size,0,none⟩) N N)):=Ac.one wc ⟨gp,3,none⟩ _;have lx:=(di.out.kept gZ (λb hb e=>di.out.bD HP.out.rd.ba (by decide) (e▸hb))).alloc (.cells (List.replicate N (Value.bool false)).toArray 4);exact⟨_,(dh.alloc _).drewN 1,bf.of_heap rfl,lx.of_heap rfl,((HK.out.setCell (p:=⟨gp,3,none⟩) HP.out.p0 _).alloc (by simpa using C) _).drew⟩
    case rest=>
     obtain⟨vh,i,hH,bg,hk⟩:=hcut;have hI:Yd w.heap.size w wc g gp (.slice O f.length P) f s 701 l l r1 k vr vh (.slice none 0 0) false (.slice ad N cd) (List.replicate N false) (List.replicate N (.slice none 0 0)):=by
      refine⟨⟨i,⟨?_,?_,?_,?_,?_⟩,⟨_,_,_,rfl⟩⟩,hk,u.out.fi,rfl,λst e=>?_⟩
      ·rw[be.out,PQ];exact hH
      ·rw[be.out];exact bg
      ·rw[be.out,CN]
      ·rw[be.out,CN]
      ·intro v hv;rw[List.eq_of_mem_replicate hv];exact⟨_,_,_,rfl⟩
      ·obtain⟨Q,m2,m3,m4⟩:=u.out.nG st e;refine⟨Q,m3,by have:=Q.dl;omega,Ab _,λ_=>?_⟩;rw[m2,be.out];exact Gv.none_ _ _ _
     have dm:=Aa hI;clear fP fR gQ lu lv lw bH i hH bg hk hI di HP HK;go_upto_block 2 with fail;go_cut [] (λM=>∃n2 o2 r2 I R o J,Yd w.heap.size w M g gp (.slice O f.length P) f s n2 l o2 r2 k vr vh I R (.slice ad N cd) o J/\o2.bu TF=false)
     case first=>
      go_wp2_with fail
      go_loopg [] 702 (λgg wr=>∃n2 o2 r2 I R o J,Yd w.heap.size w wr g gp (.slice O f.length P) f s n2 l o2 r2 k vr vh I R (.slice ad N cd) o J/\Dd s o2<=gg)
      case atStart=>exact⟨701,_,_,_,_,_,_,dm.out,by have:=Vp (s:=s) l;have:=H7.out;omega⟩
      case round=>
       clear dm;obtain⟨n2,o2,r2,I,R,o,J,r,hg⟩:=hrel;have i1:=Ka r.rq.rd r.fi A.out (kd:=TF) (kr:=TF) (by decide) (by decide);obtain⟨U,d,HG⟩:=zq3 i1 r hg;clear i1 r hg;unfold vs at*;cases b1:o2.bu TF with
       |true=>
        obtain⟨a0,st,rfl,G⟩:=AO.iP b1;cases a0;obtain⟨Q,m2,m3,m5,m4⟩:=d.out.nG st rfl;rw[b1]at U;clear b1;go_wp2_with fail;refine U.out.mono ?_;rintro x X ⟨rfl,Y,rfl⟩;have hU:=jY (d.out.rq.call ((Ac.refl _ wr).drewN Y) (d.out.rq.rd.drewN Y) rfl) d.out.fi A.out (by have:=H7.out;omega) G Q.depth Q.loops (by have:=Q.dl;omega) (λD=>(m4 D).kept (λ_ _ _ _=>rfl));obtain⟨hZ,da⟩:=zq2 hU G;clear hU Q m2 m3 m4 m5 G;go_wp2_with fail;refine hZ.out.mono ?_;rintro x w3 ⟨rfl,ic,nz,nA,r3,nB,nC,ie,ig,ii,ix⟩;have H:=d.out.next da.out (((Ac.refl _ wr).drewN Y).trans ic) ie ig ii ix;have db:=Aa H;have jr:Dd s (GG s 1500 st)<Dd s (AO.ok () st:AO Unit):=H.2;have hg:Dd s (AO.ok () st:AO Unit)<=_:=HG.out;clear H ic ie ig ii ix hZ;go_wp2;go_roundg (Dd s (GG s 1500 st))
        case measure=>omega
        case rel=>
         obtain⟨⟨n',hn⟩,_⟩:=db.out;exact⟨n',_,_,_,_,_,_,hn,Ab _⟩
       |false=>
        rw[b1]at U;have lA:=Aa b1;clear b1;go_wp2_with fail;refine U.out.mono ?_;rintro x X ⟨rfl,Y,rfl⟩;go_wp2;go_meet;obtain⟨l1,l2,l3,l4,l5⟩:=d.out;exact⟨n2,o2,r2,I,R,o,J,⟨l1.call ((Ac.refl _ wr).drewN Y) (l1.rd.drewN Y) rfl,l2.drewN Y,l3,l4,λst e=>by
         obtain⟨Q,m2,m3,m5,m4⟩:=l5 st e;exact⟨Q,m2,m3,m5,λD=>(m4 D).kept (λ_ _ _ _=>rfl)⟩⟩,lA.out⟩
     case rest=>
      obtain⟨n2,o2,r2,I,R,o,J,r,iy⟩:=hcut;clear dm;have iG:o2=Nx s 1500 702 l:=by rw[←r.eq,dU iy]
      have cy:Fh s=BC s Eh o2:=by rw[eA,iG,ln.out];rfl
      have iL:=j3 r.rq.rd r.fi A.out;obtain⟨iM,d,z⟩:=zq3 iL r cy;clear iL r cy iG iy;unfold vs at*;go_wp2_with fail;refine iM.out.mono ?_;rintro x w4 ⟨x4,rfl,dr,r4,h4,iN,bE⟩;obtain⟨c4,c5,c6,c7,fP,p5⟩:=zp6 h4.cells.2.2.2.2.1 h4.cells.2.2.2.2.2.1 h4.cells.2.2.2.2.2.2.1 h4.cells.2.2.2.2.2.2.2.1 h4.cells.2.2.2.2.2.2.2.2.1 (h4.ba.cell 5);simp at p5;obtain⟨nH,nI⟩:=zp2 h4.row.lt h4.ba.lt;obtain⟨K4,H4,iO,dt⟩:=zq4 (d.out.kept.trans (Vq dr d.out.rq.g0 d.out.rq.sz)) h4 dr (show r4.decls=r2.decls from iN);clear dr h4 iN iM;unfold ED;cases D:BC s Eh o2 with
      |bad e p=>
       rw[D]at bE z;obtain⟨e1,e2,e3⟩:=bE;have k:((r4.bad:Int)==0)=false:=by rw[e1];simpa using e3
       have f2:decide ((r4.bad:Int)=0)=false:=by rw[e1];simpa using e3
       obtain⟨HB,HR⟩:=zq2 (And.intro e1 e2) (oL H7.out z.out);clear D e1 e2 e3;unfold vs at*;go_wp2;go_region;go_wp2
       go_ret3
       refine⟨K4.out.drewN 1,?_⟩;rw[HR.out,HB.out.1,HB.out.2];rfl
      |ok t4 dy=>
       rw[D]at bE z;obtain⟨e1,e2⟩:=bE;have k:(r4.bad:Int)=0:=by rw[e1];rfl
       rw[k]at c4;have HW:=Aa D;clear D e1 k;cases K:dy.bC with
       |some y=>
        rw[K]at e2;obtain⟨e3,e4,e5⟩:=e2;have k:((r4.bC:Int)==0)=false:=by rw[e3];simpa using e5
        have f2:decide ((r4.bC:Int)=0)=false:=by rw[e3];simpa using e5
        obtain⟨HB,HR⟩:=zq2 (And.intro e3 e4) (ew H7.out z.out K);clear K e3 e4 e5;unfold vs at*;go_wp2;go_region;go_wp2
        go_ret3
        refine⟨K4.out.drewN 1,?_⟩;rw[HR.out,HB.out.1,HB.out.2];rfl
       |none=>
        rw[K]at e2;have k:(r4.bC:Int)=0:=by rw[show r4.bC=0 from e2];rfl
        rw[k]at c6;have lC:∃c,o2= .ok () c/\dy=next s c:=by
         have D:=HW.out;cases o2 with
         |bad e p=>cases D
         |ok a c=>exact⟨c,rfl,(BF (show want s Eh c= .ok t4 dy from D)).2.2⟩
        obtain⟨c,rfl,rfl⟩:=lC;have cL:c.bC=none:=K;obtain⟨Q,m2,m3,m5,m4⟩:=d.out.nG c rfl;have L:=(m4 cL).kg iO.out d.out.rq.rd.row;have bF:=L.ms;obtain⟨dz,HF,iR⟩:=zq3 L m2 K;clear K e2 k Q m2 m3 m4 m5 L cL;cases S:(Eo c.rules).isSome with
        |false=>
         rw[S]at bF;have HR:=Aa (aw H7.out z.out iR.out S);clear S;subst bF;unfold vs at*;go_wp2
         go_ret3
         refine⟨K4.out,?_⟩;rw[HR.out];rfl
        |true=>
         rw[S]at bF;have HR:=Aa (j9 H7.out z.out iR.out S);clear S;subst bF;unfold vs at*;go_wp2
         go_ret3
         refine⟨K4.out,?_⟩;rw[HR.out];have hq:=d.out.rq.call iO.out H4.out dt.out;have bh:c.decls=r4.decls:=by rw[dt.out];exact(AF.decls d.out.fi).symm
         refine⟨gp,rfl,.slice ad N cd,vr,vh,I,o,J,?_,?_,?_,?_,hq.p0,hq.qk⟩
         ·show AE w4 gp _ [_,.int .i64 c.aD,_,_,_,.bool true];rw[←HF.out];exact H4.out.ba
         ·show Sl _ w4 _ 3 _ c.decls.length (c.decls.flatMap FL);rw[bh];exact hq.sl
         ·show PO _ w4 _ _ c.decls.length _ _;rw[bh];exact hq.ru
         ·show Gv _ w4 c.rules true _ c.decls.length _ _;rw[bh,dt.out];exact dz.out
end
def Cd (e:Gm):List Value:=[.int .u64 e.key,.int .i64 e.aD]
def Far (u v:Value):Prop:=∀b,u.ownBlock=some b->v.ownBlock≠some b
theorem Far.symm {u v:Value}(h:Far u v):Far v u:=λb a c=>h b c a
structure QR (S:Nat->Prop) (w:World) (vq:Value) (q:List (List Gm)) (vl:List Value):Prop where
 outer:Sl S w 236 1 vq q.length vl
 len:vl.length=q.length
 inner:∀(i:Nat) v l,vl[i]?=some v->q[i]?=some l->Sl S w 234 2 v l.length (l.flatMap Cd)
 dc:∀(i j:Nat) u v,i≠j->vl[i]?=some u->vl[j]?=some v->Far u v
section
variable {S S1:Nat->Prop}{w w':World}{vq:Value}{q:List (List Gm)}{vl:List Value}
theorem QR.kept (h:QR S w vq q vl) (e:Ac S1 w w') (f:∀b,S b->b<w.heap.size->¬S1 b):QR S w' vq q vl:=
 ⟨h.outer.kept e (λb a=>f b (h.outer.2 b a) (h.outer.lt a)),h.len,
  λi v l c d=>(h.inner i v l c d).kept e (λb a=>f b ((h.inner i v l c d).2 b a) ((h.inner i v l c d).lt a)),h.dc⟩
theorem QR.mono (h:QR S w vq q vl) (e:∀b,b<w.heap.size->S b->S1 b):QR S1 w vq q vl:=
 ⟨⟨h.outer.1,λg a=>e g (h.outer.lt a) (h.outer.2 g a)⟩,h.len,λi v l c d=>⟨(h.inner i v l c d).1,λg a=>e g ((h.inner i v l c d).lt a) ((h.inner i v l c d).2 g a)⟩,h.dc⟩
theorem QR.at_ (h:QR S w vq q vl) {k:Nat}(c:k<q.length):∃v l,vl[k]?=some v/\q[k]?=some l/\w.cell? ⟨vq.ownBlock.getD 0,k,none⟩=some v:=by have f:=h.len;have a:=h.outer;obtain⟨v,b⟩:∃v,vl[k]?=some v:=⟨_,Ae (by omega)⟩;obtain⟨g,d,e,_⟩:=a.form (by omega);refine⟨v,q[k],b,Ae c,?_⟩;clear h;subst e;exact(a.1.cellAt k (by omega)).trans b
theorem QR.bF (h:QR S w vq q vl) {k:Nat}{v:Value}(B:vl[k]?=some v) (N:Ac S1 w w') (O:∀b,S1 b->v.ownBlock=some b\/w.heap.size<=b) {u:Value}{l':List Gm}
  (Q:Sl S w' 234 2 u l'.length (l'.flatMap Cd)) (s:∀b,u.ownBlock=some b->v.ownBlock=some b\/w.heap.size<=b) {g c:Nat} (e:vq= .slice (some ⟨g,0,none⟩) q.length c):
  QR S (w'.setCell ⟨g,k,none⟩ u) vq (q.set k l') (vl.set k u):=by
 have f:k<q.length:=by rw[←h.len];exact(Aj.1 B).1
 have G:q[k]?=some q[k]:=Ae f;have H:=h.inner k v q[k] B G;have C:vq.ownBlock=some g:=by rw[e];rfl
 have n1:v.ownBlock≠some g:=H.eR h.outer (by decide) C;have I:¬S1 g:=λn=>(O g n).elim n1 (λp=>by have:=h.outer.lt C;omega);have m:=h.outer.kept N (λb a=>by rw[C]at a;injection a with a;exact a▸I);have P:Ac (λb=>b=g) w' (w'.setCell ⟨g,k,none⟩ u):=Ac.one w' ⟨g,k,none⟩ u;refine⟨?_,by simp[h.len],?_,?_⟩
 ·have n:=m;rw[e]at n;have R:=n.1.stored k u;refine⟨?_,m.2⟩;rw[A9,e];exact R.1
 ·intro i x l t A;rcases Nat.decEq i k with D|rfl
  ·rw[BT (J6 D)]at t A;have d:=h.inner i x l t A;have E:=h.dc i k x v D t B;have J:=d.kept N (λb a n=>(O b n).elim (λe=>E b a e) (λp=>by have:=d.lt a;omega));exact J.kept P (λb a n=>d.eR h.outer (by decide) C (n▸a))
  ·rw[CF (by rw[h.len];exact f)]at t;rw[CF f]at A;injection t with t;injection A with A;subst t A;refine Q.kept P (λb a n=>?_);subst n;exact(s b a).elim n1 (λp=>by have:=h.outer.lt C;omega)
 ·intro i j x y z d o;rcases Nat.decEq i k with F|rfl
  ·rw[BT (J6 F)]at d;rcases Nat.decEq j k with K|rfl
   ·rw[BT (J6 K)]at o;exact h.dc i j x y z d o
   ·rw[CF (by rw[h.len];exact f)]at o;injection o with o;subst o;have L:i<q.length:=by rw[←h.len];exact(Aj.1 d).1
    intro b a r;exact(s b r).elim (λe=>h.dc i j x v F d B b a e) (λp=>by have:=(h.inner i x q[i] d (Ae L)).lt a;omega)
  ·rw[CF (by rw[h.len];exact f)]at d;injection d with d;subst d;rw[BT z]at o;have M:j<q.length:=by rw[←h.len];exact(Aj.1 o).1
   intro b a r;exact(s b a).elim (λe=>h.dc j i y v (J6 z) o B b r e) (λp=>by have:=(h.inner j y q[j] o (Ae M)).lt r;omega)
theorem QR.ig (h:QR S w vq q vl) {k i:Nat}{g c:Nat}{l:List Gm}(r:vl[k]?=some (.slice (some ⟨g,0,none⟩) l.length c)) (y:q[k]?=some l) {e:Gm}(A:l[i]?=some e) (f:Int):
  QR S (w.setCell ⟨g,i*2+1,none⟩ (.int .i64 f)) vq (q.set k (l.set i {e with aD:=f})) vl:=by
 have s:k<q.length:=(Aj.1 y).1;have n:=h.inner k _ l r y;have z:Ac (λb=>b=g) w (w.setCell ⟨g,i*2+1,none⟩ (.int .i64 f)):=Ac.one w ⟨g,i*2+1,none⟩ _;have o:=n.bF (f:=Cd) (λ_=>rfl) (i:=i) (j:=1) (x:=e) (x':={e with aD:=f}) (u:=.int .i64 f) A (by omega) rfl;refine⟨?_,by rw[A9];exact h.len,?_,h.dc⟩
 ·rw[A9];exact h.outer.kept z (λb t v=>n.eR h.outer (by decide) t (v▸rfl))
 ·intro j x m a d;rcases Nat.decEq j k with p|rfl
  ·rw[BT (J6 p)]at d;exact(h.inner j x m a d).kept z (λb t v=>h.dc j k x _ p a r b t (v▸rfl))
  ·rw[CF s]at d;injection d with d;subst d;rw[r]at a;injection a with a;subst a;have:=o;rw[A9]at this ⊢;exact this
end
section
variable {S:Nat->Prop}{w w':World}{e:TypeId}{size n m:Nat}{u v:Value}{xs news:List Value}
theorem KO {P:Program}{r:Array Oper}{o:Oper}{a:Act}{K:Act->World->Prop}{Q:Exit->Act->World->Prop}{E:Prop}{i:TypeInfo}{z:Value}{bytes:Nat}{t:TypeId}(O:P.underlying t=some (.slice e)) (R:P.info? e=some i) (hz:i.zero=some z)
  (p:i.size=size) (C:i.bytes=bytes) (D:z.cells.size=size) (F:0<size) (h:Sl S w e size v n xs) (hS:S w.heap.size)
  (G:o.guard=none) (s x:Operand) (U:o.op= .call {callee:=.builtin .append,args:=#[s,x],argTypes:=#[t,t]}) (V:a.eval s=v)
  (W:a.eval x=u) (j:gP w size u m news) (h1:∀u∈news,u.oneCell'=true)
  (H:n+m<=maxLen) (l:(n+m)*bytes<=140737488355328)
  (X:∀d f w',Sl S w' e size (.slice d (n+m) f) (n+m) (xs++news)->Ac (λb=>v.ownBlock=some b\/w.heap.size<=b) w w'->((Value.slice d (n+m) f).ownBlock=v.ownBlock\/(Value.slice d (n+m) f).ownBlock=some w.heap.size)->
   K (a.put o.dst (.slice d (n+m) f)) w'):if Region.wanted o (yielded r a.tmps)=true then Oper.wp P o a w K Q else E:=by
 have hw:Region.wanted o (yielded r a.tmps)=true:=by simp[Region.wanted,G]
 rw[Al hw];rcases j.2 with⟨rfl,rfl⟩|⟨ad,c,rfl,hc⟩
 ·have hn:news=[]:=In (by simpa using j.1);subst hn;have y:=run_append_owned_none (P:=P) (w:=w) 0 t o.type e i size O R v n xs h.1;unfold Oper.wp;simp only[execOp,U,resolve,invoke,builtin,GL,Ue,GM,Tl,BR,Pg,V,W,y];obtain⟨d,f,rfl⟩:∃d f,v= .slice d n f:=by
   rcases h.1.2 with⟨e1,I⟩|⟨g,J,L,e1,_⟩
   ·exact⟨none,0,by rw[e1,I]⟩
   ·exact⟨_,_,e1⟩
  exact X d f w (by rw[AM];exact h) zAr (.inl rfl)
 ·obtain⟨v',w',hr,Y,A,h4,q⟩:=run_append_own_at (P:=P) w 0 t o.type e i z size bytes O R hz p C D F v n xs h.1 ad m c news j.1 hc h1 H l (AQ _);unfold Oper.wp execOp;simp only[U,resolve,invoke,builtin,GL,Ue,GM,Tl,BR,Pg,V,W,hr];obtain⟨d,f,rfl⟩:∃d f,v'= .slice d (n+m) f:=by
   rcases Y.2 with⟨e1,I⟩|⟨g,J,L,e1,_⟩
   ·exact⟨none,0,by rw[e1,I]⟩
   ·exact⟨_,_,e1⟩
  refine X d f w' ⟨Y,λg B=>?_⟩ ⟨A.os,A.tape,A.output,A.size,λk Z=>?_⟩ q
  ·rcases q with q|q
   ·exact h.2 g (q▸B)
   ·rw[q]at B;injection B with B;exact B▸hS
  ·rcases Be k w.heap.size with M|N
   ·exact A.block k M (λe=>Z (.inl e.symm))
   ·exact absurd (.inr N) Z
end
theorem L0.kept {N T:Nat->Prop}{w w':World}{gp:Nat}{p:Ax}(h:L0 N w gp p) (i:Ac T w w') (d:∀b,N b->b<w.heap.size->¬T b):L0 N w' gp p:=by
 obtain⟨q,r,t,x,y,z,l,j,A,B,o,C⟩:=h;exact⟨q,r,t,x,y,z,l.kept i (d _ o l.lt),j.kept i (λb a=>d b (j.2 b a) (j.lt a)),A.kept i (λb cs f a=>d b a f.lt) (λb cs f a=>d b a f.lt),
  B.kept (λk cs D f=>i.block k (d k D f.lt)),o,C⟩
theorem L0.mono {N N':Nat->Prop}{w:World}{gp:Nat}{p:Ax}(h:L0 N w gp p) (a:∀k,k<w.heap.size->N k->N' k):L0 N' w gp p:=by obtain⟨i,j,l,o,q,r,d,b,t,x,y,z⟩:=h;exact⟨i,j,l,o,q,r,d,⟨b.1,λg f=>a g (b.lt f) (b.2 g f)⟩,t.mono a,x.mono a,a _ d.lt y,z⟩
theorem L0.decl {N:Nat->Prop}{w:World}{gp:Nat}{p:Ax}(h:L0 N w gp p) {k:Nat}(l:k<p.decls.length):∃a b,w.cell? ⟨gp,0,none⟩=some (.slice (some ⟨a,0,none⟩) p.decls.length b)/\p.decls.length<=b/\b<=maxLen/\a<w.heap.size/\gp<w.heap.size/\
  w.cell? ⟨a,k*3,none⟩=some (vs (B5 (Aq p.decls (k:Int)).kind))/\w.cell? ⟨a,k*3+1,none⟩=some (vs (Aq p.decls (k:Int)).name)/\w.cell? ⟨a,k*3+2,none⟩=some (.int .i64 (Aq p.decls (k:Int)).max):=by
 obtain⟨t,x,y,z,A,B,i,d,_⟩:=h;obtain⟨a,b,rfl,_,o,q,r⟩:=d.form (by omega);have f:p.decls[k]?=some (Aq p.decls (k:Int)):=by unfold Aq;rw[As,Ae l];rfl
 exact⟨a,b,i.cell 0,o,q,r,i.lt,d.at_ (λ_=>rfl) f (j:=0) (by omega),d.at_ (λ_=>rfl) f (j:=1) (by omega),d.at_ (λ_=>rfl) f (j:=2) (by omega)⟩
structure Es (S:Nat->Prop) (w:World) (g gp:Nat) (vq vv:Value) (s:St) (c:J9) (vl:List Value):Prop where
 row:AE w g 165 [.pointer (some ⟨gp,0,none⟩),vq,vv,.int .i64 c.ft,.int .i64 c.dA,.int .i64 c.cD]
 q:QR S w vq s.q vl
 v:Sl S w 3 1 vv s.vars.length (s.vars.map Jv)
 sg:S g
section
variable {S S' T:Nat->Prop}{w w':World}{g gp:Nat}{vq vv:Value}{s:St}{c:J9}{vl:List Value}
theorem Es.kept (h:Es S w g gp vq vv s c vl) (a:Ac T w w') (d:∀b,S b->b<w.heap.size->¬T b):Es S w' g gp vq vv s c vl:=
 ⟨h.row.kept a (d _ h.sg h.row.lt),h.q.kept a d,h.v.kept a (λb f=>d b (h.v.2 b f) (h.v.lt f)),h.sg⟩
theorem Es.mono (h:Es S w g gp vq vv s c vl) (a:∀b,b<w.heap.size->S b->S' b):Es S' w g gp vq vv s c vl:=
 ⟨h.row,h.q.mono a,⟨h.v.1,λb d=>a b (h.v.lt d) (h.v.2 b d)⟩,a _ h.row.lt h.sg⟩
theorem Es.later (h:Es S w g gp vq vv s c vl) (a:Ac (λb=>w.heap.size<=b) w w'):Es S w' g gp vq vv s c vl:=h.kept a (λb _ d f=>by omega)
end
def fQ:Option (Nat×Nat)->Int
 |some (k,_)=>(k:Nat)
 |none=> -1
def fI:Option (Nat×Nat)->Int
 |some (_,i)=>(i:Nat)
 |none=> -1
def FC (o:Option (Nat×Nat)):Value:=.tuple #[.int .i64 (fQ o),.int .i64 (fI o)]
theorem Ve (key:Int):∀(l:List Gm) (a i:Nat),i<l.length->C5 key (l.drop i) (a+i)=(if(Bm l i).key=key then some (a+i)else C5 key (l.drop (i+1)) (a+(i+1))):=by
 intro l a i b;rw[DK b,C5];have e:Bm l i=l[i]:=by unfold Bm;rw[Ae b];rfl
 rw[e];rfl
theorem UL (key:Int) (q:List (List Gm)) (k:Nat) (a:k<q.length):DV key (q.drop k) k=(match C5 key q[k] 0 with
  |some i=>some (k,i)
  |none=>DV key (q.drop (k+1)) (k+1)):=by
 rw[DK a,DV];cases C5 key q[k] 0<;>rfl
structure QB (s:St):Prop where
 n:s.q.length<=1000
 l:∀l∈s.q,l.length<=100000
section
variable {S:Nat->Prop}{w:World}{g gp:Nat}{vq vv:Value}{s:St}{c:J9}{vl:List Value}
theorem Nw (h:Es S w g gp vq vv s c vl) (L:QB s) (key:Int):Calls prog 99 #[.pointer (some ⟨g,0,none⟩),.int .u64 key] w λe w'=>e= .returned (FC (s.find key))/\Ac (λb=>w.heap.size<=b) w w':=by
 obtain⟨c1,rl,Z⟩:=zp3 (h.row.cell 1) h.row.lt h.q.outer;obtain⟨aq,cq,rfl⟩:=Z.bz;have bg:=L.n;obtain⟨H,HB⟩:=zq2 h L;simp at c1;clear h L Z;go_enter func99,ntmps99;go_wp2_with fail
 go_loopg [15] s.q.length (λgg M wr=>∃k:Nat,k<=s.q.length/\s.q.length-k<=gg/\M= .int .i64 k/\Ac (λb=>w.heap.size<=b) w wr/\DV key (s.q.drop k) k=s.find key)
 case atStart=>exact⟨0,AQ _,by omega,rfl,Ac.refl _ _,rfl⟩
 case round=>
  obtain⟨k,hk,hg,rfl,o,t⟩:=hrel;by_cases C:k<s.q.length
  ·obtain⟨v,l,hv,J,x⟩:=H.out.q.at_ C;have D:=H.out.q.inner k v l hv J;obtain⟨al,cl,rfl⟩:=D.bz;obtain⟨gq,bo,eq,_,q1,q2,q3⟩:=H.out.q.outer.form (by omega);injection eq with N bt O;subst N O;have d0:wr.cell? ⟨gq,k,none⟩=some (.slice al l.length cl):=(o.cell (p:=⟨gq,k,none⟩) (by simp only;omega)).trans x;have bu:l.length<=100000:=HB.out.l l (Aw J);have G:s.q[k]=l:=by have:=Ae C;rw[J]at this;injection this with this;exact this.symm
   have E:=UL key s.q k C;rw[G,t]at E;have bx:=o.size;obtain⟨F,z,P⟩:=zq3 D E o;clear D x hv J G E t o q1;unfold maxLen at q2;go_wp2_with fail
   go_loopg [22] l.length (λQ R wz=>∃i:Nat,i<=l.length/\l.length-i<=Q/\R= .int .i64 i/\Ac (λb=>w.heap.size<=b) w wz/\C5 key (l.drop i) (0+i)=C5 key l 0)
   case atStart=>exact⟨0,AQ _,by omega,rfl,P.out,rfl⟩
   case round=>
    obtain⟨i,hi,bD,rfl,d,r⟩:=hrel;by_cases A:i<l.length
    ·obtain⟨I,bE,el,_,q4,q5,q6⟩:=F.out.form (by omega);injection el with U bH V;subst U V;have K:l[i]?=some (Bm l i):=by unfold Bm;rw[Ae A];rfl
     have e0:wr.cell? ⟨I,i*2,none⟩=some (.int .u64 (Bm l i).key):=(d.cell (p:=⟨I,i*2,none⟩) (by simp only;omega)).trans (F.out.at_ (λ_=>rfl) K (j:=0) (by omega));have e1:wr.cell? ⟨I,i*2+1,none⟩=some (.int .i64 (Bm l i).aD):=(d.cell (p:=⟨I,i*2+1,none⟩) (by simp only;omega)).trans (F.out.at_ (λ_=>rfl) K (j:=1) (by omega));have B:=d.size;have bI:¬I=wr.heap.size:=by omega
     have f:=Ve key l 0 i A;rw[r]at f;unfold maxLen at q5;by_cases a:(Bm l i).key=key
     ·have b1:((Bm l i).key==key)=true:=by simpa using a
      have b2:decide ((Bm l i).key=key)=true:=by simpa using a
      rw[Al a,DH]at f;rw[f]at z;have y:=Aa d;clear a f r d K;go_wp2;go_ret2;rw[z.out];exact⟨rfl,y.out.alloc B _⟩
     ·have b1:((Bm l i).key==key)=false:=by simpa using a
      have b2:decide ((Bm l i).key=key)=false:=by simpa using a
      rw[Ai a]at f;obtain⟨y,W⟩:=zq2 d f;clear a f r d K;go_wp2;go_roundg (l.length-(i+1))
      case measure=>omega
      case rel=>exact⟨i+1,by omega,by omega,by go_num,y.out.alloc B _,W.out.symm⟩
    ·have X:i=l.length:=by omega
     subst X;rw[mD,C5]at r;rw[←r]at z;have y:=Aa d;clear r d;go_wp2;go_roundg (s.q.length-(k+1))
     case measure=>omega
     case rel=>exact⟨k+1,by omega,by omega,by go_num,y.out,z.out.symm⟩
  ·have Y:k=s.q.length:=by omega
   subst Y;rw[mD,DV]at t;obtain⟨HW,P⟩:=zq2 t o;clear t o;go_wp2;go_ret2;rw[←HW.out];exact⟨rfl,P.out⟩
end
def GI (p:Ax) (s:St):Prop:=GY p s/\∃A a,CD A a s.q
theorem GI.bG {p:Ax}{key:Int}{x:D0}{r r':DN}(h:GI p r.s) (b:Ej p) (d:J5 p.decls x) (e:bG p key x r= .ok r'):GI p r'.s:=by obtain⟨f,A,l,g⟩:=h;have:=YB g f b key x d r.gone;rw[show(⟨r.s,r.gone⟩:DN)=r from rfl,e]at this;obtain⟨i,a,_,j,k⟩:=this;exact⟨k,i,a,j⟩
structure WI (p:Ax) (s:St):Prop where
 q:s.q.length=p.decls.length
 v:s.vars.length=p.decls.length
 len:∀l∈s.q,l.length<=100
theorem GI.wi {p:Ax}{s:St}(h:GI p s):WI p s:=by obtain⟨a,A,i,b⟩:=h;refine⟨a.q,a.v,λl d=>?_⟩;rw[b.mX]at d;obtain⟨m,f,rfl⟩:=AD.1 d;obtain⟨k,g⟩:=I8.1 f;have:=b.iQ k m g;simp;omega
theorem WI.qb {p:Ax}{s:St}(h:WI p s) (a:Ej p):QB s:=
 ⟨by rw[h.q];have:=a.decls.len;omega,λl b=>by have:=h.len l b;omega⟩
theorem WI.out {p:Ax}{s:St}(h:WI p s) (k i:Nat):WI p (s.out k i):=by
 refine⟨by unfold St.out;simpa using h.q,h.v,λl b=>?_⟩;unfold St.out at b;rcases EG b with a|a
 ·exact h.len l a
 ·rw[a];have f:((s.q[k]?).getD []).length<=100:=by
   cases d:s.q[k]? with
   |none=>simp
   |some m=>exact h.len m (Aw d)
  have:=List.length_eraseIdx_le ((s.q[k]?).getD []) i;omega
theorem WI.bF {p:Ax}{s:St}(h:WI p s) {k:Nat}{l:List Gm}(b:l.length<=100):WI p {s with q:=s.q.set k l}:=by
 refine⟨by simpa using h.q,h.v,λm d=>?_⟩;rcases EG d with a|a
 ·exact h.len m a
 ·rw[a];exact b
structure Dx (B:Nat) (w:World) (gr gs gp:Nat) (vq vv vg:Value) (vl:List Value) (p:Ax) (c:J9) (key:Int) (r:DN) (e:Nat):Prop where
 row:AE w gr 231 [.pointer (some ⟨gs,0,none⟩),.int .u64 key,vg,.int .i64 e]
 st:Es (λb=>B<=b) w gs gp vq vv r.s c vl
 gone:Sl (λb=>B<=b) w 32 1 vg r.gone.length (r.gone.map Kp)
 ba:L0 (λb=>b<B) w gp p
 iL:B<=gr
 sz:B<=w.heap.size
 pw:Ej p
 gi:WI p r.s
section
variable {B:Nat}{w w':World}{gr gs gp:Nat}{vq vv vg:Value}{vl:List Value}{p:Ax}{c:J9}{key:Int}{r:DN}{e:Nat}
theorem Dx.later (h:Dx B w gr gs gp vq vv vg vl p c key r e) (a:Ac (λb=>w.heap.size<=b) w w'):Dx B w' gr gs gp vq vv vg vl p c key r e:=
 ⟨h.row.kept a (λe=>by have:=h.row.lt;omega),h.st.later a,h.gone.later a (λb d=>d),h.ba.kept a (λb _ d f=>by omega),h.iL,Ad h.sz a.size,h.pw,h.gi⟩
theorem Dx.qb (h:Dx B w gr gs gp vq vv vg vl p c key r e):QB r.s:=h.gi.qb h.pw
theorem Dx.queue (h:Dx B w gr gs gp vq vv vg vl p c key r e) {k:Nat}(t:k<p.decls.length):∃d f l g i,vq= .slice (some ⟨d,0,none⟩) r.s.q.length f/\r.s.q.length<=f/\f<=maxLen/\d<w.heap.size/\k<r.s.q.length/\r.s.q[k]?=some l/\l.length<=100000/\r.s.queue (k:Int)=l/\
  w.cell? ⟨d,k,none⟩=some (.slice g l.length i)/\vl[k]?=some (.slice g l.length i)/\Sl (λb=>B<=b) w 234 2 (.slice g l.length i) l.length (l.flatMap Cd):=by
 have j:k<r.s.q.length:=by rw[h.gi.q];exact t
 obtain⟨v,l,o,n,a⟩:=h.st.q.at_ j;have m:=h.st.q.inner k v l o n;obtain⟨g,i,rfl⟩:=m.bz;obtain⟨d,f,rfl,_,u,x,y⟩:=h.st.q.outer.form (by omega);refine⟨d,f,l,g,i,rfl,u,x,y,j,n,h.qb.l l (Aw n),?_,a,o,m⟩;unfold St.queue;rw[As,n];rfl
end
section
variable {B:Nat}{w:World}{gr gs gp:Nat}{vq vv vg:Value}{vl:List Value}{p:Ax}{c:J9}{key:Int}{r:DN}{e:Nat}
theorem dR (h:Dx B w gr gs gp vq vv vg vl p c key r e) (v:Qw) (I:V2 p.decls v):Calls prog 159 #[.pointer (some ⟨gr,0,none⟩),.agg (Fk v).toArray] w λx w'=>x= .returned (.int .i64 (Jt key r.s v))/\Ac (λb=>w.heap.size<=b) w w':=by
 obtain⟨M,c1,N,s2,rl,sl⟩:=zp6 (h.row.cell 0) (h.row.cell 1) (h.st.row.cell 1) (h.st.row.cell 2) h.row.lt h.st.row.lt;simp at M c1 N s2;have nr:¬gr=w.heap.size:=by omega
 have ns:¬gs=w.heap.size:=by omega
 have H:=Aa h;clear h;cases v with
 |num n=>
  unfold Fk DR C4 vs;go_enter gG,Zs;go_wp2;go_ret;exact⟨rfl,(Ac.refl _ w).alloc (Ab _) _⟩
 |len k=>
  have d:Ix p.decls.length k:=I.1;obtain⟨m,rfl⟩:∃m:Nat,k=(m:Int):=⟨k.toNat,by have:=d.1;omega⟩;obtain⟨gq,cq,l,al,cl,rfl,q1,O,q3,J,g,P,f,d0,_,_⟩:=H.out.queue (k:=m) (by have:=d.2;omega);have nq:¬gq=w.heap.size:=by omega
  have HQ:=Aa f;clear f g d I;unfold maxLen at O;unfold Fk DR C4 vs;go_enter gG,Zs;go_wp2;go_region;go_wp2;go_ret;show _=Ending.returned (.int .i64 ((r.s.queue (m:Int)).length:Int))/\_;rw[HQ.out];exact⟨rfl,((Ac.refl _ w).alloc (Ab _) _).drew⟩
 |var k=>
  have d:Ix p.decls.length k:=I.1;obtain⟨m,rfl⟩:∃m:Nat,k=(m:Int):=⟨k.toNat,by have:=d.1;omega⟩;have z:r.s.vars.length=p.decls.length:=H.out.gi.v;have J:m<r.s.vars.length:=by rw[z];have:=d.2;omega
  have h8:=H.out.pw.decls.len;obtain⟨gv,cv,rfl,_,bF,Q,bG⟩:=H.out.st.v.form (by omega);have cx:=H.out.st.v.1.cellAt m (by simpa using J);have ex:(r.s.vars.map Jv)[m]?=some (.int .i64 (r.s.var (m:Int))):=by unfold St.var;rw[As,At,Ae J];rfl
  rw[ex]at cx;have nv:¬gv=w.heap.size:=by omega
  unfold maxLen at Q;generalize r.s.vars.length=L at*;clear ex d I z;show Calls _ _ _ _ λx w'=>x= .returned (.int .i64 (r.s.var (m:Int)))/\_;generalize r.s.var (m:Int)=X at*;unfold Fk DR C4 vs;go_enter gG,Zs;go_wp2;go_region;go_wp2;go_ret;exact⟨rfl,((Ac.refl _ w).alloc (Ab _) _).drew⟩
 |aD=>
  have A:=λW (hk:Ac (λb=>w.heap.size<=b) w W)=>Nw (H.out.later hk).st H.out.qb key;have R:=Aa A;clear A;have C:Jt key r.s .aD=eF r.s key:=rfl;rw[C];have a:eF r.s key=match r.s.find key with|some (k,i)=>(Bm (r.s.queue k) i).aD|none=>0:=rfl
  generalize eF r.s key=FR at*;have o:=Aa a;clear a C;unfold Fk DR C4 vs;go_enter gG,Zs;have k1:Ac (λb=>w.heap.size<=b) w (w.alloc (.cells #[.string ⟨Cx.toArray⟩,.int .i64 0] 258)).drew:=((Ac.refl _ w).alloc (Ab _) _).drew;have S:=Aa k1;clear k1;go_upto_region 8 with fail;go_cut [5,6] (λs5 s6 wx=>s5= .int .i64 (fQ (r.s.find key))/\s6= .int .i64 (fI (r.s.find key))/\Ac (λb=>w.heap.size<=b) w wx)
  case first=>
   generalize r.s.find key=FO at*
   go_region_law (first|(go_simp;go_at_call 99;refine(R.out _ S.out).mono ?_;rintro x w2 ⟨rfl,D⟩;have T:=Aa D;clear D;unfold FC))
   all_goals go_wp2
   all_goals go_meet
   all_goals exact⟨rfl,rfl,S.out.trans (T.out.mono (λb hb=>Ad S.out.size hb))⟩
  obtain⟨rfl,rfl,K⟩:=hcut;have K2:=Aa K;have t:=H.out.later K;obtain⟨M,N,rl,sl⟩:=zp4 (t.row.cell 0) (t.st.row.cell 1) t.row.lt t.st.row.lt;simp at M N;cases E:r.s.find key with
  |none=>
   have a:=o.out;rw[E]at a;simp only at a;subst a;simp only[fQ,fI];clear K t E;go_wp2;go_ret;exact⟨rfl,K2.out⟩
  |some ki=>
   obtain⟨k,i⟩:=ki;have a:=o.out;rw[E]at a;simp only at a;obtain⟨l0,e0,u,F,U,V,G⟩:=Ld E;have Y:k<p.decls.length:=by rw[←H.out.gi.q];exact(Aj.1 u).1
   obtain⟨gq,cq,l,al,cl,rfl,q1,O,q3,J,g,P,f,d0,_,y⟩:=t.queue Y;have Z:i<l.length:=by rw[u]at g;injection g with g;exact g▸(Aj.1 F).1
   obtain⟨gl,cX,el,_,q4,q5,q6⟩:=y.form (by omega);injection el with ba da be;subst ba be;have hx:l[i]?=some (Bm l i):=by unfold Bm;rw[Ae Z];rfl
   have x1:=y.at_ (λ_=>rfl) hx (j:=1) (by omega);simp[Cd]at x1;rw[f]at a;subst a;unfold maxLen at O q5;simp only[fQ,fI];clear K t E u F U V G y hx f g o;go_wp2;go_ret;exact⟨rfl,K2.out⟩
end
end Go.Proofs.YtepoejiigmhlbaaGreatDoor.Ev
