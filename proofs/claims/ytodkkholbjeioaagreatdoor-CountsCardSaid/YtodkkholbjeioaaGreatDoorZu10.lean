/- Lemmas for a law's walk. Conditions: none. -/
import Derived.Test.YtodkkholbjeioaaGreatDoorZu09
set_option linter.all false
set_option maxRecDepth 100000
set_option maxHeartbeats 8000000
namespace Go.Proofs.YtodkkholbjeioaaGreatDoor.Ev
open _root_.Go.Proofs.Tryz
open Go Go.RowKit
section
variable {B:Nat}{ea:Nat->Addr}{w:World}{g gp bm:Nat}{vd wp:Value}{s:Ah}{st:PS}
theorem UO (w:World):(Go.sizeOf 216).run prog w= .ok 2 w:=by kernel_rfl
theorem Zx (w:World):(isAgg 216).run prog w= .ok true w:=by kernel_rfl
theorem Tl {α:Type}{x:AQ α}{f:α->Ra}{n:α->Int}{k:Ah}(t:∀a,DE (f a)=[vs k,.int .i64 (n a)]) {W w0:World}{h:PS}{i l:Value}{T:Type}(c:Mj B ea g gp bm i l s h w0 W w0.heap.size 216 [vs [],.int .i64 0])
  {e:Ending} {w1:World} (r:DX B ea W g gp bm s x (λ_ a v=>v= .int .i64 (n a)) e w1):
  (∃a st1,x= .ok a st1/\e= .returned (.int .i64 (n a))/\(∀j,w1.frozen? ⟨w0.heap.size,j,none⟩=false)/\w1.cell? ⟨w0.heap.size,0,none⟩=some (vs [])/\w1.cell? ⟨w0.heap.size,1,none⟩=some (.int .i64 0)/\
   ∃vd wp,DR B ea ((w1.setCell ⟨w0.heap.size,0,none⟩ (vs k)).setCell ⟨w0.heap.size,1,none⟩ (.int .i64 (n a))) g gp bm vd wp s st1/\Kg g w0 ((w1.setCell ⟨w0.heap.size,0,none⟩ (vs k)).setCell ⟨w0.heap.size,1,none⟩ (.int .i64 (n a)))/\
    AF ((w1.setCell ⟨w0.heap.size,0,none⟩ (vs k)).setCell ⟨w0.heap.size,1,none⟩ (.int .i64 (n a))) w0.heap.size 216 (DE (f a)))\/
  (∃k pos,x= .bad k pos/\Tc B ea w0 e w1 k pos):=by
 cases x with
 |ok a st1=>
  obtain⟨v,rfl,rfl,m,u,y,o⟩:=r;have d:=c.call m o;have p:=(d.bM (by decide) 0 (vs k)).bM (by decide) 1 (.int .i64 (n a));exact .inl ⟨a,st1,rfl,rfl,λj=>d.row.frozen j,d.row.cell 0,d.row.cell 1,_,_,p.rd,p.kg,by rw[t];exact p.row⟩
 |bad k pos=>
  obtain⟨gf,o,z,A,C⟩:=r;refine .inr ⟨k,pos,rfl,gf,o,?_,A,C⟩;exact Ac.trans (c.kg.mono (λb q=>by
   rcases q with rfl|q
   ·exact c.rd.g0
   ·exact Ad (Nat.le_of_lt_succ (Nat.lt_succ_of_le (c.b))) q)) z
theorem jT (h:DR B ea w g gp bm vd wp s st) (p:st.Ok s) (q:st.t.kind=Bw):
  Calls prog 159 #[.pointer (some ⟨g,0,none⟩)] w λe w'=>DX B ea w g gp bm s ((number s 0 999 st).map .num) (λ_ a v=>v= .agg (DE a).toArray) e w':=by
 have c:=Mj.start h 216 [vs [],.int .i64 0] (by decide);have r:=IV c.rd p 0 999;obtain⟨_,_,c2,_⟩:=AZ c.rd.row;obtain⟨x,y⟩:=zq2 c r;have A:=c.ne;clear c r h p;rw[q]at c2;clear q;unfold vs at*;go_enter hU,ZS;go_wp2_with fail;refine y.out.mono ?_;rintro e w1 j;rcases Tl (f:=.num) (n:=id) (k:=Bw) (T:=Unit) (λ_=>rfl) x.out j with⟨a,st1,d,rfl,z,C,D,l,m,u,i,b⟩|⟨k,pos,d,gf,rfl,hF⟩
 ·have o:=Aa d;have F:=Aa (And.intro u (And.intro i b));clear u i b d j;unfold vs id at*;go_wp2;refine AB (AT (cs:=DE (.num a)) UU Zx UO rfl F.out.2.2) rfl ?_;rw[o.out];exact⟨_,rfl,rfl,F.out.2.1,l,m,F.out.1⟩
 ·have o:=Aa d;clear j d;go_wp2;rw[o.out];exact⟨rfl,gf,rfl,hF⟩
theorem LT {k:Ah}(a:st.t.kind=k):take s k st=(true,next s st):=by unfold take;rw[Al a]
theorem Lb {k:Ah}(a:st.t.kind≠k):take s k st=(false,st):=by unfold take;rw[Ai a]
theorem jU (h:DR B ea w g gp bm vd wp s st) (m:st.t.kind=JU):
  Calls prog 159 #[.pointer (some ⟨g,0,none⟩)] w λe w'=>DX B ea w g gp bm s ((name s false (next s st)).map .len) (λ_ a v=>v= .agg (DE a).toArray) e w':=by
 have l:=Mj.start h 216 [vs [],.int .i64 0] (by decide);have o:=Gr l.rd JU;rw[LT m]at o;obtain⟨_,_,c2,_⟩:=AZ l.rd.row;obtain⟨D,E⟩:=zq2 l o;clear l o h;rw[m]at c2;clear m;unfold vs at*;go_enter hU,ZS;go_wp2_with fail;refine E.out.mono ?_;rintro e w0 ⟨rfl,d,y⟩;have c:=D.out.call d y;have A:=Js c.rd false;obtain⟨p,G⟩:=zq2 c A;clear d y c A;go_wp2_with fail;refine G.out.mono ?_;rintro e w1 q;rcases Tl (f:=.len) (n:=id) (k:=JU) (T:=Unit) (λ_=>rfl) p.out q with⟨a,st1,i,rfl,z,H,I,r,u,C,j,b⟩|⟨k,pos,i,gf,rfl,hF⟩
 ·have x:=Aa i;have F:=Aa (And.intro C (And.intro j b));clear C j b i q;unfold vs id at*;go_wp2;refine AB (AT (cs:=DE (.len a)) UU Zx UO rfl F.out.2.2) rfl ?_;rw[x.out];exact⟨_,rfl,rfl,F.out.2.1,r,u,F.out.1⟩
 ·have x:=Aa i;clear q i;go_wp2;rw[x.out];exact⟨rfl,gf,rfl,hF⟩
theorem eu (h:DR B ea w g gp bm vd wp s st) (k:st.t.kind=Cy):
  Calls prog 159 #[.pointer (some ⟨g,0,none⟩)] w λe w'=>DX B ea w g gp bm s (.ok .bI (next s st)) (λ_ a v=>v= .agg (DE a).toArray) e w':=by
 have l:=Mj.start h 216 [vs [],.int .i64 0] (by decide);have m:=Gr l.rd JU;rw[Lb (by rw[k];decide)]at m;obtain⟨_,_,c2,_⟩:=AZ l.rd.row;obtain⟨r,u⟩:=zq2 l m;clear l m h;have x:=Aa k;rw[k]at c2;clear k;unfold vs at*;go_enter hU,ZS;go_wp2_with fail;refine u.out.mono ?_;rintro e w0 ⟨rfl,f,p⟩;have c:=r.out.call f p;have d:=Gr c.rd Cy;rw[LT x.out]at d;obtain⟨n,o⟩:=zq2 c d;clear f p c d;go_wp2_with fail;refine o.out.mono ?_;rintro e w1 ⟨rfl,i,q⟩;have b:=n.out.call i q;have z:=λj=>b.row.frozen j;have y:=b.row.cell 0;have A:=b.row.cell 1;have F:=Aa ((b.bM (by decide) 0 (vs Cy)).bM (by decide) 1 (.int .i64 0));clear i q b;simp at y A;unfold vs at*;go_wp2;refine AB (AT (cs:=DE .bI) UU Zx UO rfl F.out.row) rfl ?_;exact⟨_,rfl,rfl,F.out.kg,_,_,F.out.rd⟩
theorem jS (h:DR B ea w g gp bm vd wp s st) (b:st.t.kind≠Bw) (l:st.t.kind≠JU) (m:st.t.kind≠Cy):
  Calls prog 159 #[.pointer (some ⟨g,0,none⟩)] w λe w'=>DX B ea w g gp bm s ((name s true st).map .var) (λ_ a v=>v= .agg (DE a).toArray) e w':=by
 have r:=Mj.start h 216 [vs [],.int .i64 0] (by decide);have u:=Gr r.rd JU;rw[Lb l]at u;obtain⟨_,_,c2,_⟩:=AZ r.rd.row;obtain⟨M,N,x⟩:=zq3 r u m;have e1:(st.t.kind==Bw)=false:=by simpa using b
 clear r u h b l m;unfold vs at*;go_enter hU,ZS;go_wp2_with fail;refine N.out.mono ?_;rintro e w0 ⟨rfl,o,I⟩;have d:=M.out.call o I;have i:=Gr d.rd Cy;rw[Lb x.out]at i;obtain⟨y,A⟩:=zq2 d i;clear o I d i;go_wp2_with fail;refine A.out.mono ?_;rintro e w1 ⟨rfl,b,J⟩;have j:=y.out.call b J;have K:=Js j.rd true;obtain⟨C,O⟩:=zq2 j K;clear b J j K;go_wp2_with fail;refine O.out.mono ?_;rintro e P D;rcases Tl (f:=.var) (n:=id) (k:=Jy) (T:=Unit) (λ_=>rfl) C.out D with⟨a,st1,p,rfl,z,Q,R,E,G,L,q,c⟩|⟨k,pos,p,gf,rfl,hF⟩
 ·have H:=Aa p;have F:=Aa (And.intro L (And.intro q c));clear L q c p D;unfold vs id at*;go_wp2;refine AB (AT (cs:=DE (.var a)) UU Zx UO rfl F.out.2.2) rfl ?_;rw[H.out];exact⟨_,rfl,rfl,F.out.2.1,E,G,F.out.1⟩
 ·have H:=Aa p;clear D p;go_wp2;rw[H.out];exact⟨rfl,gf,rfl,hF⟩
theorem XP (h:DR B ea w g gp bm vd wp s st) (f:st.Ok s):
  Calls prog 159 #[.pointer (some ⟨g,0,none⟩)] w λe w'=>DX B ea w g gp bm s (value s st) (λ_ a v=>v= .agg (DE a).toArray) e w':=by
 unfold value;by_cases b:st.t.kind=Bw
 ·rw[Al b];exact jT h f b
 ·by_cases c:st.t.kind=JU
  ·rw[Ai b,Al c];exact jU h c
  ·by_cases d:st.t.kind=Cy
   ·rw[Ai b,Ai c,Al d];exact eu h d
   ·rw[Ai b,Ai c,Ai d];exact jS h b c d
end
structure Mi (B:Nat) (ea:Nat->Addr) (g gp bm:Nat) (vd wp:Value) (s:Ah) (st:PS) (w0 w:World) (R C:Nat) (T:TypeId) (cs ds:List Value):Prop where
 rd:DR B ea w g gp bm vd wp s st
 kg:Kg g w0 w
 row:AF w R T cs
 bO:AF w C T ds
 new:w0.heap.size<=R
 jM:w0.heap.size<=C
 ne:R≠C
 t:T≠106/\T≠102/\T≠129/\T≠190
section
variable {B:Nat}{ea:Nat->Addr}{w w0:World}{g gp bm R C:Nat}{vd wp:Value}{s:Ah}{st:PS}{T:TypeId}{cs ds:List Value}
theorem Mj.nN (h:Mj B ea g gp bm vd wp s st w0 w R T cs) (o:Obj):Mj B ea g gp bm vd wp s st w0 (w.alloc o) R T cs:=
 ⟨h.rd.alloc o,h.kg.alloc (.inr h.kg.size) o,h.row.alloc o,h.new,h.b,h.t⟩
theorem Mi.b (h:Mi B ea g gp bm vd wp s st w0 w R C T cs ds) (a:B<=w0.heap.size):B<=R/\B<=C:=⟨Ad a h.new,Ad a h.jM⟩
theorem Mi.start (h:Mj B ea g gp bm vd wp s st w0 w R T cs) (a:T≠220) (ds:List Value):Mi B ea g gp bm vd wp s st w0 (w.alloc (.cells ds.toArray T)) R w.heap.size T cs ds:=
 ⟨h.rd.alloc _,h.kg.alloc (.inr h.kg.size) _,h.row.alloc _,AF.new _ _ _,h.new,h.kg.size,λe=>by have:=h.row.lt;omega,h.t⟩
theorem Mi.call (h:Mi B ea g gp bm vd wp s st w0 w R C T cs ds) {w':World}{st':PS}{a b:Value}(c:Kg g w w') (d:DR B ea w' g gp bm a b s st'):Mi B ea g gp bm a b s st' w0 w' R C T cs ds:=
 ⟨d,Kg.trans h.kg c,(In c h.row.lt (h.row.cZ h.rd.row h.t.2.2.2)).trans h.row,(In c h.bO.lt (h.bO.cZ h.rd.row h.t.2.2.2)).trans h.bO,h.new,h.jM,h.ne,h.t⟩
theorem Mi.bM (h:Mi B ea g gp bm vd wp s st w0 w R C T cs ds) (a:B<=w0.heap.size) (c:T≠220) (i:Nat) (u:Value):Mi B ea g gp bm vd wp s st w0 (w.setCell ⟨R,i,none⟩ u) R C T (cs.set i u) ds:=
 ⟨h.rd.bM (h.b a).1 h.row ⟨h.t.1,h.t.2.1,c,h.t.2.2.1⟩ h.t.2.2.2 i u,h.kg.setCell (p:=⟨R,i,none⟩) (.inr h.new) u,h.row.bM i u,h.bO.dK (λe=>h.ne e.symm) u,h.new,h.jM,h.ne,h.t⟩
theorem Mi.cy (h:Mi B ea g gp bm vd wp s st w0 w R C T cs ds) (a:B<=w0.heap.size) (c:T≠220) (i:Nat) (u:Value):Mi B ea g gp bm vd wp s st w0 (w.setCell ⟨C,i,none⟩ u) R C T cs (ds.set i u):=
 ⟨h.rd.bM (h.b a).2 h.bO ⟨h.t.1,h.t.2.1,c,h.t.2.2.1⟩ h.t.2.2.2 i u,h.kg.setCell (p:=⟨C,i,none⟩) (.inr h.jM) u,h.row.dK h.ne u,h.bO.bM i u,h.new,h.jM,h.ne,h.t⟩
theorem Bn {W:World}{e:Ending}{w':World}{k pos:Nat}(d:B<=w0.heap.size) (f:B<=g) (a:Kg g w0 W) (h:Tc B ea W e w' k pos):Tc B ea w0 e w' k pos:=by obtain⟨gf,i,j,l⟩:=h;exact⟨gf,i,Ac.trans (a.mono (λb c=>c.elim (λe=>e▸f) (λc=>Ad d c))) j,l⟩
theorem Fr (c:CK):∃a n1 b n3,M5 c=[vs a,.int .i64 n1,vs b,.int .i64 n3]:=by cases c<;>exact⟨_,_,_,_,rfl⟩
theorem Vq (w:World):(Go.sizeOf 218).run prog w= .ok 7 w:=by kernel_rfl
theorem Zy (w:World):(isAgg 218).run prog w= .ok true w:=by kernel_rfl
theorem lh (n:Nat):Dp (n+1)=!Dp n:=by
 unfold Dp;rcases Nat.mod_two_eq_zero_or_one n with h|h
 ·have:(n+1)%2=1:=by omega
  rw[h,this];rfl
 ·have:(n+1)%2=0:=by omega
  rw[h,this];rfl
theorem rU {n:Nat}(d:∀(w:World) (vd wp:Value),DR B ea w g gp bm vd wp s (next s st)->Calls prog 146 #[.pointer (some ⟨g,0,none⟩)] w λe w'=>DX B ea w g gp bm s (cond s n (next s st)) (λ_ a v=>v= .agg (Bu a).toArray) e w')
  (h:DR B ea w g gp bm vd wp s st) (F:st.t.kind=Lg):
  Calls prog 146 #[.pointer (some ⟨g,0,none⟩)] w λe w'=>DX B ea w g gp bm s ((cond s n (next s st)).map λc=>⟨c.k,c.bP+1⟩) (λ_ a v=>v= .agg (Bu a).toArray) e w':=by
 have x:=Mj.start h 218 [vs [],.int .i64 0,vs [],.int .i64 0,vs [],.int .i64 0,.bool false] (by decide);have y:=Gr x.rd Lg;rw[LT F]at y;obtain⟨L,M,N⟩:=zq3 x y d;have O:=h.env.size;have P:=h.g0;clear x y h F d;unfold vs at*;go_enter func146,ntmps146;go_wp2_with fail;refine M.out.mono ?_;rintro e w0 ⟨rfl,l,G⟩;have f:=L.out.call l G;have H:=N.out _ _ _ f.rd;obtain⟨m,Q⟩:=zq2 f H;clear l G f H;go_wp2_with fail;refine Q.out.mono ?_;rintro e w1 q;cases i:cond s n (next s st)with
 |bad k pos=>
  rw[i]at q;obtain⟨gf,rfl,hF⟩:=Bn O P m.out.kg q;have A:=Aa i;clear i;go_wp2;rw[A.out];exact⟨rfl,gf,rfl,hF⟩
 |ok c st1=>
  rw[i]at q;obtain⟨v,rfl,rfl,o,S,U,I⟩:=q;obtain⟨r,n1,u,n3,D⟩:=Fr c.k;have b:=m.out.call o I;have z:=λj=>b.row.frozen j;have V:=b.row.lt;have W:¬w.heap.size=w1.heap.size:=by omega
  have J:Bu c=[vs (Cl c.k),.int .i64 (Bt c.k),vs r,.int .i64 n1,vs u,.int .i64 n3,.bool (Dp c.bP)]:=by unfold Bu;rw[D];rfl
  have e1:Bu ⟨c.k,c.bP+1⟩=[vs (Cl c.k),.int .i64 (Bt c.k),vs r,.int .i64 n1,vs u,.int .i64 n3,.bool !Dp c.bP]:=by unfold Bu;rw[D,lh];rfl
  have K:=(((((((b.bM (by decide) 0 (vs (Cl c.k))).bM (by decide) 1 (.int .i64 (Bt c.k))).bM (by decide) 2 (vs r)).bM (by decide) 3 (.int .i64 n1)).bM (by decide) 4 (vs u)).bM (by decide) 5 (.int .i64 n3)).bM (by decide) 6 (.bool !Dp c.bP)).nN
   (.cells #[vs (Cl c.k),.int .i64 (Bt c.k),vs r,.int .i64 n1,vs u,.int .i64 n3,.bool !Dp c.bP] 218)
  rw[J];obtain⟨X,Y,Z,d3,d4,d5,d6⟩:=zp7 (b.row.cell 0) (b.row.cell 1) (b.row.cell 2) (b.row.cell 3) (b.row.cell 4) (b.row.cell 5) (b.row.cell 6);obtain⟨E,E1,A⟩:=zq3 K e1 i;clear K b J e1 D o I i;simp at X Y Z d3 d4 d5 d6;unfold vs at*;go_wp2;have p:=E.out.row;have sz:∀w,(Go.sizeOf 218).run prog w= .ok (Bu ⟨c.k,c.bP+1⟩).length w:=by rw[cM];exact Vq
  refine AB (AT (cs:=Bu ⟨c.k,c.bP+1⟩) sB Zy sz rfl (by rw[E1.out];exact p)) rfl ?_;rw[A.out];exact⟨_,rfl,rfl,E.out.kg,_,_,E.out.rd⟩
theorem TH (k:Ah) (y:Int->CK) (l:∀n,Bu ⟨y n,0⟩=[vs k,.int .i64 n,vs [],.int .i64 0,vs [],.int .i64 0,.bool false]) (m:k=Fb\/k=DN\/k=Fa)
  (h:DR B ea w g gp bm vd wp s st) (A:st.t.kind=k):
  Calls prog 146 #[.pointer (some ⟨g,0,none⟩)] w λe w'=>DX B ea w g gp bm s ((name s false (next s st)).map λn=>⟨y n,0⟩) (λ_ a v=>v= .agg (Bu a).toArray) e w':=by
 have D:=Mj.start h 218 [vs [],.int .i64 0,vs [],.int .i64 0,vs [],.int .i64 0,.bool false] (by decide);have o:st.t.kind≠Lg:=by rw[A];rcases m with rfl|rfl|rfl<;>decide
 have E:=Gr D.rd Lg;rw[Lb o]at E;obtain⟨U,V⟩:=zq2 D E;have c:=h.env.size;have W:=h.g0;obtain⟨F,X⟩:=zq2 A l;clear D E h A o l;rcases m with rfl|rfl|rfl
 all_goals
  unfold vs at*;go_enter func146,ntmps146;go_wp2_with fail;refine V.out.mono ?_;rintro e w0 ⟨rfl,p,N⟩;have d:=U.out.call p N;obtain⟨_,_,c2,_⟩:=AZ d.rd.row;have q:=F.out;rw[q]at c2;clear q;have f:=Er (d.nN (.cells #[vs st.t.kind,.int .i64 0,vs [],.int .i64 0,vs [],.int .i64 0,.bool false] 218)).rd;have G:=Mi.start d (by decide) [vs st.t.kind,.int .i64 0,vs [],.int .i64 0,vs [],.int .i64 0,.bool false];rw[F.out]at f G;obtain⟨Y,Z⟩:=zq2 G f;clear p N d f G;unfold vs at*;go_wp2_with fail;refine Z.out.mono ?_;rintro e w1 ⟨rfl,r,O⟩;have H:=Y.out.call r O;have f:=Js H.rd false;obtain⟨P,I⟩:=zq2 H f;clear r O H f;go_wp2_with fail;refine I.out.mono ?_;rintro e w2 x;cases i:name s false (next s st)with
  |bad k pos=>
   rw[i]at x;obtain⟨gf,rfl,hF⟩:=Bn c W P.out.kg x;have J:=Aa i;clear i;go_wp2;rw[J.out];exact⟨rfl,gf,rfl,hF⟩
  |ok n st1=>
   rw[i]at x;obtain⟨v,rfl,rfl,u,be,bI,Q⟩:=x;have b:=P.out.call u Q;have z:=λj=>b.row.frozen j;have z2:=λj=>b.bO.frozen j;have K:¬w.heap.size=w0.heap.size:=b.ne;have S:¬w0.heap.size=w.heap.size:=λe=>K e.symm;obtain⟨d0,d1,d2,d3,d4,d5,d6,e0⟩:=zp8 (b.row.cell 0) (b.row.cell 1) (b.row.cell 2) (b.row.cell 3) (b.row.cell 4) (b.row.cell 5) (b.row.cell 6) (b.bO.cell 0);obtain⟨e1,e2,e3,e4,e5,e6⟩:=zp6 (b.bO.cell 1) (b.bO.cell 2) (b.bO.cell 3) (b.bO.cell 4) (b.bO.cell 5) (b.bO.cell 6);have L:=(((((((b.cy c (by decide) 1 (.int .i64 n)).bM c (by decide) 0 (vs st.t.kind)).bM c (by decide) 1 (.int .i64 n)).bM c (by decide) 2 (vs [])).bM c (by decide) 3 (.int .i64 0)).bM c (by decide) 4 (vs [])).bM c (by decide) 5 (.int .i64 0)).bM c (by decide) 6 (.bool false);rw[F.out]at L;obtain⟨M,J⟩:=zq2 L i;clear b L u Q i;simp at d0 d1 d2 d3 d4 d5 d6 e0 e1 e2 e3 e4 e5 e6;unfold vs at*;go_wp2;refine AB (AT (cs:=[vs _,.int .i64 n,vs [],.int .i64 0,vs [],.int .i64 0,.bool false]) sB Zy Vq rfl M.out.row) rfl ?_;rw[J.out];exact⟨_,rfl,(by show _=Value.agg (Bu ⟨y n,0⟩).toArray;rw[X.out]),M.out.kg,_,_,M.out.rd⟩
theorem mB (h:DR B ea w g gp bm vd wp s st) (ok:st.Ok s) (i:st.t.kind≠Lg) (l:st.t.kind≠Fb) (m:st.t.kind≠DN) (n:st.t.kind≠Fa):
  Calls prog 146 #[.pointer (some ⟨g,0,none⟩)] w λe w'=>DX B ea w g gp bm s
   ((value s st).bind λa st=>(want s EY st).bind λ_ st=>(value s st).map λb=>⟨.less a b,0⟩) (λ_ a v=>v= .agg (Bu a).toArray) e w':=by
 have G:=Mj.start h 218 [vs [],.int .i64 0,vs [],.int .i64 0,vs [],.int .i64 0,.bool false] (by decide);have H:=Gr G.rd Lg;rw[Lb i]at H;obtain⟨HA,HT⟩:=zq2 G H;have d:=h.env.size;have I:=h.g0;have x1:(st.t.kind==Fb)=false:=by simpa using l
 have x2:(st.t.kind==DN)=false:=by simpa using m
 have x3:(st.t.kind==Fa)=false:=by simpa using n
 clear G H h i l m n;unfold vs at*;go_enter func146,ntmps146;go_wp2_with fail;refine HT.out.mono ?_;rintro e w0 ⟨rfl,i,S⟩;have q:=HA.out.call i S;obtain⟨_,_,c2,_⟩:=AZ q.rd.row;have J:=Mi.start q (by decide) [vs I9,.int .i64 0,vs [],.int .i64 0,vs [],.int .i64 0,.bool false];have p:=XP J.rd ok;obtain⟨U,HN⟩:=zq2 J p;clear i S q p J;unfold vs at*;go_wp2_with fail;refine HN.out.mono ?_;rintro e w1 f;cases r:value s st with
 |bad k pos=>
  rw[r]at f;obtain⟨gf,rfl,hF⟩:=Bn d I U.out.kg f;have y:=Aa r;clear r;go_wp2;rw[y.out];exact⟨rfl,gf,rfl,hF⟩
 |ok a st1=>
  rw[r]at f;obtain⟨v,rfl,rfl,l,bQ,bR,V⟩:=f;have A:=(Rz ok r).1.ok;have D:=U.out.call l V;have K:=(D.cy d (by decide) 2 (vs (Fk a))).cy d (by decide) 3 (.int .i64 (C6 a));have z2:=λj=>D.bO.frozen j;have W:=D.bO.cell 2;have X:=D.bO.cell 3;have p:=Dd K.rd EY;obtain⟨Y,L,y,HO⟩:=zq4 K p r A;clear l V D K p r A;simp at W X;unfold DE vs at*;go_wp2_with fail;refine L.out.mono ?_;rintro e w2 f;cases u:want s EY st1 with
  |bad k pos=>
   rw[u]at f;obtain⟨gf,rfl,hF⟩:=Bn d I Y.out.kg f;have F:=Aa u;clear u;go_wp2;refine⟨rfl,?_⟩;rw[y.out];show DX _ _ _ _ _ _ _ ((want s EY st1).bind _) _ _ _;rw[F.out];exact⟨gf,rfl,hF⟩
  |ok t o=>
   rw[u]at f;obtain⟨v,rfl,rfl,m,bU,bV,Z⟩:=f;have E:o.Ok s:=by obtain⟨_,_,e⟩:=BH u;rw[e];exact Ce HO.out
   have M:=Y.out.call m Z;have p:=XP M.rd E;obtain⟨Q3,N,F⟩:=zq3 M p u;clear m Z M p u E;go_wp2_with fail;refine N.out.mono ?_;rintro e w3 f;cases x:value s o with
   |bad k pos=>
    rw[x]at f;obtain⟨gf,rfl,hF⟩:=Bn d I Q3.out.kg f;have O:=Aa x;clear x;go_wp2;refine⟨rfl,?_⟩;rw[y.out];show DX _ _ _ _ _ _ _ ((want s EY st1).bind _) _ _ _;rw[F.out];show DX _ _ _ _ _ _ _ ((value s o).map _) _ _ _;rw[O.out];exact⟨gf,rfl,hF⟩
   |ok b bW=>
    rw[x]at f;obtain⟨v,rfl,rfl,n,bX,bY,h3⟩:=f;have c:=Q3.out.call n h3;have z:=λj=>c.row.frozen j;have bZ:=λj=>c.bO.frozen j;have P:¬w.heap.size=w0.heap.size:=c.ne;have bJ:¬w0.heap.size=w.heap.size:=λe=>P e.symm;obtain⟨d0,d1,d2,d3,d4,d5,d6,f0⟩:=zp8 (c.row.cell 0) (c.row.cell 1) (c.row.cell 2) (c.row.cell 3) (c.row.cell 4) (c.row.cell 5) (c.row.cell 6) (c.bO.cell 0);obtain⟨f1,f2,f3,f4,f5,f6⟩:=zp6 (c.bO.cell 1) (c.bO.cell 2) (c.bO.cell 3) (c.bO.cell 4) (c.bO.cell 5) (c.bO.cell 6);have q5:=((((((((c.cy d (by decide) 4 (vs (Fk b))).cy d (by decide) 5 (.int .i64 (C6 b))).bM d (by decide) 0 (vs I9)).bM d (by decide) 1 (.int .i64 0)).bM d (by decide) 2 (vs (Fk a))).bM d (by decide) 3 (.int .i64 (C6 a))).bM d (by decide) 4 (vs (Fk b))).bM d (by decide) 5 (.int .i64 (C6 b))).bM d (by decide) 6 (.bool false);obtain⟨Q,O⟩:=zq2 q5 x;clear c q5 n h3 x z2 W X;simp at d0 d1 d2 d3 d4 d5 d6 f0 f1 f2 f3 f4 f5 f6;unfold DE vs at*;go_wp2;refine AB (AT (cs:=[vs I9,.int .i64 0,vs (Fk a),.int .i64 (C6 a),vs (Fk b),.int .i64 (C6 b),.bool false]) sB Zy Vq rfl Q.out.row) rfl ?_;rw[y.out];show DX _ _ _ _ _ _ _ ((want s EY st1).bind _) _ _ _;rw[F.out];show DX _ _ _ _ _ _ _ ((value s o).map _) _ _ _;rw[O.out];exact⟨_,rfl,rfl,Q.out.kg,_,_,Q.out.rd⟩
theorem Ws:∀(n:Nat) (st:PS) (w:World) (vd wp:Value),DR B ea w g gp bm vd wp s st->st.Ok s->left s st<n->
  Calls prog 146 #[.pointer (some ⟨g,0,none⟩)] w λe w'=>DX B ea w g gp bm s (cond s n st) (λ_ a v=>v= .agg (Bu a).toArray) e w'
 |0,st,w,vd,wp,h,f,j=>by omega
 |n+1,st,w,vd,wp,h,f,j=>by
  unfold cond;by_cases c:st.t.kind=Lg
  ·rw[Al c];exact rU (λw vd wp h=>Ws n (next s st) w vd wp h (Ce f) (by have:=D6 f c (by decide) (by decide);omega)) h c
  ·rw[Ai c];unfold E4;by_cases b:st.t.kind=Fb
   ·rw[Al b];exact TH Fb .full (λ_=>rfl) (.inl rfl) h b
   ·by_cases d:st.t.kind=DN
    ·rw[Ai b,Al d];exact TH DN .empty (λ_=>rfl) (.inr (.inl rfl)) h d
    ·by_cases i:st.t.kind=Fa
     ·rw[Ai b,Ai d,Al i];exact TH Fa .fC (λ_=>rfl) (.inr (.inr rfl)) h i
     ·rw[Ai b,Ai d,Ai i];exact mB h f c b d i
end
section
variable {B:Nat}{ea:Nat->Addr}{w w0:World}{g gp bm:Nat}{vd wp:Value}{s:Ah}{st:PS}
theorem DR.kG (h:DR B ea w g gp bm vd wp s st) (n:Nat) {i:Int}(b:i=n):DR B ea (w.setCell ⟨g,7,none⟩ (.int .i64 i)) g gp bm vd wp s {st with depth:=n}:=by subst b;have a:Kg g w (w.setCell ⟨g,7,none⟩ (.int .i64 n)):=Ac.setCell (p:=⟨g,7,none⟩) zAr (.inl rfl) _;exact h.dS (st':={st with depth:=n}) (h.kg a) (h.row.bM 7 (.int .i64 n)) rfl rfl rfl (h.bJ.quiet (h.kg a)) h.i
theorem DR.nO (h:DR B ea w g gp bm vd wp s st) (n:Nat) {i:Int}(b:i=n):DR B ea (w.setCell ⟨g,8,none⟩ (.int .i64 i)) g gp bm vd wp s {st with loops:=n}:=by subst b;have a:Kg g w (w.setCell ⟨g,8,none⟩ (.int .i64 n)):=Ac.setCell (p:=⟨g,8,none⟩) zAr (.inl rfl) _;exact h.dS (st':={st with loops:=n}) (h.kg a) (h.row.bM 8 (.int .i64 n)) rfl rfl rfl (h.bJ.quiet (h.kg a)) h.i
theorem Kg.cell (g:Nat) (w:World) (i:Nat) (u:Value):Kg g w (w.setCell ⟨g,i,none⟩ u):=Ac.setCell (p:=⟨g,i,none⟩) zAr (.inl rfl) u
def StF (cs:List Value):Prop:=∃(k:Ah) (n m:Int) (t:Bool) (a:Ah) (b:Int) (c:Ah) (d:Int) (e:Ah) (f:Int) (o:Bool) (h:Option Addr) (n1 i:Nat) (j:Option Addr) (l c2:Nat),
 cs=[vs k,.int .i64 n,.int .i64 m,.bool t,vs a,.int .i64 b,vs c,.int .i64 d,vs e,.int .i64 f,.bool o,.slice h n1 i,.slice j l c2]
def Me (w0 w':World) (b:Az) (v:Value):Prop:=∃cs,v= .agg cs.toArray/\b.length=1/\StF cs/\A5 (λk=>w0.heap.size<=k) w' b cs
def sC (B:Nat) (ea:Nat->Addr) (g gp bm:Nat) (s:Ah) (m:Nat):Prop:=
 ∀(st:PS) (w:World) (vd wp:Value),DR B ea w g gp bm vd wp s st->st.Ok s->st.depth<=8->st.loops<=2->2*left s st+1<=m->
  Calls prog 134 #[.pointer (some ⟨g,0,none⟩)] w λe w'=>DX B ea w g gp bm s (stmt s m st) (Me w) e w'
def WH (B:Nat) (ea:Nat->Addr) (g gp bm:Nat) (s:Ah) (m:Nat):Prop:=
 ∀(st:PS) (w:World) (vd wp:Value),DR B ea w g gp bm vd wp s st->st.Ok s->st.depth<=8->st.loops<=2->2*left s st+1<=m->
  Calls prog 117 #[.pointer (some ⟨g,0,none⟩)] w λe w'=>DX B ea w g gp bm s (block s m st) (λw' b v=>DG (λk=>w.heap.size<=k) w' v b) e w'
theorem Oi:∀(b:Az),b.app .nil=b
 | .nil=>rfl
 | .bN p r=>by simp[Az.app,Oi r]
 | .ite c t o e r=>by simp[Az.app,Oi r]
 | .rep n c b r=>by simp[Az.app,Oi r]
theorem If:∀(a b c:Az),(a.app b).app c=a.app (b.app c)
 | .nil,_,_=>rfl
 | .bN p r,b,c=>by simp[Az.app,If r]
 | .ite _ _ _ _ r,b,c=>by simp[Az.app,If r]
 | .rep _ _ _ r,b,c=>by simp[Az.app,If r]
theorem qf:(prog.info? 220).map (λi=>(i.zero,i.size,i.bytes))=
  some (some (.agg #[vs [],.int .i64 0,.int .i64 0,.bool false,vs [],.int .i64 0,vs [],.int .i64 0,vs [],.int .i64 0,.bool false,.slice none 0 0,.slice none 0 0]),13,168):=by kernel_rfl
theorem IY.dU {S1:Nat->Prop}{w':World}{wp:Value}{x:Option (Nat×Nat)}(h:IY B ea w wp x) (c:Ac S1 w w') (d:∀b cs,AF w b 129 cs->¬S1 b):IY B ea w' wp x:=by
 cases x with
 |none=>exact h
 |some y=>
  obtain⟨gf,e,f,a⟩:=h;exact⟨gf,e,f,a.kept c (d _ _ a)⟩
theorem DR.later (h:DR B ea w g gp bm vd wp s st) {w':World}{st':PS}{a:Value}(c:Kg g w w') (d:AF w' g 190 (Dv s st' gp a)) (e:st'.decls=st.decls) (f:st'.bI=st.bI) (b:st'.rules=st.rules)
  (j:IY B ea w' a st'.bJ) (k:st'.i<=s.length):DR B ea w' g gp bm vd a s st':=h.dS (h.kg c) d e f b j k
theorem MF:∀(b:Az),b.length<=b.size
 | .nil=>Ab _
 | .bN _ r=>by have:=MF r;simp only[Az.length,Az.size];omega
 | .ite _ _ _ _ r=>by have:=MF r;simp only[Az.length,Az.size];omega
 | .rep _ _ _ r=>by have:=MF r;simp only[Az.length,Az.size];omega
structure tH (B:Nat) (ea:Nat->Addr) (g gp bm:Nat) (s:Ah) (w0:World) (st0:PS) (n k:Nat) (v:Value) (wr:World) (st':PS) (done:Az) (m:Nat) (cs:List Value) (gl cap:Nat) (wp:Value):Prop where
 ghost:left s st'<=k
 fuel:2*left s st'+2<=m
 mn:m<=n
 eq:FA s n st0=(FA s m st').map (λr=>done.app r)
 ok:st'.Ok s
 fwd:Gn s st0 st'
 len:done.length+left s st'<=701
 kg:Kg g w0 wr
 row:AF wr g 190 (Dv s st' gp wp)
 bJ:IY B ea wr wp st'.bJ
 shape:v= .slice (some ⟨gl,0,none⟩) done.length cap
 sl:Sl (λb=>w0.heap.size<=b) wr 220 13 v done.length cs
 nz:A5 (λb=>w0.heap.size<=b/\b≠gl) wr done cs
def inner (s:Ah) (st:PS):PS:={next s st with depth:=st.depth+1}
theorem vK (s:Ah) (st:PS):left s st<=s.length+1:=by unfold left;omega
theorem gK (n:Nat) (bT:∀m,m<n+1->sC B ea g gp bm s m):WH B ea g gp bm s (n+1):=by
 intro st w vd wp h ok hd hl hn;obtain⟨_,_,c2,_,_,_,_,c7,_⟩:=AZ h.row;have hB:=h.env.size;have hg:=h.g0;have bX:w.cell? ⟨7,0,none⟩=some (.iface 304 (.pointer (some (ea 3)))):=h.env.err 3 (by omega) (by omega);have dJ:7<w.heap.size:=An (h.env.lt 3 (by omega) (by omega)) h.env.size;obtain⟨HR,fL,dL⟩:=zq3 h bT ok;by_cases G:st.t.kind=Cx
 ·have hw:want s Cx st= .ok st.t (next s st):=by unfold want;rw[Al G]
  by_cases h8:st.depth=8
  ·have e2:block s (n+1) st= .bad SG st.t.pos:=by unfold block;rw[Al ⟨G,h8⟩];rfl
   rw[e2];have hf:=Sz h 3;have HF:=Aa hf;rw[G]at c2;rw[h8]at c7;clear e2 hf h bT ok hw G h8;unfold vs Ds at*;go_enter func117,ntmps117;go_wp2_with fail;refine HF.out.mono ?_;rintro e w1 ⟨gf,rfl,hF⟩;go_wp2;exact⟨rfl,gf,rfl,hF⟩
  ·have e2:block s (n+1) st=(FA s n (inner s st)).bind λb st=>.ok b (next s {st with depth:=st.depth-1}):=by unfold block;rw[Ai (by rintro⟨_,x⟩;exact h8 x),hw];rfl
   rw[e2];have c:=Dd h Cx;rw[hw]at c;have HW:=Aa c;have e8:((st.depth:Int)==8)=false:=by simp;omega
   rw[G]at c2;obtain⟨HK,HN⟩:=zq2 G hn;have jE:st.depth<8:=by omega
   clear e2 c hw h bT ok h8 G hn bX dJ;unfold vs at*;go_enter func117,ntmps117;go_wp2_with fail;refine HW.out.mono ?_;rintro e w1 ⟨v,rfl,rfl,cu,jF,fR,I⟩;obtain⟨_,_,_,_,_,_,_,dO,_⟩:=AZ I.row;have jd:w1.cell? ⟨g,7,none⟩=some (.int .i64 st.depth):=dO;obtain⟨f7,jG,h2⟩:=zp3 (I.row.frozen 7) I.row.lt (I.kG (st.depth+1) (i:=(st.depth:Int)+1) rfl);have k2:Kg g w (w1.setCell ⟨g,7,none⟩ (.int .i64 ((st.depth:Int)+1))):=Kg.trans cu (Kg.cell g w1 7 _);have bZ:w.heap.size<=w1.heap.size:=cu.size;have b8:(st.depth:Int)<8:=by omega
   have b0:(0:Int)<=(st.depth:Int):=by omega
   have fS:(next s st).depth=st.depth:=rfl;have cw:(inner s st).Ok s:=by have:=Ce dL.out;exact⟨this.i,this.pos,this.more,this.num,this.name⟩
   have cy:left s (inner s st)<left s st:=D6 dL.out HK.out (by decide) (by decide);have fT:=h2.s;have fU:=vK s (inner s st);have O:tH B ea g gp bm s w (inner s st) n (left s st) (.slice (some ⟨w1.heap.size,0,none⟩) 0 0) ((w1.setCell ⟨g,7,none⟩ (.int .i64 ((st.depth:Int)+1))).alloc (.cells #[] 220)) (inner s st) .nil n [] w1.heap.size 0 fR:=by
    have V:=h2.alloc (.cells #[] 220);have hN:=HN.out;refine⟨by omega,by omega,Ab _,?_,cw,Gn.refl cw,by simp only[Az.length];omega,k2.alloc (.inr k2.size) _,V.row,V.bJ,rfl,?_,rfl⟩
    ·cases FA s n (inner s st)<;>rfl
    ·have P:=AF.new (w1.setCell ⟨g,7,none⟩ (.int .i64 ((st.depth:Int)+1))) 220 [];have e:(w1.setCell ⟨g,7,none⟩ (.int .i64 ((st.depth:Int)+1))).heap.size=w1.heap.size:=by simp
     rw[e]at P;exact Sl.fO P bZ rfl (by unfold maxLen;omega)
   obtain⟨gH,jM⟩:=zq2 O k2;clear I cu h2 k2 dO O cw cy fS bZ fT fU;unfold IW vs at*;obtain⟨i0,gI,ik,iu,iw⟩:=Bg qf;go_wp2_with fail
   go_loopg [3] (left s st) (λkk v3 wr=>∃st' done m cs Q K cz,tH B ea g gp bm s w (inner s st) n kk v3 wr st' done m cs Q K cz)
   case atStart=>exact⟨_,_,_,_,_,_,_,gH.out⟩
   case round=>
    obtain⟨st',done,m,cs,Q,K,cz,J⟩:=hrel;have hv:=J.shape;subst hv;obtain⟨_,_,c2,_,_,_,_,c7,_⟩:=AZ J.row;have lQ:=J.row.frozen 7;have je:=J.row.lt;have dp:st'.depth=st.depth+1:=J.fwd.depth;obtain⟨m,rfl⟩:∃x,m=x+2:=⟨m-2,by have:=J.fuel;omega⟩;have dP:DR B ea wr g gp bm vd cz s st':=HR.out.later J.kg J.row J.fwd.decls J.fwd.bI J.fwd.rules J.bJ J.ok.i;have jf:=J.len;obtain⟨dQ,a⟩:=zq2 dP J;clear dP J;by_cases hc:st'.t.kind=DC
    ·rw[hc]at c2;rw[dp]at c7;have h3:=dQ.out.kG st.depth (i:=(st.depth:Int)) rfl;have k3:Kg g w (wr.setCell ⟨g,7,none⟩ (.int .i64 (st.depth:Int))):=Kg.trans a.out.kg (Kg.cell g wr 7 _);have dR:=Er h3;have dS:DG (λb=>w.heap.size<=b) wr (.slice (some ⟨Q,0,none⟩) done.length K) done:=⟨cs,⟨a.out.sl,_,_,rfl⟩,A5.mono (λ_ _ x=>x.1) _ _ a.out.nz⟩;have ec:(((st.depth+1:Nat):Int)-1)=(st.depth:Int):=by omega
     obtain⟨H3,K3,ix,iy,HC,EC⟩:=zq6 h3 k3 dR dS hc ec;clear h3 k3 dR dS hc ec;unfold vs at*;go_wp2_with fail;refine ix.out.mono ?_;rintro e w3 ⟨rfl,dV,h4⟩;have F:=Aa (And.intro dV h4);clear dV h4;go_wp2;go_ret;have R:DG (λb=>w.heap.size<=b) w3 (.slice (some ⟨Q,0,none⟩) done.length K) done:=by refine iy.out.kept (λk cs G P=>?_);have I:k<wr.heap.size:=P.lt;have h2:k≠g:=P.cZ a.out.row (by decide);have e1:=In F.out.1 (b:=k) (by simpa using I) h2;have e2:=In (Kg.cell g wr 7 (.int .i64 (st.depth:Int))) I h2;exact e1.trans e2
     have iz:=a.out.fuel;have M:((FA s n (inner s st)).bind λb st=>AQ.ok b (next s {st with depth:=st.depth-1}))= .ok done (next s {st' with depth:=st.depth}):=by rw[a.out.eq,FA,Al HC.out];show AQ.ok (done.app .nil) (next s {st' with depth:=st'.depth-1})=_;rw[Oi,dp];rfl
     rw[M];exact⟨_,rfl,R,Kg.trans K3.out F.out.1,_,_,F.out.2⟩
    ·have HC:=Aa hc;have cj:=fL.out (m+1) (by have:=a.out.mn;omega) st' wr _ _ dQ.out a.out.ok (by rw[dp];omega) (by rw[a.out.fwd.loops];exact hl) (by have:=a.out.fuel;omega);have e1:(st'.t.kind==DC)=false:=by simpa using hc
     have dW:=Aa cj;clear cj hc;go_wp2_with fail;refine dW.out.mono ?_;rintro e w2 ho;cases hx:stmt s (m+1) st' with
     |bad k pos=>
      rw[hx]at ho;obtain⟨gf,rfl,hF⟩:=Bn hB hg a.out.kg ho;have HX:=Aa hx;clear hx;go_wp2;have M:((FA s n (inner s st)).bind λb st=>AQ.ok b (next s {st with depth:=st.depth-1}))= .bad k pos:=by rw[a.out.eq,FA,Ai HC.out,HX.out];rfl
      rw[M];exact⟨rfl,gf,rfl,hF⟩
     |ok x X=>
      rw[hx]at ho;obtain⟨v,rfl,⟨lT,rfl,cy,⟨Y,Z,m_,t_,d,f,j,l,o,q,o_,y,z,A,C,D,E,iA⟩,da⟩,bU,lU,iB,h2⟩:=ho;have S:=YU a.out.ok (by rw[dp];omega) (by rw[a.out.fwd.loops];exact hl) hx;have iC:=S.size;have iD:=MF x;have ji:left s X<left s st':=by omega
      have dX:Q<wr.heap.size:=a.out.sl.lt rfl;have bP:Q≠g:=λe=>a.out.sl.bK a.out.row (by decide) (by rw[e];rfl);have fc:=a.out.sl.kept bU (λb T=>by
       injection T with T;simp only at T;subst T;rintro(T|T)
       ·exact bP T
       ·omega)
      obtain⟨dd,bV⟩:=zp2 bU.size a.out.kg.size;subst iA;obtain⟨fd,bQ⟩:∃L:List Value,[vs Y,.int .i64 Z,.int .i64 m_,.bool t_,vs d,.int .i64 f,vs j,.int .i64 l,vs o,.int .i64 q,.bool o_,.slice y z A,.slice C D E]=L:=⟨_,rfl⟩;rw[bQ]at da;have dF:=fc.alloc (.cells #[vs Y,.int .i64 Z,.int .i64 m_,.bool t_,vs d,.int .i64 f,vs j,.int .i64 l,vs o,.int .i64 q,.bool o_,.slice y z A,.slice C D E] 220);have q1:w.heap.size<=(w2.alloc (.cells #[vs Y,.int .i64 Z,.int .i64 m_,.bool t_,vs d,.int .i64 f,vs j,.int .i64 l,vs o,.int .i64 q,.bool o_,.slice y z A,.slice C D E] 220)).heap.size:=by simp;omega
      have q2:=C9 w2 [vs Y,.int .i64 Z,.int .i64 m_,.bool t_,vs d,.int .i64 f,vs j,.int .i64 l,vs o,.int .i64 q,.bool o_,.slice y z A,.slice C D E] 220;have q3:∀u∈ [vs Y,.int .i64 Z,.int .i64 m_,.bool t_,vs d,.int .i64 f,vs j,.int .i64 l,vs o,.int .i64 q,.bool o_,.slice y z A,.slice C D E],u.oneCell'=true:=by intro u hu;simp at hu;rcases hu with rfl|rfl|rfl|rfl|rfl|rfl|rfl|rfl|rfl|rfl|rfl|rfl|rfl<;>rfl
      have q4:done.length+1<=maxLen:=by unfold maxLen;omega
      have q5:(done.length+1)*168<=140737488355328:=by omega
      have R:∀(g2 H:Nat) (w3:World),Sl (λb=>w.heap.size<=b) w3 220 13 (.slice (some ⟨g2,0,none⟩) (done.length+1) H) (done.length+1) (cs++fd)->
        Ac (λb=>(Value.slice (some ⟨Q,0,none⟩) done.length K).ownBlock=some b\/(w2.alloc (.cells #[vs Y,.int .i64 Z,.int .i64 m_,.bool t_,vs d,.int .i64 f,vs j,.int .i64 l,vs o,.int .i64 q,.bool o_,.slice y z A,.slice C D E] 220)).heap.size<=b)
         (w2.alloc (.cells #[vs Y,.int .i64 Z,.int .i64 m_,.bool t_,vs d,.int .i64 f,vs j,.int .i64 l,vs o,.int .i64 q,.bool o_,.slice y z A,.slice C D E] 220)) w3->
        ((Value.slice (some ⟨Q,0,none⟩) done.length K).ownBlock=some g2\/g2=(w2.alloc (.cells #[vs Y,.int .i64 Z,.int .i64 m_,.bool t_,vs d,.int .i64 f,vs j,.int .i64 l,vs o,.int .i64 q,.bool o_,.slice y z A,.slice C D E] 220)).heap.size)->
        tH B ea g gp bm s w (inner s st) n (left s X) (.slice (some ⟨g2,0,none⟩) (done.length+1) H) w3 X (done.app x) (m+1) (cs++fd) g2 H iB:=by
       have lY:(w2.alloc (.cells #[vs Y,.int .i64 Z,.int .i64 m_,.bool t_,vs d,.int .i64 f,vs j,.int .i64 l,vs o,.int .i64 q,.bool o_,.slice y z A,.slice C D E] 220)).heap.size=w2.heap.size+1:=by simp
       have V:=h2.alloc (.cells #[vs Y,.int .i64 Z,.int .i64 m_,.bool t_,vs d,.int .i64 f,vs j,.int .i64 l,vs o,.int .i64 q,.bool o_,.slice y z A,.slice C D E] 220);have dG:Ac (λb=>w2.heap.size<=b) w2 (w2.alloc (.cells #[vs Y,.int .i64 Z,.int .i64 m_,.bool t_,vs d,.int .i64 f,vs j,.int .i64 l,vs o,.int .i64 q,.bool o_,.slice y z A,.slice C D E] 220)):=zAr.alloc (Ab _) _;generalize (w2.alloc (.cells #[vs Y,.int .i64 Z,.int .i64 m_,.bool t_,vs d,.int .i64 f,vs j,.int .i64 l,vs o,.int .i64 q,.bool o_,.slice y z A,.slice C D E] 220))=W at*;intro g2 H w3 bW N U;have el:(done.app x).length=done.length+1:=by rw[Az.fP,cy]
       obtain⟨lZ,l7,l8⟩:=zp3 a.out.fuel a.out.len a.out.mn;have dH:∀b,b≠Q->b<W.heap.size->¬((Value.slice (some ⟨Q,0,none⟩) done.length K).ownBlock=some b\/W.heap.size<=b):=by
        intro b I h2;rintro(h3|h3)
        ·injection h3 with h3;exact I h3.symm
        ·omega
       have k3:Kg g w w3:=by
        have k1:Kg g w W:=Kg.trans (Kg.trans a.out.kg bU) (dG.mono (λb T=>.inr T));refine Ac.trans k1 (N.mono (λb T=>.inr ?_));rcases T with T|T
        ·exact a.out.sl.2 b T
        ·omega
       have bR:∀(k:Nat) cs,(w.heap.size<=k/\k≠Q/\k<W.heap.size)->AF W k 220 cs->w3.heap[k]?=W.heap[k]?:=λk cs G P=>N.block k (dH k G.2.1 G.2.2);have fx:∀k,k<w3.heap.size->(w.heap.size<=k/\k≠Q/\k<W.heap.size)->(w.heap.size<=k/\k≠g2):=λk _ G=>⟨G.1,by
        rcases U with I|I
        ·injection I with I;simp only at I;subst I;exact G.2.1
        ·rw[I];omega⟩
       refine⟨Ab _,by omega,by omega,?_,S.fwd.ok,a.out.fwd.trans S.fwd,by rw[el];omega,k3,V.row.kept N (dH g (λe=>bP e.symm) V.row.lt),V.bJ.dU N (λb cs P=>dH b (λe=>by
        have s4:=dF;exact s4.bK (e▸P) (by decide) rfl) P.lt),by rw[el],by rw[el];exact bW,?_⟩
       ·rw[a.out.eq,FA,Ai HC.out,hx];show((FA s (m+1) X).map (λr=>x.app r)).map (λr=>done.app r)=_;cases FA s (m+1) X with
        |ok r fy=>show AQ.ok (done.app (x.app r)) fy=AQ.ok ((done.app x).app r) fy;rw[If]
        |bad e p=>rfl
       ·have p1:=A5.mono (N':=λk=>w.heap.size<=k/\k≠Q/\k<W.heap.size) (λk G hN=>⟨hN.1,hN.2,by omega⟩) _ _ a.out.nz;have p2:=A5.kept (w':=W) (λk cs G P=>by
         have I:k<wr.heap.size:=P.lt;have h2:k≠g:=P.cZ a.out.row (by decide);exact(dG.block k (by omega)).trans (In bU I h2)) _ _ p1
        have p3:=A5.mono fx _ _ (A5.kept bR _ _ p2);have r1:=A5.mono (N':=λk=>w.heap.size<=k/\k≠Q/\k<W.heap.size) (λk G hN=>⟨by omega,by omega,by omega⟩) _ _ da;have r2:=A5.kept (w':=W) (λk cs G P=>dG.block k (by have:=P.lt;omega)) _ _ r1;have r3:=A5.mono fx _ _ (A5.kept bR _ _ r2);exact A5.app _ _ _ _ p3 r3
      obtain⟨HF,iF,Q1,Q2,Q3,fB⟩:=zq6 R dF q1 q2 q3 bQ;have mz:=a.out.ghost;clear R dF q1 q2 q3 fc da h2 S iD iC dd bV hx dX bP bQ;unfold vs at*;go_wp2_with (at_builtin;go_must (refine DA underlying147 gI ik iu iw rfl (by decide) iF.out Q1.out rfl _ _ rfl rfl ⟨w2.heap.size,0,none⟩ 1 1 [.string ⟨Y.toArray⟩,.int .i64 Z,.int .i64 m_,.bool t_,.string ⟨d.toArray⟩,.int .i64 f,.string ⟨j.toArray⟩,.int .i64 l,.string ⟨o.toArray⟩,.int .i64 q,.bool o_,.slice y z A,.slice C D E] rfl rfl Q2.out Q3.out q4 q5 (Ci _) ?_;intro g2 H w3 bW N U;have iG:=Aa bW;have iH:=Aa N;have fC:=Aa U;clear bW N U));go_roundg (left s X)
      case measure=>omega
      case rel=>exact⟨_,_,_,_,_,_,_,HF.out g2 H w3 (by rw[←fB.out];exact iG.out) iH.out fC.out⟩
 ·have hw:want s Cx st= .bad D9 st.t.pos:=by unfold want fail;rw[Ai G]
  have e2:block s (n+1) st= .bad D9 st.t.pos:=by unfold block;rw[Ai (by rintro⟨x,_⟩;exact G x),hw];rfl
  rw[e2];have c:=Dd h Cx;rw[hw]at c;have HW:=Aa c;have e1:(st.t.kind==Cx)=false:=by simpa using G
  clear c e2 hw G h bX dJ bT ok;unfold vs at*;go_enter func117,ntmps117;go_wp2_with fail;refine HW.out.mono ?_;rintro e w1 ⟨gf,rfl,hF⟩;go_wp2;exact⟨rfl,gf,rfl,hF⟩
end
abbrev iL:List Value:=[vs [],.int .i64 0,.int .i64 0,.bool false,vs [],.int .i64 0,vs [],.int .i64 0,vs [],.int .i64 0,.bool false,.slice none 0 0,.slice none 0 0]
structure Fu (B:Nat) (ea:Nat->Addr) (g gp bm:Nat) (vd:Value) (s:Ah) (be:PS) (w0:World) (bK:Value) (st:PS) (w:World) (wp:Value) (R C:Nat) (cs ds:List Value):Prop where
 base:DR B ea w0 g gp bm vd bK s be
 decls:st.decls=be.decls
 bI:st.bI=be.bI
 rules:st.rules=be.rules
 i:st.i<=s.length
 kg:Kg g w0 w
 row:AF w g 190 (Dv s st gp wp)
 bJ:IY B ea w wp st.bJ
 dP:AF w R 220 cs
 bV:AF w C 220 ds
 qC:w0.heap.size<=R
 qD:w0.heap.size<=C
 ne:R≠C
section
variable {B:Nat}{ea:Nat->Addr}{w w0:World}{g gp bm R C:Nat}{vd wp bK:Value}{s:Ah}{st be:PS}{cs ds:List Value}
theorem Fu.rd (h:Fu B ea g gp bm vd s be w0 bK st w wp R C cs ds):DR B ea w g gp bm vd wp s st:=h.base.later h.kg h.row h.decls h.bI h.rules h.bJ h.i
theorem Fu.start (h:DR B ea w g gp bm vd wp s st) (ds:List Value):
  Fu B ea g gp bm vd s st w wp st ((w.alloc (.cells #[vs [],.int .i64 0,.int .i64 0,.bool false,vs [],.int .i64 0,vs [],.int .i64 0,vs [],.int .i64 0,.bool false,.slice none 0 0,.slice none 0 0] 220)).alloc (.cells ds.toArray 220)) wp w.heap.size (w.heap.size+1) [vs [],.int .i64 0,.int .i64 0,.bool false,vs [],.int .i64 0,vs [],.int .i64 0,vs [],.int .i64 0,.bool false,.slice none 0 0,.slice none 0 0] ds:=by
 have a:=(h.alloc (.cells #[vs [],.int .i64 0,.int .i64 0,.bool false,vs [],.int .i64 0,vs [],.int .i64 0,vs [],.int .i64 0,.bool false,.slice none 0 0,.slice none 0 0] 220)).alloc (.cells ds.toArray 220);have e:(w.alloc (.cells #[vs [],.int .i64 0,.int .i64 0,.bool false,vs [],.int .i64 0,vs [],.int .i64 0,vs [],.int .i64 0,.bool false,.slice none 0 0,.slice none 0 0] 220)).heap.size=w.heap.size+1:=by simp
 have b:=AF.new (w.alloc (.cells #[vs [],.int .i64 0,.int .i64 0,.bool false,vs [],.int .i64 0,vs [],.int .i64 0,vs [],.int .i64 0,.bool false,.slice none 0 0,.slice none 0 0] 220)) 220 ds;rw[e]at b;exact⟨h,rfl,rfl,rfl,h.i,((Ac.refl _ w).alloc (.inr (Ab _)) _).alloc (.inr (by simp)) _,a.row,a.bJ,(AF.new w 220 [vs [],.int .i64 0,.int .i64 0,.bool false,vs [],.int .i64 0,vs [],.int .i64 0,vs [],.int .i64 0,.bool false,.slice none 0 0,.slice none 0 0]).alloc _,b,Ab _,by omega,by omega⟩
theorem Fu.call (h:Fu B ea g gp bm vd s be w0 bK st w wp R C cs ds) {w':World}{st':PS}{b a:Value}(c:Kg g w w') (d:DR B ea w' g gp bm b a s st') (f:st'.decls=st.decls) (j:st'.bI=st.bI) (e:st'.rules=st.rules):
  Fu B ea g gp bm vd s be w0 bK st' w' a R C cs ds:=
 ⟨h.base,f.trans h.decls,j.trans h.bI,e.trans h.rules,d.i,Kg.trans h.kg c,d.row,d.bJ,(In c h.dP.lt (h.dP.cZ h.row (by decide))).trans h.dP,(In c h.bV.lt (h.bV.cZ h.row (by decide))).trans h.bV,h.qC,h.qD,h.ne⟩
theorem Fu.ik (h:Fu B ea g gp bm vd s be w0 bK st w wp R C cs ds) (i:Nat) (u:Value):Fu B ea g gp bm vd s be w0 bK st (w.setCell ⟨R,i,none⟩ u) wp R C (cs.set i u) ds:=
 ⟨h.base,h.decls,h.bI,h.rules,h.i,h.kg.setCell (p:=⟨R,i,none⟩) (.inr h.qC) u,h.row.dK (h.row.cZ h.dP (by decide)) u,h.bJ.dU (Ac.one w ⟨R,i,none⟩ u) (λb cs a e=>a.cZ h.dP (by decide) e),h.dP.bM i u,h.bV.dK (λe=>h.ne e.symm) u,h.qC,h.qD,h.ne⟩
theorem Fu.fB (h:Fu B ea g gp bm vd s be w0 bK st w wp R C cs ds) (i:Nat) (u:Value):Fu B ea g gp bm vd s be w0 bK st (w.setCell ⟨C,i,none⟩ u) wp R C cs (ds.set i u):=
 ⟨h.base,h.decls,h.bI,h.rules,h.i,h.kg.setCell (p:=⟨C,i,none⟩) (.inr h.qD) u,h.row.dK (h.row.cZ h.bV (by decide)) u,h.bJ.dU (Ac.one w ⟨C,i,none⟩ u) (λb cs a e=>a.cZ h.bV (by decide) e),h.dP.dK h.ne u,h.bV.bM i u,h.qC,h.qD,h.ne⟩
abbrev copied (w:World) (R:Nat) (d e f h i j k l m n a b c:Value):World:=
 ((((((((((((w.setCell ⟨R,0,none⟩ d).setCell ⟨R,1,none⟩ e).setCell ⟨R,2,none⟩ f).setCell ⟨R,3,none⟩ h).setCell ⟨R,4,none⟩ i).setCell ⟨R,5,none⟩ j).setCell ⟨R,6,none⟩ k).setCell ⟨R,7,none⟩ l).setCell ⟨R,8,none⟩ m).setCell ⟨R,9,none⟩ n).setCell ⟨R,10,none⟩ a).setCell ⟨R,11,none⟩ b).setCell ⟨R,12,none⟩ c
theorem Fu.copy (h:Fu B ea g gp bm vd s be w0 bK st w wp R C iL ds) (d e f i j k l m n o a b c:Value):
  Fu B ea g gp bm vd s be w0 bK st (copied w R d e f i j k l m n o a b c) wp R C [d,e,f,i,j,k,l,m,n,o,a,b,c] ds:=
 ((((((((((((h.ik 0 d).ik 1 e).ik 2 f).ik 3 i).ik 4 j).ik 5 k).ik 6 l).ik 7 m).ik 8 n).ik 9 o).ik 10 a).ik 11 b).ik 12 c
theorem BO {t:TypeId}{d e f i j k l m n o a b c:Value}(h:AF w C t [d,e,f,i,j,k,l,m,n,o,a,b,c]):
  w.cell? ⟨C,0,none⟩=some d/\w.cell? ⟨C,1,none⟩=some e/\w.cell? ⟨C,2,none⟩=some f/\w.cell? ⟨C,3,none⟩=some i/\w.cell? ⟨C,4,none⟩=some j/\w.cell? ⟨C,5,none⟩=some k/\w.cell? ⟨C,6,none⟩=some l/\
  w.cell? ⟨C,7,none⟩=some m/\w.cell? ⟨C,8,none⟩=some n/\w.cell? ⟨C,9,none⟩=some o/\w.cell? ⟨C,10,none⟩=some a/\w.cell? ⟨C,11,none⟩=some b/\w.cell? ⟨C,12,none⟩=some c:=
 ⟨h.cell 0,h.cell 1,h.cell 2,h.cell 3,h.cell 4,h.cell 5,h.cell 6,h.cell 7,h.cell 8,h.cell 9,h.cell 10,h.cell 11,h.cell 12⟩
theorem Kt (w:World):(Go.sizeOf 220).run prog w= .ok 13 w:=by kernel_rfl
theorem MK (w:World):(isAgg 220).run prog w= .ok true w:=by kernel_rfl
theorem LV (w0 w':World) (p:D4):Me w0 w' (.bN p .nil) (.agg (Lr p).toArray):=
 ⟨Lr p,rfl,rfl,⟨_,_,_,_,_,_,_,_,_,_,_,_,_,_,_,_,_,rfl⟩,⟨[],by simp,rfl⟩⟩
end
abbrev rhs {a b:Ah} (_:a=b):Ah:=b
def Fu.copy_ {B:Nat} {ea:Nat->Addr} {g gp bm:Nat} {vd:Value} {s:Ah} {d st:PS} {w0 w:World} {e wp:Value} {R C:Nat} {f i j k l m n o p q a b c:Value} (h:Fu B ea g gp bm vd s d w0 e st w wp R C iL [f,i,j,k,l,m,n,o,p,q,a,b,c]):=
 h.copy f i j k l m n o p q a b c
section
variable {B:Nat}{ea:Nat->Addr}{w:World}{g gp bm:Nat}{vd wp:Value}{s:Ah}{st:PS}
theorem oU (h:DR B ea w g gp bm vd wp s st) (ok:st.Ok s) (hk:st.t.kind=KP):
  Calls prog 134 #[.pointer (some ⟨g,0,none⟩)] w λe w'=>DX B ea w g gp bm s ((name s false (next s st)).bind λq st=>(want s AP (take s CJ st).2).bind λ_ Y=>.ok (.bN (.put q (take s CJ st).1) .nil) Y) (Me w) e w':=by
 have Z:=Fu.start h [vs KP,.int .i64 0,.int .i64 0,.bool false,vs [],.int .i64 0,vs [],.int .i64 0,vs [],.int .i64 0,.bool false,.slice none 0 0,.slice none 0 0];have hn:=Er Z.rd;obtain⟨_,_,c2,_⟩:=AZ (h.alloc (.cells #[vs [],.int .i64 0,.int .i64 0,.bool false,vs [],.int .i64 0,vs [],.int .i64 0,vs [],.int .i64 0,.bool false,.slice none 0 0,.slice none 0 0] 220)).row;have hB:=h.env.size;have hg:=h.g0;rw[hk]at c2;obtain⟨Q0,HN,be⟩:=zq3 Z hn ok;clear Z hn h ok hk;unfold vs at*;go_enter IG,G2;go_wp2_with fail;refine HN.out.mono ?_;rintro e w1 ⟨rfl,K,h1⟩;have L:=Q0.out.call K h1 rfl rfl rfl;have M:=Ce be.out;clear K h1;have n:=Js L.rd false;obtain⟨A,e1,C,D,E,F,G,H,I,J,i,l,m⟩:=BO L.bV;have z:=λj=>L.bV.frozen j;obtain⟨N,bJ,O⟩:=zq3 L n M;clear L n M A e1 C D E F G H I J i l m z;go_wp2_with fail;refine bJ.out.mono ?_;rintro e bY r;cases b:name s false (next s st)with
 |bad k pos=>
  rw[b]at r;obtain⟨gf,rfl,hF⟩:=Bn hB hg N.out.kg r;have a:=Aa b;clear b;go_wp2;refine⟨rfl,?_⟩;rw[a.out];exact⟨gf,rfl,hF⟩
 |ok n0 st1=>
  rw[b]at r;obtain⟨v,rfl,rfl,u,bR,bS,n⟩:=r;have o:=(E7 O.out b).1;have P:=o.ok;have V:=N.out.call u n o.decls o.bI o.rules;obtain⟨A,e1,C,D,E,F,G,H,I,J,i,l,m⟩:=BO V.bV;have z:=λj=>V.bV.frozen j;have q2:=V.fB 1 (.int .i64 n0);have a:=Aa b;clear u n b V o;have EZ:=True.intro;have R:=Gr q2.rd CJ;obtain⟨QT,HT,bT⟩:=zq3 q2 R P;clear q2 R P;unfold vs at*;go_wp2_with fail;clear A e1 C D E F G H I J i l m z;refine HT.out.mono ?_;rintro e wt ⟨rfl,S,R⟩;have W:(take s CJ st1).2.decls=st1.decls/\(take s CJ st1).2.bI=st1.bI/\(take s CJ st1).2.rules=st1.rules:=by unfold take;split<;>exact⟨rfl,rfl,rfl⟩
  have X:=QT.out.call S R W.1 W.2.1 W.2.2;obtain⟨A,e1,C,D,E,F,G,H,I,J,i,l,m⟩:=BO X.bV;have z:=λj=>X.bV.frozen j;have x:=X.fB 3 (.bool (take s CJ st1).1);clear S R X W;have T:=Dd x.rd AP;obtain⟨QW,HW⟩:=zq2 x T;clear x T;unfold vs at*;go_wp2_with fail;clear A e1 C D E F G H I J i l m z;refine HW.out.mono ?_;rintro e ww r;cases c:want s AP (take s CJ st1).2 with
  |bad k pos=>
   rw[c]at r;obtain⟨gf,rfl,hF⟩:=Bn hB hg QW.out.kg r;have d:=Aa c;clear c;go_wp2;refine⟨rfl,?_⟩;rw[a.out];show DX _ _ _ _ _ _ _ ((want s AP (take s CJ st1).2).bind _) _ _ _;rw[d.out];exact⟨gf,rfl,hF⟩
  |ok tt cw=>
   rw[c]at r;obtain⟨v,rfl,rfl,U,cy,cz,T⟩:=r;have f:=(BH c).2.2;have p:=QW.out.call U T (by rw[f];rfl) (by rw[f];rfl) (by rw[f];rfl);obtain⟨A,e1,C,D,E,F,G,H,I,J,i,l,m⟩:=BO p.bV;obtain⟨f0,f1,f2,f3,f4,f5,f6,f7,f8,f9,cB,cZ,da⟩:=BO p.dP;have z:=λj=>p.bV.frozen j;have y:=λj=>p.dP.frozen j;have q:=p.copy_;obtain⟨d,Q⟩:=zq2 c q;clear U T c p q f;unfold IW vs at*;go_wp2;refine AB (AT (cs:=[_,_,_,_,_,_,_,_,_,_,_,_,_]) GF MK Kt rfl Q.out.dP) rfl ?_;rw[a.out];show DX _ _ _ _ _ _ _ ((want s AP (take s CJ st1).2).bind _) _ _ _;rw[d.out];exact⟨_,rfl,LV _ _ _,Q.out.kg,_,_,Q.out.rd⟩
theorem eE (h:DR B ea w g gp bm vd wp s st) (ok:st.Ok s) (hk:st.t.kind=Dq):
  Calls prog 134 #[.pointer (some ⟨g,0,none⟩)] w λe w'=>DX B ea w g gp bm s ((name s false (next s st)).bind λq st=>(name s false st).bind λp st=>(want s AP (take s CJ st).2).bind λ_ bS=>.ok (.bN (.shift q p (take s CJ st).1) .nil) bS) (Me w) e w':=by
 have q0:=Fu.start h [vs Dq,.int .i64 0,.int .i64 0,.bool false,vs [],.int .i64 0,vs [],.int .i64 0,vs [],.int .i64 0,.bool false,.slice none 0 0,.slice none 0 0];have hn:=Er q0.rd;obtain⟨_,_,c2,_⟩:=AZ (h.alloc (.cells #[vs [],.int .i64 0,.int .i64 0,.bool false,vs [],.int .i64 0,vs [],.int .i64 0,vs [],.int .i64 0,.bool false,.slice none 0 0,.slice none 0 0] 220)).row;have hB:=h.env.size;have hg:=h.g0;rw[hk]at c2;obtain⟨Q0,HN,bX⟩:=zq3 q0 hn ok;clear q0 hn h ok hk;unfold vs at*;go_enter IG,G2;go_wp2_with fail;refine HN.out.mono ?_;rintro e w1 ⟨rfl,P,h1⟩;have R:=Q0.out.call P h1 rfl rfl rfl;have S:=Ce bX.out;clear P h1;have x:=Js R.rd false;obtain⟨D,e1,E,F,G,H,I,J,K,L,d,f,i⟩:=BO R.bV;have z:=λj=>R.bV.frozen j;obtain⟨T,bY,U⟩:=zq3 R x S;clear R x S D e1 E F G H I J K L d f i z;go_wp2_with fail;refine bY.out.mono ?_;rintro e dI r;cases l:name s false (next s st)with
 |bad k pos=>
  rw[l]at r;obtain⟨gf,rfl,hF⟩:=Bn hB hg T.out.kg r;have a:=Aa l;clear l;go_wp2;refine⟨rfl,?_⟩;rw[a.out];exact⟨gf,rfl,hF⟩
 |ok n0 st1=>
  rw[l]at r;obtain⟨v,rfl,rfl,M,cz,cB,x⟩:=r;have A:=(E7 U.out l).1;have V:=A.ok;have p0:=T.out.call M x A.decls A.bI A.rules;obtain⟨D,e1,E,F,G,H,I,J,K,L,d,f,i⟩:=BO p0.bV;have z:=λj=>p0.bV.frozen j;have q2:=p0.fB 1 (.int .i64 n0);have a:=Aa l;clear M x l p0 A;have W:=Js q2.rd false;obtain⟨X,ci,Y⟩:=zq3 q2 W V;clear q2 W V;unfold vs at*;go_wp2_with fail;clear D e1 E F G H I J K L d f i z;refine ci.out.mono ?_;rintro e dK r;cases m:name s false st1 with
  |bad k pos=>
   rw[m]at r;obtain⟨gf,rfl,hF⟩:=Bn hB hg X.out.kg r;have c:=Aa m;clear m;go_wp2;refine⟨rfl,?_⟩;rw[a.out];show DX _ _ _ _ _ _ _ ((name s false st1).bind _) _ _ _;rw[c.out];exact⟨gf,rfl,hF⟩
  |ok n1 b=>
   rw[m]at r;obtain⟨v,rfl,rfl,N,cZ,da,Z⟩:=r;have C:=(E7 Y.out m).1;have be:=C.ok;have p1:=X.out.call N Z C.decls C.bI C.rules;obtain⟨D,e1,E,F,G,H,I,J,K,L,d,f,i⟩:=BO p1.bV;have z:=λj=>p1.bV.frozen j;have q3:=p1.fB 2 (.int .i64 n1);have c:=Aa m;clear N Z m p1 C;have ht:=Gr q3.rd CJ;obtain⟨QT,HT,dd⟩:=zq3 q3 ht be;clear q3 ht be;unfold vs at*;go_wp2_with fail;clear D e1 E F G H I J K L d f i z;refine HT.out.mono ?_;rintro e wt ⟨rfl,bK,ht⟩;have tp:(take s CJ b).2.decls=b.decls/\(take s CJ b).2.bI=b.bI/\(take s CJ b).2.rules=b.rules:=by unfold take;split<;>exact⟨rfl,rfl,rfl⟩
   have p9:=QT.out.call bK ht tp.1 tp.2.1 tp.2.2;obtain⟨D,e1,E,F,G,H,I,J,K,L,d,f,i⟩:=BO p9.bV;have z:=λj=>p9.bV.frozen j;have O:=p9.fB 3 (.bool (take s CJ b).1);clear bK ht p9 tp;have hw:=Dd O.rd AP;obtain⟨QW,HW⟩:=zq2 O hw;clear O hw;unfold vs at*;go_wp2_with fail;clear D e1 E F G H I J K L d f i z;refine HW.out.mono ?_;rintro e ww r;cases n:want s AP (take s CJ b).2 with
   |bad k pos=>
    rw[n]at r;obtain⟨gf,rfl,hF⟩:=Bn hB hg QW.out.kg r;have o:=Aa n;clear n;go_wp2;refine⟨rfl,?_⟩;rw[a.out];show DX _ _ _ _ _ _ _ ((name s false st1).bind _) _ _ _;rw[c.out];show DX _ _ _ _ _ _ _ ((want s AP (take s CJ b).2).bind _) _ _ _;rw[o.out];exact⟨gf,rfl,hF⟩
   |ok tt dQ=>
    rw[n]at r;obtain⟨v,rfl,rfl,bM,dR,dS,hw⟩:=r;have u:=(BH n).2.2;have p:=QW.out.call bM hw (by rw[u];rfl) (by rw[u];rfl) (by rw[u];rfl);obtain⟨D,e1,E,F,G,H,I,J,K,L,d,f,i⟩:=BO p.bV;obtain⟨f0,f1,f2,f3,f4,f5,f6,f7,f8,f9,dU,dV,dW⟩:=BO p.dP;have z:=λj=>p.bV.frozen j;have y:=λj=>p.dP.frozen j;have q:=p.copy_;obtain⟨o,Q⟩:=zq2 n q;clear bM hw n p q u;unfold IW vs at*;go_wp2;refine AB (AT (cs:=[_,_,_,_,_,_,_,_,_,_,_,_,_]) GF MK Kt rfl Q.out.dP) rfl ?_;rw[a.out];show DX _ _ _ _ _ _ _ ((name s false st1).bind _) _ _ _;rw[c.out];show DX _ _ _ _ _ _ _ ((want s AP (take s CJ b).2).bind _) _ _ _;rw[o.out];exact⟨_,rfl,LV _ _ _,Q.out.kg,_,_,Q.out.rd⟩
theorem T0 {K:Ah}{F:Int->D4}(hc:K=Et/\F= .cu\/K=Io/\F= .dV) (h:DR B ea w g gp bm vd wp s st) (ok:st.Ok s) (V:st.t.kind=K):
  Calls prog 134 #[.pointer (some ⟨g,0,none⟩)] w λe w'=>DX B ea w g gp bm s ((name s false (next s st)).bind λq st=>(want s AP st).bind λ_ W=>.ok (.bN (F q) .nil) W) (Me w) e w':=by
 rcases hc with⟨rfl,rfl⟩|⟨rfl,rfl⟩
 all_goals
  have I:=Fu.start h [vs (rhs V),.int .i64 0,.int .i64 0,.bool false,vs [],.int .i64 0,vs [],.int .i64 0,vs [],.int .i64 0,.bool false,.slice none 0 0,.slice none 0 0];dsimp only[rhs]at I;have hn:=Er I.rd;obtain⟨_,_,c2,_⟩:=AZ (h.alloc (.cells #[vs [],.int .i64 0,.int .i64 0,.bool false,vs [],.int .i64 0,vs [],.int .i64 0,vs [],.int .i64 0,.bool false,.slice none 0 0,.slice none 0 0] 220)).row;have hB:=h.env.size;have hg:=h.g0;rw[V]at c2;obtain⟨Q0,HN,X⟩:=zq3 I hn ok;clear I hn h ok V;unfold vs at*;go_enter IG,G2;go_wp2_with fail;refine HN.out.mono ?_;rintro e w1 ⟨rfl,x,h1⟩;have A:=Q0.out.call x h1 rfl rfl rfl;have C:=Ce X.out;clear x h1;have i:=Js A.rd false;obtain⟨J,e1,L,M,N,O,P,R,S,T,m,n,o⟩:=BO A.bV;have z:=λj=>A.bV.frozen j;obtain⟨D,Y,E⟩:=zq3 A i C;clear A i C J e1 L M N O P R S T m n o z;go_wp2_with fail;refine Y.out.mono ?_;rintro e bU r;cases b:name s false (next s st)with
  |bad k pos=>
   rw[b]at r;obtain⟨gf,rfl,hF⟩:=Bn hB hg D.out.kg r;have a:=Aa b;clear b;go_wp2;refine⟨rfl,?_⟩;rw[a.out];exact⟨gf,rfl,hF⟩
  |ok n0 st1=>
   rw[b]at r;obtain⟨v,rfl,rfl,u,bM,bO,i⟩:=r;have l:=(E7 E.out b).1;have bX:=l.ok;have U:=D.out.call u i l.decls l.bI l.rules;obtain⟨J,e1,L,M,N,O,P,R,S,T,m,n,o⟩:=BO U.bV;have z:=λj=>U.bV.frozen j;have q2:=U.fB 1 (.int .i64 n0);have a:=Aa b;clear u i b U l;have EZ:=True.intro;have Z:=q2.fB 3 (.bool false);clear q2;have G:=Dd Z.rd AP;obtain⟨QW,HW⟩:=zq2 Z G;clear Z G;unfold vs at*;go_wp2_with fail;clear J e1 L M N O P R S T m n o z;refine HW.out.mono ?_;rintro e ww r;cases c:want s AP st1 with
   |bad k pos=>
    rw[c]at r;obtain⟨gf,rfl,hF⟩:=Bn hB hg QW.out.kg r;have d:=Aa c;clear c;go_wp2;refine⟨rfl,?_⟩;rw[a.out];show DX _ _ _ _ _ _ _ ((want s AP st1).bind _) _ _ _;rw[d.out];exact⟨gf,rfl,hF⟩
   |ok tt bZ=>
    rw[c]at r;obtain⟨v,rfl,rfl,H,ci,cj,G⟩:=r;have f:=(BH c).2.2;have p:=QW.out.call H G (by rw[f];rfl) (by rw[f];rfl) (by rw[f];rfl);obtain⟨J,e1,L,M,N,O,P,R,S,T,m,n,o⟩:=BO p.bV;obtain⟨f0,f1,f2,f3,f4,f5,f6,f7,f8,f9,cw,cy,cz⟩:=BO p.dP;have z:=λj=>p.bV.frozen j;have y:=λj=>p.dP.frozen j;have q:=p.copy_;obtain⟨d,Q⟩:=zq2 c q;clear H G c p q f;unfold IW vs at*;go_wp2;refine AB (AT (cs:=[_,_,_,_,_,_,_,_,_,_,_,_,_]) GF MK Kt rfl Q.out.dP) rfl ?_;rw[a.out];show DX _ _ _ _ _ _ _ ((want s AP st1).bind _) _ _ _;rw[d.out];exact⟨_,rfl,LV _ _ _,Q.out.kg,_,_,Q.out.rd⟩
theorem XT {K:Ah}{F:Int->D4}(hc:K=Mo/\F= .inc\/K=Mq/\F= .dec) (h:DR B ea w g gp bm vd wp s st) (ok:st.Ok s) (V:st.t.kind=K):
  Calls prog 134 #[.pointer (some ⟨g,0,none⟩)] w λe w'=>DX B ea w g gp bm s ((name s true (next s st)).bind λv st=>(want s AP st).bind λ_ W=>.ok (.bN (F v) .nil) W) (Me w) e w':=by
 rcases hc with⟨rfl,rfl⟩|⟨rfl,rfl⟩
 all_goals
  have I:=Fu.start h [vs (rhs V),.int .i64 0,.int .i64 0,.bool false,vs [],.int .i64 0,vs [],.int .i64 0,vs [],.int .i64 0,.bool false,.slice none 0 0,.slice none 0 0];dsimp only[rhs]at I;have hn:=Er I.rd;obtain⟨_,_,c2,_⟩:=AZ (h.alloc (.cells #[vs [],.int .i64 0,.int .i64 0,.bool false,vs [],.int .i64 0,vs [],.int .i64 0,vs [],.int .i64 0,.bool false,.slice none 0 0,.slice none 0 0] 220)).row;have hB:=h.env.size;have hg:=h.g0;rw[V]at c2;obtain⟨Q0,HN,X⟩:=zq3 I hn ok;clear I hn h ok V;unfold vs at*;go_enter IG,G2;go_wp2_with fail;refine HN.out.mono ?_;rintro e w1 ⟨rfl,x,h1⟩;have A:=Q0.out.call x h1 rfl rfl rfl;have C:=Ce X.out;clear x h1;have i:=Js A.rd true;obtain⟨J,e1,L,M,N,O,P,R,S,T,m,n,o⟩:=BO A.bV;have z:=λj=>A.bV.frozen j;obtain⟨D,Y,E⟩:=zq3 A i C;clear A i C J e1 L M N O P R S T m n o z;go_wp2_with fail;refine Y.out.mono ?_;rintro e bT r;cases b:name s true (next s st)with
  |bad k pos=>
   rw[b]at r;obtain⟨gf,rfl,hF⟩:=Bn hB hg D.out.kg r;have a:=Aa b;clear b;go_wp2;refine⟨rfl,?_⟩;rw[a.out];exact⟨gf,rfl,hF⟩
  |ok n0 st1=>
   rw[b]at r;obtain⟨v,rfl,rfl,u,bM,bO,i⟩:=r;have l:=(E7 E.out b).1;have bW:=l.ok;have U:=D.out.call u i l.decls l.bI l.rules;obtain⟨J,e1,L,M,N,O,P,R,S,T,m,n,o⟩:=BO U.bV;have z:=λj=>U.bV.frozen j;have Z:=U.fB 1 (.int .i64 n0);have a:=Aa b;clear u i b U l;have EZ:=True.intro;have G:=Dd Z.rd AP;obtain⟨QW,HW⟩:=zq2 Z G;clear Z G;unfold vs at*;go_wp2_with fail;clear J e1 L M N O P R S T m n o z;refine HW.out.mono ?_;rintro e ww r;cases c:want s AP st1 with
   |bad k pos=>
    rw[c]at r;obtain⟨gf,rfl,hF⟩:=Bn hB hg QW.out.kg r;have d:=Aa c;clear c;go_wp2;refine⟨rfl,?_⟩;rw[a.out];show DX _ _ _ _ _ _ _ ((want s AP st1).bind _) _ _ _;rw[d.out];exact⟨gf,rfl,hF⟩
   |ok tt bY=>
    rw[c]at r;obtain⟨v,rfl,rfl,H,bZ,ci,G⟩:=r;have f:=(BH c).2.2;have p:=QW.out.call H G (by rw[f];rfl) (by rw[f];rfl) (by rw[f];rfl);obtain⟨J,e1,L,M,N,O,P,R,S,T,m,n,o⟩:=BO p.bV;obtain⟨f0,f1,f2,f3,f4,f5,f6,f7,f8,f9,cj,cu,cw⟩:=BO p.dP;have z:=λj=>p.bV.frozen j;have y:=λj=>p.dP.frozen j;have q:=p.copy_;obtain⟨d,Q⟩:=zq2 c q;clear H G c p q f;unfold IW vs at*;go_wp2;refine AB (AT (cs:=[_,_,_,_,_,_,_,_,_,_,_,_,_]) GF MK Kt rfl Q.out.dP) rfl ?_;rw[a.out];show DX _ _ _ _ _ _ _ ((want s AP st1).bind _) _ _ _;rw[d.out];exact⟨_,rfl,LV _ _ _,Q.out.kg,_,_,Q.out.rd⟩
theorem Vo {K:Ah}{F:D4}(S:K=Ja/\F= .drop\/K=Jb/\F= .bump) (h:DR B ea w g gp bm vd wp s st) (ok:st.Ok s) (x:st.t.kind=K):
  Calls prog 134 #[.pointer (some ⟨g,0,none⟩)] w λe w'=>DX B ea w g gp bm s ((want s AP (next s st)).bind λ_ A=>.ok (.bN F .nil) A) (Me w) e w':=by
 rcases S with⟨rfl,rfl⟩|⟨rfl,rfl⟩
 all_goals
  have r:=Fu.start h [vs (rhs x),.int .i64 0,.int .i64 0,.bool false,vs [],.int .i64 0,vs [],.int .i64 0,vs [],.int .i64 0,.bool false,.slice none 0 0,.slice none 0 0];dsimp only[rhs]at r;have D:=Er r.rd;obtain⟨_,_,c2,_⟩:=AZ (h.alloc (.cells #[vs [],.int .i64 0,.int .i64 0,.bool false,vs [],.int .i64 0,vs [],.int .i64 0,vs [],.int .i64 0,.bool false,.slice none 0 0,.slice none 0 0] 220)).row;have T:=h.env.size;have U:=h.g0;rw[x]at c2;obtain⟨V,W,C⟩:=zq3 r D ok;clear r D h ok x;unfold vs at*;go_enter IG,G2;go_wp2_with fail;refine W.out.mono ?_;rintro e w1 ⟨rfl,d,E⟩;have f:=V.out.call d E rfl rfl rfl;have X:=Ce C.out;clear d E;obtain⟨G,e1,H,I,J,L,M,N,O,P,i,l,m⟩:=BO f.bV;have z:=λj=>f.bV.frozen j;have n:=Dd f.rd AP;obtain⟨R,Y⟩:=zq2 f n;clear f n;unfold vs at*;go_wp2_with fail;clear G e1 H I J L M N O P i l m z;refine Y.out.mono ?_;rintro e ww u;cases a:want s AP (next s st)with
  |bad k pos=>
   rw[a]at u;obtain⟨gf,rfl,hF⟩:=Bn T U R.out.kg u;have b:=Aa a;clear a;go_wp2;refine⟨rfl,?_⟩;rw[b.out];exact⟨gf,rfl,hF⟩
  |ok tt Z=>
   rw[a]at u;obtain⟨v,rfl,rfl,o,be,bI,n⟩:=u;have c:=(BH a).2.2;have p:=R.out.call o n (by rw[c];rfl) (by rw[c];rfl) (by rw[c];rfl);obtain⟨G,e1,H,I,J,L,M,N,O,P,i,l,m⟩:=BO p.bV;obtain⟨f0,f1,f2,f3,f4,f5,f6,f7,f8,f9,bJ,bK,bL⟩:=BO p.dP;have z:=λj=>p.bV.frozen j;have y:=λj=>p.dP.frozen j;have q:=p.copy_;obtain⟨b,Q⟩:=zq2 a q;clear o n a p q c;unfold IW vs at*;go_wp2;refine AB (AT (cs:=[_,_,_,_,_,_,_,_,_,_,_,_,_]) GF MK Kt rfl Q.out.dP) rfl ?_;rw[b.out];exact⟨_,rfl,LV _ _ _,Q.out.kg,_,_,Q.out.rd⟩
end
section
variable {B:Nat}{ea:Nat->Addr}{w:World}{g gp bm:Nat}{vd wp:Value}{s:Ah}{st:PS}
theorem DG.later {N:Nat->Prop}{w w':World}{v:Value}{b:Az}(h:DG N w v b) (c:Kg g w w') {cs:List Value}(d:AF w g 190 cs):DG N w' v b:=
 h.kept (λk e _ a=>In c a.lt (a.cZ d (by decide)))
theorem DG.dK {N:Nat->Prop}{w:World}{v:Value}{b:Az}(h:DG N w v b) {C:Nat}(a:¬N C) (i:Nat) (u:Value):DG N (w.setCell ⟨C,i,none⟩ u) v b:=
 h.kept (λk c d _=>(Ac.one w ⟨C,i,none⟩ u).block k (λ(e:k=C)=>a (e▸d)))
theorem DG.fM {N:Nat->Prop}{w:World}{v:Value}{b:Az}(h:DG N w v b):∃g n c,v= .slice (some ⟨g,0,none⟩) n c:=by obtain⟨cs,⟨_,g,c,a⟩,_⟩:=h;exact⟨g,_,c,a⟩
theorem DG.copied {N:Nat->Prop}{w:World}{v:Value}{b:Az}(h:DG N w v b) {R:Nat}(a:¬N R) (f i j k l m n o p q c d e:Value):DG N (copied w R f i j k l m n o p q c d e) v b:=
 ((((((((((((h.dK a 0 f).dK a 1 i).dK a 2 j).dK a 3 k).dK a 4 l).dK a 5 m).dK a 6 n).dK a 7 o).dK a 8 p).dK a 9 q).dK a 10 c).dK a 11 d).dK a 12 e
theorem j8 (h:DR B ea w g gp bm vd wp s st) (d:st.t.kind≠KP) (f:st.t.kind≠Et) (i:st.t.kind≠Io) (j:st.t.kind≠Dq) (k:st.t.kind≠Mo) (l:st.t.kind≠Mq) (m:st.t.kind≠Ja)
  (n:st.t.kind≠Jb) (o:st.t.kind≠Jk) (b:st.t.kind≠Bf):
  Calls prog 134 #[.pointer (some ⟨g,0,none⟩)] w λe w'=>DX B ea w g gp bm s (fail D9 st) (Me w) e w':=by
 have c:=h.alloc (.cells #[vs [],.int .i64 0,.int .i64 0,.bool false,vs [],.int .i64 0,vs [],.int .i64 0,vs [],.int .i64 0,.bool false,.slice none 0 0,.slice none 0 0] 220);obtain⟨_,_,c2,_⟩:=AZ c.row;have a:=c.alloc (.cells #[vs st.t.kind,.int .i64 0,.int .i64 0,.bool false,vs [],.int .i64 0,vs [],.int .i64 0,vs [],.int .i64 0,.bool false,.slice none 0 0,.slice none 0 0] 220);have p:((w.alloc (.cells #[vs [],.int .i64 0,.int .i64 0,.bool false,vs [],.int .i64 0,vs [],.int .i64 0,vs [],.int .i64 0,.bool false,.slice none 0 0,.slice none 0 0] 220)).alloc
   (.cells #[vs st.t.kind,.int .i64 0,.int .i64 0,.bool false,vs [],.int .i64 0,vs [],.int .i64 0,vs [],.int .i64 0,.bool false,.slice none 0 0,.slice none 0 0] 220)).cell? ⟨6,0,none⟩=some (.iface 304 (.pointer (some (ea 2)))):=a.env.err 2 (by omega) (by omega)
 obtain⟨q,u,v⟩:=zp3 (Sz a 2) h.env.size h.g0;have r:Kg g w ((w.alloc (.cells #[vs [],.int .i64 0,.int .i64 0,.bool false,vs [],.int .i64 0,vs [],.int .i64 0,vs [],.int .i64 0,.bool false,.slice none 0 0,.slice none 0 0] 220)).alloc
   (.cells #[vs st.t.kind,.int .i64 0,.int .i64 0,.bool false,vs [],.int .i64 0,vs [],.int .i64 0,vs [],.int .i64 0,.bool false,.slice none 0 0,.slice none 0 0] 220)):=
  ((Ac.refl _ w).alloc (.inr (Ab _)) _).alloc (.inr (by simp)) _
 have e1:(st.t.kind==KP)=false:=by simpa using d
 have C:(st.t.kind==Et)=false:=by simpa using f
 have D:(st.t.kind==Io)=false:=by simpa using i
 have E:(st.t.kind==Dq)=false:=by simpa using j
 have F:(st.t.kind==Mo)=false:=by simpa using k
 have G:(st.t.kind==Mq)=false:=by simpa using l
 have H:(st.t.kind==Ja)=false:=by simpa using m
 have I:(st.t.kind==Jb)=false:=by simpa using n
 have J:(st.t.kind==Jk)=false:=by simpa using o
 have x:(st.t.kind==Bf)=false:=by simpa using b
 obtain⟨y,z⟩:=zq2 q r;clear q c a r h d f i j k l m n o b;unfold vs Ds at*;go_enter IG,G2;go_wp2_with fail;refine y.out.mono ?_;rintro e w1 A;obtain⟨gf,rfl,hF⟩:=Bn u v z.out A;go_wp2;exact⟨rfl,gf,rfl,hF⟩
theorem lH {w0 w':World}{c:C5}{t e:Az}{o:Bool}{b ve:Value}(l:DG (λk=>w0.heap.size<=k) w' b t) (d:if o then DG (λk=>w0.heap.size<=k) w' ve e else ve=A6/\e= .nil):
  Me w0 w' (.ite c t o e .nil) (.agg (L9 c b ve).toArray):=by
 obtain⟨m,n1,p,n3,q⟩:=Fr c.k;have r:L9 c b ve=[vs Jk,.int .i64 0,.int .i64 0,.bool false,vs (Cl c.k),.int .i64 (Bt c.k),vs m,.int .i64 n1,vs p,.int .i64 n3,.bool (Dp c.bP),b,ve]:=by unfold L9 Bu;rw[q];rfl
 obtain⟨x,u,y,f⟩:=l.fM;have i:∃a n c,ve= .slice a n c:=by
  cases o with
  |true=>obtain⟨g2,z,c2,h⟩:=DG.fM d;exact⟨_,_,_,h⟩
  |false=>exact⟨_,_,_,d.1⟩
 obtain⟨A,v,c2,j⟩:=i;refine⟨L9 c b ve,rfl,rfl,⟨_,_,_,_,_,_,_,_,_,_,_,_,_,_,_,_,_,by rw[r,f,j]⟩,⟨b,ve,[],by simp,l,?_,rfl⟩⟩;exact d
theorem kJ {w0 w':World}{n:Int}{c:C5}{b:Az}{a:Value}(e:DG (λk=>w0.heap.size<=k) w' a b):Me w0 w' (.rep n c b .nil) (.agg (IX n c a).toArray):=by
 obtain⟨f,n1,h,n3,i⟩:=Fr c.k;have j:IX n c a=[vs Bf,.int .i64 n,.int .i64 0,.bool false,vs (Cl c.k),.int .i64 (Bt c.k),vs f,.int .i64 n1,vs h,.int .i64 n3,.bool (Dp c.bP),a,A6]:=by unfold IX Bu;rw[i];rfl
 obtain⟨m,l,o,d⟩:=e.fM;exact⟨IX n c a,rfl,rfl,⟨_,_,_,_,_,_,_,_,_,_,_,_,_,_,_,_,_,by rw[j,d];rfl⟩,⟨a,[],by simp,e,rfl⟩⟩
theorem qk {w f:World}{c:C5}{t e:Az}{x y z:Nat}{ve:Value}{D:Ah}{n1:Int}{E:Ah}{n3:Int}{o:Bool}
  (F:Bu c=[.string ⟨(Cl c.k).toArray⟩,.int .i64 (Bt c.k),.string ⟨D.toArray⟩,.int .i64 n1,.string ⟨E.toArray⟩,.int .i64 n3,.bool (Dp c.bP)])
  (G:DG (λk=>w.heap.size+2<=k) f (.slice (some ⟨x,0,none⟩) y z) t) (v:if o then DG (λk=>w.heap.size+2<=k) f ve e else ve=A6/\e= .nil) (h i j l m n p q r u a b d:Value):
  Me w (copied f w.heap.size h i j l m n p q r u a b d) (.ite c t o e .nil)
   (.agg #[.string ⟨Jk.toArray⟩,.int .i64 0,.int .i64 0,.bool false,.string ⟨(Cl c.k).toArray⟩,.int .i64 (Bt c.k),.string ⟨D.toArray⟩,.int .i64 n1,.string ⟨E.toArray⟩,.int .i64 n3,.bool (Dp c.bP),.slice (some ⟨x,0,none⟩) y z,ve]):=by
 have H:DG (λk=>w.heap.size<=k) (copied f w.heap.size h i j l m n p q r u a b d) (.slice (some ⟨x,0,none⟩) y z) t:=(G.copied (R:=w.heap.size) (by omega) h i j l m n p q r u a b d).mono (λk _ A=>Ad (Dc _ 2) A);have I:if o then DG (λk=>w.heap.size<=k) (copied f w.heap.size h i j l m n p q r u a b d) ve e else ve=A6/\e= .nil:=by
  cases o with
  |true=>
   rw[Al rfl]at v ⊢;have J:=DG.copied v (R:=w.heap.size) (by omega) h i j l m n p q r u a b d;exact J.mono (λk _ A=>Ad (Dc _ 2) A)
  |false=>
   rw[Ai A0]at v ⊢;exact v
 have C:=lH H I (c:=c);unfold L9 at C;rw[F]at C;exact C
theorem u9 {w f:World}{c:C5}{b:Az}{n:Int}{h i j:Nat}{z:Ah}{n1:Int}{A:Ah}{n3:Int}
  (C:Bu c=[.string ⟨(Cl c.k).toArray⟩,.int .i64 (Bt c.k),.string ⟨z.toArray⟩,.int .i64 n1,.string ⟨A.toArray⟩,.int .i64 n3,.bool (Dp c.bP)])
  (D:DG (λk=>w.heap.size+2<=k) f (.slice (some ⟨h,0,none⟩) i j) b) (l m o p q r t u v x a d e:Value):
  Me w (copied f w.heap.size l m o p q r t u v x a d e) (.rep n c b .nil)
   (.agg #[.string ⟨Bf.toArray⟩,.int .i64 n,.int .i64 0,.bool false,.string ⟨(Cl c.k).toArray⟩,.int .i64 (Bt c.k),.string ⟨z.toArray⟩,.int .i64 n1,.string ⟨A.toArray⟩,.int .i64 n3,.bool (Dp c.bP),.slice (some ⟨h,0,none⟩) i j,.slice none 0 0]):=by
 have E:DG (λk=>w.heap.size<=k) (copied f w.heap.size l m o p q r t u v x a d e) (.slice (some ⟨h,0,none⟩) i j) b:=(D.copied (R:=w.heap.size) (by omega) l m o p q r t u v x a d e).mono (λk _ F=>Ad (Dc _ 2) F);have y:=kJ (n:=n) E (c:=c);unfold IX at y;rw[C]at y;exact y
theorem uN (n:Nat) (bZ:WH B ea g gp bm s n) (h:DR B ea w g gp bm vd wp s st) (ok:st.Ok s) (hd:st.depth<=8) (hl:st.loops<=2) (hn:2*left s st+1<=n+1) (hk:st.t.kind=Jk):
  Calls prog 134 #[.pointer (some ⟨g,0,none⟩)] w λe w'=>DX B ea w g gp bm s
   ((cond s (n+1) (next s st)).bind λc st=>(block s n st).bind λt st=>
    if st.t.kind=Dn then(block s n (next s st)).bind λe st=>.ok (.ite c t true e .nil) st
    else .ok (.ite c t false .nil .nil) st) (Me w) e w':=by
 have q0:=Fu.start h [vs Jk,.int .i64 0,.int .i64 0,.bool false,vs [],.int .i64 0,vs [],.int .i64 0,vs [],.int .i64 0,.bool false,.slice none 0 0,.slice none 0 0];have cj:=Er q0.rd;obtain⟨_,_,c2,_⟩:=AZ (h.alloc (.cells #[vs [],.int .i64 0,.int .i64 0,.bool false,vs [],.int .i64 0,vs [],.int .i64 0,vs [],.int .i64 0,.bool false,.slice none 0 0,.slice none 0 0] 220)).row;have hB:=h.env.size;have hg:=h.g0;have cu:=D6 ok hk (by decide) (by decide);rw[hk]at c2;obtain⟨Q0,HN,cw,cy,W,X⟩:=zq6 q0 cj (Ce ok) bZ cu hn;clear q0 cj h ok hk bZ cu hn;unfold vs at*;go_enter IG,G2;go_wp2_with fail;refine HN.out.mono ?_;rintro e w1 ⟨rfl,cz,h1⟩;have q1:=Q0.out.call cz h1 rfl rfl rfl;have hc:=Ws (n+1) (next s st) _ _ _ q1.rd cw.out (by have:=W.out;have:=X.out;omega);obtain⟨H,e1,I,J,K,L,M,N,O,P,d,f,i⟩:=BO q1.bV;have z:=λj=>q1.bV.frozen j;obtain⟨Q1,HC⟩:=zq2 q1 hc;clear cz h1 q1 hc;unfold vs at*;go_wp2_with fail;refine HC.out.mono ?_;rintro e w2 u;clear H e1 I J K L M N O P d f i z;cases p:cond s (n+1) (next s st)with
 |bad k pos=>
  rw[p]at u;obtain⟨gf,rfl,hF⟩:=Bn hB hg Q1.out.kg u;have x:=Aa p;clear p;go_wp2;refine⟨rfl,?_⟩;rw[x.out];exact⟨gf,rfl,hF⟩
 |ok c st1=>
  rw[p]at u;obtain⟨v,rfl,rfl,cZ,iC,iD,h2⟩:=u;obtain⟨a,lt,_⟩:=JH cw.out p;obtain⟨b0,n1,b2,n3,hv⟩:=Fr c.k;have ec:Bu c=[.string ⟨(Cl c.k).toArray⟩,.int .i64 (Bt c.k),.string ⟨b0.toArray⟩,.int .i64 n1,.string ⟨b2.toArray⟩,.int .i64 n3,.bool (Dp c.bP)]:=by unfold Bu;rw[hv];rfl
  have p2:=Q1.out.call cZ h2 a.decls a.bI a.rules;obtain⟨H,e1,I,J,K,L,M,N,O,P,d,f,i⟩:=BO p2.bV;have z:=λj=>p2.bV.frozen j;have q2:=((((((p2.fB 4 (.string ⟨(Cl c.k).toArray⟩)).fB 5 (.int .i64 (Bt c.k))).fB 6 (.string ⟨b0.toArray⟩)).fB 7 (.int .i64 n1)).fB 8 (.string ⟨b2.toArray⟩)).fB 9 (.int .i64 n3)).fB 10 (.bool (Dp c.bP));have hb:=cy.out st1 _ _ _ q2.rd a.ok (by have:=a.depth;simp only[next]at this;omega) (by have:=a.loops;simp only[next]at this;omega) (by have:=W.out;have:=X.out;omega);obtain⟨x,D,fE,Q2,HB,EC⟩:=zq6 p a lt q2 hb ec;rw[ec];clear cZ h2 p2 q2 hb p a lt hv ec;unfold vs at*;go_wp2_with fail;refine HB.out.mono ?_;rintro e w3 u;clear H e1 I J K L M N O P d f i z;cases q:block s n st1 with
  |bad k pos=>
   rw[q]at u;obtain⟨gf,rfl,hF⟩:=Bn hB hg Q2.out.kg u;have E:=Aa q;clear q;go_wp2;refine⟨rfl,?_⟩;rw[x.out];show DX _ _ _ _ _ _ _ ((block s n st1).bind _) _ _ _;rw[E.out];exact⟨gf,rfl,hF⟩
  |ok t b=>
   rw[q]at u;obtain⟨vt,rfl,Y,dd,iF,iG,h3⟩:=u;have Z:=DW D.out.ok (by have:=D.out.depth;simp only[next]at this;omega) (by have:=D.out.loops;simp only[next]at this;omega) q;have a:=Z.1;have R:=Z.2.2.2.2.2;obtain⟨gt,nt,ct,rfl⟩:=Y.fM;have p3:=Q2.out.call dd h3 a.decls a.bI a.rules;obtain⟨H,e1,I,J,K,L,M,N,O,P,d,f,i⟩:=BO p3.bV;have z:=λj=>p3.bV.frozen j;have q3:=p3.fB 11 (.slice (some ⟨gt,0,none⟩) nt ct);obtain⟨ht,dF,fG⟩:=zp3 (Gr q3.rd Dn) Q2.out.kg.size Q2.out.bV.lt;have S:DG (λk=>w.heap.size+2<=k) (w3.setCell ⟨w.heap.size+1,11,none⟩ (.slice (some ⟨gt,0,none⟩) nt ct)) (.slice (some ⟨gt,0,none⟩) nt ct) t:=
    (Y.dK (by omega) 11 _).mono (λk _ hk=>by omega)
   have T:=a.ok;have dG:b.depth<=8:=by have h1:=D.out.depth;have h2:=a.depth;simp only[next]at h1;omega
   have dH:b.loops<=2:=by have h1:=D.out.loops;have h2:=a.loops;simp only[next]at h1;omega
   obtain⟨E,dI,Q3,HT,F,fH⟩:=zq6 q S q3 ht T R;clear dd h3 p3 q3 ht q Y S Z a R dF fG T;unfold vs at*;go_wp2_with fail;refine HT.out.mono ?_;rintro e w4 ⟨rfl,A,h4⟩;clear H e1 I J K L M N O P d f i z;by_cases l:b.t.kind=Dn
   ·rw[LT l]at h4;have q4:=Q3.out.call A h4 rfl rfl rfl;have fJ:=D6 F.out l (by decide) (by decide);have hb:=cy.out (next s b) _ _ _ q4.rd (Ce F.out) dG dH (by have:=W.out;have:=X.out;have:=fE.out;have:=fH.out;omega);obtain⟨H,e1,I,J,K,L,M,N,O,P,d,f,i⟩:=BO q4.bV;have z:=λj=>q4.bV.frozen j;have m:=dI.out.later A Q3.out.row;obtain⟨dL,Q4,fK,Q⟩:=zq4 m q4 hb l;have et:(take s Dn b).1=true:=by rw[LT l]
    rw[et];clear A h4 q4 hb m l fJ et;unfold vs at*;go_wp2_with fail;refine fK.out.mono ?_;rintro e w5 u;clear H e1 I J K L M N O P d f i z;cases r:block s n (next s b)with
    |bad k pos=>
     rw[r]at u;obtain⟨gf,rfl,hF⟩:=Bn hB hg Q4.out.kg u;have bL:=Aa r;clear r;go_wp2;refine⟨rfl,?_⟩;rw[x.out];show DX _ _ _ _ _ _ _ ((block s n st1).bind _) _ _ _;rw[E.out];show DX _ _ _ _ _ _ _ (if b.t.kind=Dn then _ else _) _ _ _;rw[Al Q.out,bL.out];exact⟨gf,rfl,hF⟩
    |ok el iT=>
     rw[r]at u;obtain⟨ve,rfl,bM,bN,i8,jd,h5⟩:=u;have a:=(DW (Ce F.out) dG dH r).1;obtain⟨ge,ne,ce,rfl⟩:=bM.fM;have p5:=Q4.out.call bN h5 a.decls a.bI a.rules;obtain⟨H,e1,I,J,K,L,M,N,O,P,d,f,i⟩:=BO p5.bV;obtain⟨f0,f1,f2,f3,f4,f5,f6,f7,f8,f9,fL,fN,fO⟩:=BO p5.dP;have z:=λj=>p5.bV.frozen j;have y:=λj=>p5.dP.frozen j;have q5:=p5.fB 12 (.slice (some ⟨ge,0,none⟩) ne ce);obtain⟨q6,dR,U,dS⟩:=zp4 (q5.copy (.string ⟨Jk.toArray⟩) (.int .i64 0) (.int .i64 0) (.bool false) (.string ⟨(Cl c.k).toArray⟩) (.int .i64 (Bt c.k)) (.string ⟨b0.toArray⟩) (.int .i64 n1) (.string ⟨b2.toArray⟩) (.int .i64 n3) (.bool (Dp c.bP)) (.slice (some ⟨gt,0,none⟩) nt ct) (.slice (some ⟨ge,0,none⟩) ne ce)) Q4.out.kg.size (dL.out.later bN Q4.out.row) Q4.out.bV.lt;have V:DG (λk=>w.heap.size+2<=k) w5 (.slice (some ⟨ge,0,none⟩) ne ce) el:=bM.mono (λk _ hk=>by omega);obtain⟨bL,Q6,fP,G⟩:=zq4 r q6 V U;clear bN h5 p5 q5 q6 r bM V U a dR dS;unfold vs at*;go_wp2;refine AB (AT (cs:=[.string ⟨Jk.toArray⟩,.int .i64 0,.int .i64 0,.bool false,.string ⟨(Cl c.k).toArray⟩,.int .i64 (Bt c.k),.string ⟨b0.toArray⟩,.int .i64 n1,.string ⟨b2.toArray⟩,.int .i64 n3,.bool (Dp c.bP),.slice (some ⟨gt,0,none⟩) nt ct,.slice (some ⟨ge,0,none⟩) ne ce]) GF MK Kt rfl Q6.out.dP) rfl ?_;rw[x.out];show DX _ _ _ _ _ _ _ ((block s n st1).bind _) _ _ _;rw[E.out];show DX _ _ _ _ _ _ _ (if b.t.kind=Dn then _ else _) _ _ _;rw[Al Q.out,bL.out];exact⟨_,rfl,qk (o:=true) (e:=el) (ve:=.slice (some ⟨ge,0,none⟩) ne ce) EC.out (G.out.dK (C:=w.heap.size+1) (by omega) 12 (.slice (some ⟨ge,0,none⟩) ne ce)) (by rw[Al rfl];exact fP.out.dK (C:=w.heap.size+1) (by omega) 12 _) _ _ _ _ _ _ _ _ _ _ _ _ _,Q6.out.kg,_,_,Q6.out.rd⟩
   ·rw[Lb l]at h4;have p4:=Q3.out.call A h4 rfl rfl rfl;obtain⟨H,e1,I,J,K,L,M,N,O,P,d,f,i⟩:=BO p4.bV;obtain⟨f0,f1,f2,f3,f4,f5,f6,f7,f8,f9,fL,fN,fO⟩:=BO p4.dP;have z:=λj=>p4.bV.frozen j;have y:=λj=>p4.dP.frozen j;have q6:=p4.copy (.string ⟨Jk.toArray⟩) (.int .i64 0) (.int .i64 0) (.bool false) (.string ⟨(Cl c.k).toArray⟩) (.int .i64 (Bt c.k)) (.string ⟨b0.toArray⟩) (.int .i64 n1) (.string ⟨b2.toArray⟩) (.int .i64 n3) (.bool (Dp c.bP)) (.slice (some ⟨gt,0,none⟩) nt ct) (.slice none 0 0);have m:=dI.out.later A Q3.out.row;obtain⟨G,Q,Q6⟩:=zq3 m l q6;have et:(take s Dn b).1=false:=by rw[Lb l]
    rw[et];clear A h4 p4 q6 m l et;unfold vs at*;go_wp2;refine AB (AT (cs:=[.string ⟨Jk.toArray⟩,.int .i64 0,.int .i64 0,.bool false,.string ⟨(Cl c.k).toArray⟩,.int .i64 (Bt c.k),.string ⟨b0.toArray⟩,.int .i64 n1,.string ⟨b2.toArray⟩,.int .i64 n3,.bool (Dp c.bP),.slice (some ⟨gt,0,none⟩) nt ct,.slice none 0 0]) GF MK Kt rfl Q6.out.dP) rfl ?_;rw[x.out];show DX _ _ _ _ _ _ _ ((block s n st1).bind _) _ _ _;rw[E.out];show DX _ _ _ _ _ _ _ (if b.t.kind=Dn then _ else _) _ _ _;rw[Ai Q.out];exact⟨_,rfl,qk (o:=false) (e:=.nil) (ve:=.slice none 0 0) EC.out G.out (by rw[Ai A0];exact⟨rfl,rfl⟩) _ _ _ _ _ _ _ _ _ _ _ _ _,Q6.out.kg,_,_,Q6.out.rd⟩
theorem Fu.loops {w0:World}{a:Value}{b:PS}{R C:Nat}{cs c:List Value}(h:Fu B ea g gp bm vd s b w0 a st w wp R C cs c) (n:Nat) {i:Int}(d:i=n):
  Fu B ea g gp bm vd s b w0 a {st with loops:=n} (w.setCell ⟨g,8,none⟩ (.int .i64 i)) wp R C cs c:=h.call (Kg.cell g w 8 _) (h.rd.nO n d) rfl rfl rfl
theorem WY (h:DR B ea w g gp bm vd wp s st) (c:st.t.kind=Bf) (d:st.loops=2):
  Calls prog 134 #[.pointer (some ⟨g,0,none⟩)] w λe w'=>DX B ea w g gp bm s (fail SG st) (Me w) e w':=by
 have a:=Fu.start h [vs Bf,.int .i64 0,.int .i64 0,.bool false,vs [],.int .i64 0,vs [],.int .i64 0,vs [],.int .i64 0,.bool false,.slice none 0 0,.slice none 0 0];obtain⟨_,_,c2,_⟩:=AZ (h.alloc (.cells #[vs [],.int .i64 0,.int .i64 0,.bool false,vs [],.int .i64 0,vs [],.int .i64 0,vs [],.int .i64 0,.bool false,.slice none 0 0,.slice none 0 0] 220)).row;obtain⟨_,_,_,_,_,_,_,_,i,_⟩:=AZ a.rd.row;have b:=a.rd.env.err 3 (by omega) (by omega);obtain⟨f,j,k⟩:=zp3 (Sz a.rd 3) h.env.size h.g0;rw[c]at c2;rw[d]at i;rw[show LJ 3=7 from rfl]at b;obtain⟨l,m⟩:=zq2 f a;clear f a h c d;unfold vs Ds at*;go_enter IG,G2;go_wp2_with fail;refine l.out.mono ?_;rintro e w1 n;obtain⟨gf,rfl,hF⟩:=Bn j k m.out.kg n;go_wp2;exact⟨rfl,gf,rfl,hF⟩
theorem oT (n:Nat) (bM:WH B ea g gp bm s n) (h:DR B ea w g gp bm vd wp s st) (ok:st.Ok s) (hd:st.depth<=8) (hl:st.loops<2) (hn:2*left s st+1<=n+1) (hk:st.t.kind=Bf):
  Calls prog 134 #[.pointer (some ⟨g,0,none⟩)] w λe w'=>DX B ea w g gp bm s
   ((number s 1 50 (next s st)).bind λk st=>(want s Cv st).bind λ_ st=>(cond s (n+1) st).bind λc st=>
    (block s n {st with loops:=st.loops+1}).bind λb st=>.ok (.rep k c b .nil) {st with loops:=st.loops-1}) (Me w) e w':=by
 have q0:=Fu.start h [vs Bf,.int .i64 0,.int .i64 0,.bool false,vs [],.int .i64 0,vs [],.int .i64 0,vs [],.int .i64 0,.bool false,.slice none 0 0,.slice none 0 0];have bO:=Er q0.rd;obtain⟨_,_,c2,_⟩:=AZ (h.alloc (.cells #[vs [],.int .i64 0,.int .i64 0,.bool false,vs [],.int .i64 0,vs [],.int .i64 0,vs [],.int .i64 0,.bool false,.slice none 0 0,.slice none 0 0] 220)).row;obtain⟨_,_,_,_,_,_,_,_,c8,_⟩:=AZ q0.rd.row;have hB:=h.env.size;have hg:=h.g0;have bQ:=D6 ok hk (by decide) (by decide);rw[hk]at c2;have b8:((st.loops:Int)==2)=false:=by simp;omega
 have b9:(st.loops:Int)<2:=by omega
 have iC:(0:Int)<=(st.loops:Int):=by omega
 obtain⟨Q0,HN,bR,dV,bS,bT⟩:=zq6 q0 bO (Ce ok) bM bQ hn;clear q0 bO h ok hk bM bQ hn;unfold vs at*;go_enter IG,G2;go_wp2_with fail;refine HN.out.mono ?_;rintro e w1 ⟨rfl,bU,h1⟩;have q1:=Q0.out.call bU h1 rfl rfl rfl;have hm:=IV q1.rd bR.out 1 50;obtain⟨L,e1,M,N,O,P,Q,R,S,T,o,p,q⟩:=BO q1.bV;have z:=λj=>q1.bV.frozen j;obtain⟨Q1,HM⟩:=zq2 q1 hm;clear bU h1 q1 hm c8;unfold vs at*;go_wp2_with fail;refine HM.out.mono ?_;rintro e w2 f;clear L e1 M N O P Q R S T o p q z;cases u:number s 1 50 (next s st)with
 |bad k pos=>
  rw[u]at f;obtain⟨gf,rfl,hF⟩:=Bn hB hg Q1.out.kg f;have E:=Aa u;clear u;go_wp2;refine⟨rfl,?_⟩;rw[E.out];exact⟨gf,rfl,hF⟩
 |ok m st1=>
  rw[u]at f;obtain⟨v,rfl,rfl,bX,iG,iH,h2⟩:=f;obtain⟨fw,lt,_⟩:=GB bR.out u;have p2:=Q1.out.call bX h2 fw.decls fw.bI fw.rules;obtain⟨L,e1,M,N,O,P,Q,R,S,T,o,p,q⟩:=BO p2.bV;have z:=λj=>p2.bV.frozen j;have q2:=p2.fB 1 (.int .i64 m);have hw:=Dd q2.rd Cv;obtain⟨E,bZ,ci,Q2,HW⟩:=zq5 u fw lt q2 hw;clear bX h2 p2 q2 hw u fw lt;unfold vs at*;go_wp2_with fail;refine HW.out.mono ?_;rintro e w3 f;clear L e1 M N O P Q R S T o p q z;cases x:want s Cv st1 with
  |bad k pos=>
   rw[x]at f;obtain⟨gf,rfl,hF⟩:=Bn hB hg Q2.out.kg f;have G:=Aa x;clear x;go_wp2;refine⟨rfl,?_⟩;rw[E.out];show DX _ _ _ _ _ _ _ ((want s Cv st1).bind _) _ _ _;rw[G.out];exact⟨gf,rfl,hF⟩
  |ok tw F=>
   rw[x]at f;obtain⟨v,rfl,rfl,cj,iT,i8,h3⟩:=f;have U:=(BH x).2.2;have l:Gn s st1 F:=by rw[U];exact Gn.next bZ.out.ok
   have q3:=Q2.out.call cj h3 l.decls l.bI l.rules;have hc:=Ws (n+1) F _ _ _ q3.rd l.ok (by have:=bS.out;have:=bT.out;have:=ci.out;have:=l.left;omega);obtain⟨L,e1,M,N,O,P,Q,R,S,T,o,p,q⟩:=BO q3.bV;have z:=λj=>q3.bV.frozen j;obtain⟨G,cw,cy,cz,Q3,HC⟩:=zq6 x (bZ.out.trans l) l.ok l.left q3 hc;clear cj h3 q3 hc x U l;unfold IW vs at*;go_wp2_with fail;refine HC.out.mono ?_;rintro e w4 f;clear L e1 M N O P Q R S T o p q z;cases A:cond s (n+1) F with
   |bad k pos=>
    rw[A]at f;obtain⟨gf,rfl,hF⟩:=Bn hB hg Q3.out.kg f;have K:=Aa A;clear A;go_wp2;refine⟨rfl,?_⟩;rw[E.out];show DX _ _ _ _ _ _ _ ((want s Cv st1).bind _) _ _ _;rw[G.out];show DX _ _ _ _ _ _ _ ((cond s (n+1) F).bind _) _ _ _;rw[K.out];exact⟨gf,rfl,hF⟩
   |ok c a=>
    rw[A]at f;obtain⟨v,rfl,rfl,cB,je,jf,h4⟩:=f;obtain⟨d,fy,_⟩:=JH cy.out A;obtain⟨b0,n1,b2,n3,hv⟩:=Fr c.k;have ec:Bu c=[.string ⟨(Cl c.k).toArray⟩,.int .i64 (Bt c.k),.string ⟨b0.toArray⟩,.int .i64 n1,.string ⟨b2.toArray⟩,.int .i64 n3,.bool (Dp c.bP)]:=by unfold Bu;rw[hv];rfl
    have F3:=cw.out.trans d;have X:a.loops=st.loops:=F3.loops;have fD:a.depth=st.depth:=F3.depth;have J:=Q3.out.call cB h4 d.decls d.bI d.rules;obtain⟨L,e1,M,N,O,P,Q,R,S,T,o,p,q⟩:=BO J.bV;have z:=λj=>J.bV.frozen j;obtain⟨_,_,_,_,_,_,_,_,c8,_⟩:=AZ J.row;have da:=J.row.frozen 8;have fE:¬w.heap.size+1=g:=J.bV.cZ J.row (by decide);have iw:¬g=w.heap.size+1:=λe=>fE e.symm;have fF:¬w.heap.size=g:=J.dP.cZ J.row (by decide);have ix:¬g=w.heap.size:=λe=>fF e.symm;rw[X]at c8;have q4:=(((((((J.fB 4 (.string ⟨(Cl c.k).toArray⟩)).fB 5 (.int .i64 (Bt c.k))).fB 6 (.string ⟨b0.toArray⟩)).fB 7 (.int .i64 n1)).fB 8 (.string ⟨b2.toArray⟩)).fB 9 (.int .i64 n3)).fB 10 (.bool (Dp c.bP))).loops (st.loops+1) (i:=(st.loops:Int)+1) rfl;have hb:=dV.out {a with loops:=st.loops+1} _ _ _ q4.rd ⟨d.ok.i,d.ok.pos,d.ok.more,d.ok.num,d.ok.name⟩ (by show a.depth<=8;omega) (by show st.loops+1<=2;omega)
     (by have h1:=bS.out;have h2:=bT.out;have h3:=ci.out;have h4:=cz.out;show 2*left s a+1<=n;omega)
    obtain⟨K,fH,Q4,HB,EC,dd,r⟩:=zq7 A F3 q4 hb ec X d.ok;rw[ec];clear cB h4 J q4 hb A d fy hv ec F3 X fD;unfold vs at*;go_wp2_with fail;refine HB.out.mono ?_;rintro e w5 f;clear L e1 M N O P Q R S T o p q z c8 da;cases D:block s n {a with loops:=st.loops+1}with
    |bad k pos=>
     rw[D]at f;obtain⟨gf,rfl,hF⟩:=Bn hB hg Q4.out.kg f;have Y:=Aa D;clear D;go_wp2;refine⟨rfl,?_⟩;rw[E.out];show DX _ _ _ _ _ _ _ ((want s Cv st1).bind _) _ _ _;rw[G.out];show DX _ _ _ _ _ _ _ ((cond s (n+1) F).bind _) _ _ _;rw[K.out];show DX _ _ _ _ _ _ _ ((block s n {a with loops:=a.loops+1}).bind _) _ _ _;rw[dd.out,Y.out];exact⟨gf,rfl,hF⟩
    |ok bb dF=>
     rw[D]at f;obtain⟨vt,rfl,Z,dG,jk,fJ,h5⟩:=f;have H:=(DW (st:={a with loops:=st.loops+1}) ⟨r.out.i,r.out.pos,r.out.more,r.out.num,r.out.name⟩ (by have:=fH.out.depth;simp only[next]at this;show a.depth<=8;omega) (by show st.loops+1<=2;omega) D).1;have I:dF.loops=st.loops+1:=H.loops;obtain⟨gt,nt,ct,rfl⟩:=Z.fM;have V:=Q4.out.call dG h5 H.decls H.bI H.rules;obtain⟨L,e1,M,N,O,P,Q,R,S,T,o,p,q⟩:=BO V.bV;obtain⟨f0,f1,f2,f3,f4,f5,f6,f7,f8,f9,jl,jm,jn⟩:=BO V.dP;have z:=λj=>V.bV.frozen j;have y:=λj=>V.dP.frozen j;obtain⟨_,_,_,_,_,_,_,_,c8,_⟩:=AZ V.row;have da:=V.row.frozen 8;rw[I]at c8;have q5:=(V.fB 11 (.slice (some ⟨gt,0,none⟩) nt ct)).loops st.loops (i:=(st.loops:Int)) rfl;obtain⟨q6,dH,fK⟩:=zp3 (q5.copy (.string ⟨Bf.toArray⟩) (.int .i64 m) (.int .i64 0) (.bool false) (.string ⟨(Cl c.k).toArray⟩) (.int .i64 (Bt c.k)) (.string ⟨b0.toArray⟩) (.int .i64 n1) (.string ⟨b2.toArray⟩) (.int .i64 n3) (.bool (Dp c.bP)) (.slice (some ⟨gt,0,none⟩) nt ct) (.slice none 0 0)) Q4.out.bV.lt Q4.out.row.lt;have W:DG (λk=>w.heap.size+2<=k) ((w5.setCell ⟨w.heap.size+1,11,none⟩ (.slice (some ⟨gt,0,none⟩) nt ct)).setCell ⟨g,8,none⟩ (.int .i64 (st.loops:Int))) (.slice (some ⟨gt,0,none⟩) nt ct) bb:=
      ((Z.dK (C:=w.heap.size+1) (by omega) 11 (.slice (some ⟨gt,0,none⟩) nt ct)).dK (C:=g) (by omega) 8 (.int .i64 (st.loops:Int))).mono (λk _ hk=>Ad dH hk)
     have dI:(((st.loops+1:Nat):Int)-1)=(st.loops:Int):=by omega
     obtain⟨jo,Y,Q6,fN,fO⟩:=zq5 dI D q6 W I;clear dG h5 V q5 q6 D Z W H dH fK dI I;unfold vs at*;go_wp2;refine AB (AT (cs:=[.string ⟨Bf.toArray⟩,.int .i64 m,.int .i64 0,.bool false,.string ⟨(Cl c.k).toArray⟩,.int .i64 (Bt c.k),.string ⟨b0.toArray⟩,.int .i64 n1,.string ⟨b2.toArray⟩,.int .i64 n3,.bool (Dp c.bP),.slice (some ⟨gt,0,none⟩) nt ct,.slice none 0 0]) GF MK Kt rfl Q6.out.dP) rfl ?_;rw[E.out];show DX _ _ _ _ _ _ _ ((want s Cv st1).bind _) _ _ _;rw[G.out];show DX _ _ _ _ _ _ _ ((cond s (n+1) F).bind _) _ _ _;rw[K.out];show DX _ _ _ _ _ _ _ ((block s n {a with loops:=a.loops+1}).bind _) _ _ _;rw[dd.out,Y.out];refine⟨_,rfl,u9 EC.out fN.out _ _ _ _ _ _ _ _ _ _ _ _ _,Q6.out.kg,vd,fJ,?_⟩;have hr:=Q6.out.rd;rw[show dF.loops-1=st.loops by rw[fO.out];rfl];exact hr
end
section
variable {B:Nat}{ea:Nat->Addr}{w:World}{g gp bm:Nat}{vd wp:Value}{s:Ah}{st:PS}
theorem j7 (n:Nat) (d:WH B ea g gp bm s n):sC B ea g gp bm s (n+1):=by
 intro st w vd wp h b q u r;rw[stmt];by_cases e:st.t.kind=KP
 ·rw[Al e];exact oU h b e
 rw[Ai e];by_cases f:st.t.kind=Et
 ·rw[Al f];exact T0 (.inl ⟨rfl,rfl⟩) h b f
 rw[Ai f];by_cases i:st.t.kind=Io
 ·rw[Al i];exact T0 (.inr ⟨rfl,rfl⟩) h b i
 rw[Ai i];by_cases j:st.t.kind=Dq
 ·rw[Al j];exact eE h b j
 rw[Ai j];by_cases k:st.t.kind=Mo
 ·rw[Al k];exact XT (.inl ⟨rfl,rfl⟩) h b k
 rw[Ai k];by_cases l:st.t.kind=Mq
 ·rw[Al l];exact XT (.inr ⟨rfl,rfl⟩) h b l
 rw[Ai l];by_cases m:st.t.kind=Ja
 ·rw[Al m];exact Vo (.inl ⟨rfl,rfl⟩) h b m
 rw[Ai m];by_cases o:st.t.kind=Jb
 ·rw[Al o];exact Vo (.inr ⟨rfl,rfl⟩) h b o
 rw[Ai o];by_cases p:st.t.kind=Jk
 ·rw[Al p];exact uN n d h b q u r p
 rw[Ai p];by_cases a:st.t.kind=Bf
 ·rw[Al a];by_cases c:st.loops=2
  ·rw[Al c];exact WY h a c
  ·rw[Ai c];exact oT n d h b q (by omega) r a
 rw[Ai a];exact j8 h e f i j k l m o p a
theorem rY (n:Nat):WH B ea g gp bm s n/\sC B ea g gp bm s n:=by
 induction n using Nat.strongRecOn with
 |ind n a=>
  cases n with
  |zero=>exact⟨λst w vd wp h b c d e=>by omega,λst w vd wp h b c d e=>by omega⟩
  |succ n=>exact⟨gK n (λm f=>(a m f).2),j7 n (a n (by omega)).1⟩
theorem mH (h:DR B ea w g gp bm vd wp s st) (a:st.Ok s) (c:st.depth<=8) (d:st.loops<=2) {n:Nat}(f:2*left s st+1<=n):
  Calls prog 117 #[.pointer (some ⟨g,0,none⟩)] w λe w'=>DX B ea w g gp bm s (block s n st) (λw' b v=>DG (λk=>w.heap.size<=k) w' v b) e w':=
 (rY n).1 st w vd wp h a c d f
end
theorem PH (w:World):(zeroValue 147).run prog w= .ok (.slice none 0 0) w:=by kernel_rfl
def JZ (B:Nat) (ea:Nat->Addr) (w:World) (g gp bm:Nat) (s:Ah) (x:AQ Unit) (e:Ending) (w':World):Prop:=
 match x with
 | .ok _ st'=>e= .returned (.tuple #[])/\Ac (λb=>B<=b) w w'/\∃vd wp,DR B ea w' g gp bm vd wp s st'
 | .bad k pos=>Tc B ea w e w' k pos
section
variable {B:Nat}{ea:Nat->Addr}{w:World}{g gp bm:Nat}{vd wp:Value}{s:Ah}{st:PS}
theorem Tt {N:Nat->Prop}:∀(M:G5) (c:List (Int×Az)),M.map (·.1)=c.map (·.1)->(∀(i:Nat) (x:Int×Value) (y:Int×Az),M[i]?=some x->c[i]?=some y->DG N w x.2 y.2)->∀k:Int,
  match Bj c k with
  |some b=>∃v,FX M k=some v/\DG N w v b
  |none=>FX M k=none
 | [],[],_,_,k=>rfl
 | [],_::_,h,_,_=>by simp at h
 |_::_,[],h,_,_=>by simp at h
 |x::M,y::c,h,f,k=>by
  simp only[BS,IZ]at h;unfold Bj FX;by_cases e:y.1=k
  ·have d:x.1=k:=h.1.trans e;rw[My (by simpa using e),My (by simpa using d)];exact⟨x.2,rfl,f 0 x y rfl rfl⟩
  ·have d:¬x.1=k:=by rw[h.1];exact e
   rw[EA (by simpa using e),EA (by simpa using d)];exact Tt M c h.2 (λi a b j l=>f (i+1) a b (by simpa using j) (by simpa using l)) k
theorem FT.look {N:Nat->Prop}{a:List (Int×Az)}(h:FT N w bm a) (k:Int):∃v,(∀c,(Instr.lookup 104 (.map (some bm)) (.int .i64 k) c).run prog w=
  .ok (if c then .tuple #[v,.bool (Bj a k).isSome]else v) w)/\(match Bj a k with|some b=>DG N w v b|none=>v= .slice none 0 0):=by
 obtain⟨M,e,i,j⟩:=h;have d:=Tt M a i j k;cases f:Bj a k with
 |none=>
  rw[f]at d;refine⟨.slice none 0 0,λc=>?_,rfl⟩;rw[e.lookup (P:=prog) EV Db PH k c,show FX M k=none from d];rfl
 |some b=>
  rw[f]at d;obtain⟨v,l,m⟩:=d;refine⟨v,λc=>?_,m⟩;rw[e.lookup (P:=prog) EV Db PH k c,l];rfl
theorem VN {M:G5}{x:Int}(v:Value) (h:x∉M.map (·.1)):Ut M x v=M++[(x,v)]:=by
 unfold Ut;have:FX M x=none:=by unfold FX;rw[II,IL];intro y a b;exact h (AE.2 ⟨y,a,by simpa using b⟩)
 rw[this];rfl
theorem DR.iH (h:DR B ea w g gp bm vd wp s st) {w':World}{k:Int}{v:Value}{b:Az}(l:Ac (λi=>i=bm) w w') {M:G5}(r:BR w bm .i64 M) (p:BR w' bm .i64 (M++[(k,v)]))
  (u:M.map (·.1)=st.rules.map (·.1)) (C:∀(i:Nat) (x:Int×Value) (y:Int×Az),M[i]?=some x->st.rules[i]?=some y->DG (λb=>B<=b/\b≠g) w x.2 y.2) (m:DG (λb=>B<=b/\b≠g) w v b):
  DR B ea w' g gp bm vd wp s {st with rules:=st.rules++[(k,b)]}:=by
 have c:∀(b:Nat) t cs,AF w b t cs->¬(b=bm):=λb t cs n e=>r.bK (e▸n) rfl;have d:∀{v b},DG (λb=>B<=b/\b≠g) w v b->DG (λb=>B<=b/\b≠g) w' v b:=λD=>D.kept (λk cs _ n=>l.block k (c k _ cs n));refine⟨h.env.kept l (λb m=>by rw[m];exact h.nD),h.row.kept l (c _ _ _ h.row),h.bQ.kept l (c _ _ _ h.bQ),h.decls.kept l (λb m e=>h.decls.fc r (by rw[m,e])),⟨M++[(k,v)],p,?_,?_⟩,h.bJ.dU l (λb cs n=>c b _ cs n),h.g0,h.jo,h.nD,h.i,h.s,h.dl⟩
 ·show(M++[(k,v)]).map (·.1)=(st.rules++[(k,b)]).map (·.1);rw[Cb,Cb,u];rfl
 ·intro i x y f z;have o:M.length=st.rules.length:=by have:=AH List.length u;simpa using this
  rcases Be i M.length with q|q
  ·rw[AX q]at f;have a:(st.rules++[(k,b)])[i]?=some y:=z;rw[AX (by omega)]at a;exact d (C i x y f a)
  ·rw[BG q]at f;have a:(st.rules++[(k,b)])[i]?=some y:=z;rw[BG (by omega),←o]at a;cases A:i-M.length with
   |zero=>
    rw[A]at f a;simp at f a;subst f a;exact d m
   |succ j=>rw[A]at f;simp at f
def Oq (s:Ah) (st:PS):AQ Int:=if(next s st).t.kind=Fo then .ok (-1) (next s (next s st))else name s false (next s st)
theorem NM {x:Option (Nat×Nat)}(h:IY B ea w wp x):(x=none/\wp= .pointer none)\/(∃y gf,x=some y/\wp= .pointer (some ⟨gf,0,none⟩)):=by
 cases x with
 |none=>exact .inl ⟨rfl,h⟩
 |some y=>obtain⟨gf,a,_⟩:=h;exact .inr ⟨y,gf,rfl,a⟩
def Om (at_:Nat) (k:Int) (st:PS):PS:=if(Bj st.rules k).isSome&&st.bJ.isNone then note J1 at_ st else st
theorem NS (s:Ah) (n:Nat) (st:PS):GJ s n st=(Oq s st).bind λk st1=>(block s n (Om st.t.pos k st1)).bind λb st=>.ok () (if st.bJ.isNone then {st with rules:=st.rules++[(k,b)]}else st):=by
 unfold GJ CQ Oq;simp only;split
 ·rfl
 ·cases name s false (next s st)<;>rfl
theorem qV {k:Int}{st1:PS}(a:st.Ok s) (h:Oq s st= .ok k st1):Gn s (next s st) st1:=by
 unfold Oq at h;split at h
 ·injection h with _ h;subst h;exact Gn.next (Ce a)
 ·exact(E7 (Ce a) h).1
theorem ph (h:DR B ea w g gp bm vd wp s st) (ok:st.Ok s) (hd:st.depth=0) (hl:st.loops=0) (hk:st.t.kind=T9) {n:Nat}(hn:2*left s st+1<=n):
  Calls prog 74 #[.pointer (some ⟨g,0,none⟩)] w λe w'=>JZ B ea w g gp bm s (GJ s n st) e w':=by
 have dJ:=Er h;obtain⟨_,_,_,_,c4,_⟩:=AZ h.row;have hB:=h.env.size;have hg:=h.g0;have dK:=D6 ok hk (by decide) (by decide);obtain⟨HN,ci,HK,HD,HL,fK,fL,H0⟩:=zq8 dJ ok hk hd hl dK hn h;clear dJ h ok hk hd hl dK hn;unfold vs at*;go_enter func74,ntmps74;go_wp2_with fail;refine HN.out.mono ?_;rintro e w1 ⟨rfl,dL,h1⟩;have ht:=Gr h1 Fo;obtain⟨H1,K1,HT⟩:=zq3 h1 dL ht;clear h1 dL ht;go_upto_if 16 with(refine HT.out.mono ?_;rintro e w2 ⟨rfl,dN,h2⟩;have H2:=Aa h2;have K2:=Aa dN;clear dN h2);go_cut [3] (λs3 wx=>∃k st1 bK bL,s3= .int .i64 k/\Oq s st= .ok k st1/\DR B ea wx g gp bm bK bL s st1/\Kg g w wx)
 case first=>
  by_cases hm:(next s st).t.kind=Fo
  ·have h2:=H2.out;rw[LT hm]at h2;have et:(take s Fo (next s st)).1=true:=by rw[LT hm]
   have Z:Oq s st= .ok (-1) (next s (next s st)):=by unfold Oq;rw[Al hm]
   have F:=Aa (And.intro h2 Z);rw[et];clear h2 Z hm et;go_wp2_with fail;go_meet;exact⟨_,_,_,_,rfl,F.out.2,F.out.1,Kg.trans K1.out K2.out⟩
  ·have h2:=H2.out;rw[Lb hm]at h2;have et:(take s Fo (next s st)).1=false:=by rw[Lb hm]
   have Z:Oq s st=name s false (next s st):=by unfold Oq;rw[Ai hm]
   have hn:=Js h2 false;obtain⟨F,fO,H⟩:=zq3 Z hn h2;rw[et];clear h2 Z hm hn et;go_wp2_with fail;refine fO.out.mono ?_;rintro e w3 O;cases hx:name s false (next s st)with
   |bad k pos=>
    rw[hx]at O;obtain⟨gf,rfl,hF⟩:=Bn hB hg (Kg.trans K1.out K2.out) O;have fP:=Aa hx;clear hx;go_wp2;refine⟨rfl,?_⟩;rw[NS,F.out,fP.out];exact⟨gf,rfl,hF⟩
   |ok k st1=>
    rw[hx]at O;obtain⟨v,rfl,rfl,dP,iT,i8,h3⟩:=O;have G:=Aa (And.intro hx (And.intro dP h3));clear hx dP h3;go_wp2_with fail;go_meet;exact⟨_,_,_,_,rfl,F.out.trans G.out.1,G.out.2.2,Kg.trans (Kg.trans K1.out K2.out) G.out.2.1⟩
 case rest=>
  obtain⟨k,st1,bK,bL,rfl,hx,h1,k1⟩:=hcut;have fw:=qV ci.out hx;have fT:=fw.left;obtain⟨_,_,_,_,_,c5,_,_,_,c9⟩:=AZ h1.row;have p2:=h1.bQ.cell 2;simp at p2;obtain⟨v,bM,_⟩:=h1.rules.look k;have cj:=bM true;simp only[A7]at cj;have iA:wc.cell? ⟨12,0,none⟩=some (.iface 304 (.pointer (some (ea 8)))):=h1.env.err 8 (by omega) (by omega);have bN:=Hi h1 8 st.t.pos;have dQ:=NM h1.bJ;have je:B<=w.heap.size:=hB;have cu:((Bj st1.rules k).isSome=false)\/((Bj st1.rules k).isSome=true/\st1.bJ=none/\bL= .pointer none)\/((Bj st1.rules k).isSome=true/\∃y gf,st1.bJ=some y/\bL= .pointer (some ⟨gf,0,none⟩)):=by
   cases (Bj st1.rules k).isSome with
   |false=>exact .inl rfl
   |true=>
    rcases dQ with⟨a,b⟩|⟨y,gf,a,b⟩
    ·exact .inr (.inl ⟨rfl,a,b⟩)
    ·exact .inr (.inr ⟨rfl,y,gf,a,b⟩)
  obtain⟨FW,Z,dR,dF,gH⟩:=zq5 fw hx h1 k1 bN;clear hx h1 k1 bN bM fw fT dQ;have gI:∃r,r=Om st.t.pos k st1:=⟨_,rfl⟩;obtain⟨r,bO⟩:=gI;have dS:∀W vd wp,DR B ea W g gp bm vd wp s r->Calls prog 117 #[.pointer (some ⟨g,0,none⟩)] W λe w'=>DX B ea W g gp bm s (block s n r) (λw' b v=>DG (λk=>W.heap.size<=k) w' v b) e w':=by
   intro W vd wp hr;have dU:Gn s st1 r:=by
    rw[bO];unfold Om;split
    ·exact Gn.note FW.out.ok _ _
    ·exact Gn.refl FW.out.ok
   have F:=FW.out.trans dU;have hd:r.depth=0:=F.depth.trans HD.out;have hl:r.loops=0:=F.loops.trans HL.out;exact mH hr F.ok (by omega) (by omega) (by have h1:=fK.out;have h2:=F.left;have h3:=fL.out;omega)
  obtain⟨dG,u⟩:=zq2 dS bO;clear dS bO;rcases cu with D|⟨D,hw,rfl⟩|⟨D,y,gf,hw,rfl⟩
  rotate_left
  ·rw[D]at cj;have P:r=note J1 st.t.pos st1:=by rw[u.out];unfold Om;rw[D,hw];rfl
   have ik:=Aa P;clear D hw P;unfold Ds at*;go_wp2_with fail;refine gH.out.mono ?_;rintro e w4 ⟨rfl,dV,iu,h4⟩;have dW:DR B ea w4 g gp bm bK iu s r:=by rw[ik.out];exact h4
   obtain⟨H,Q⟩:=zq2 dW (Kg.trans dF.out dV);clear h4 dW dV;go_wp2_with fail;refine(dG.out _ _ _ H.out).mono ?_;rintro e w5 O;cases f:block s n r with
   |bad k2 pos=>
    rw[f]at O;obtain⟨gf,rfl,hF⟩:=Bn hB hg Q.out O;have bR:=Aa f;clear f;go_wp2;refine⟨rfl,?_⟩;rw[NS,Z.out];show JZ _ _ _ _ _ _ _ ((block s n (Om st.t.pos k st1)).bind _) _ _;rw[←u.out,bR.out];exact⟨gf,rfl,hF⟩
   |ok b d=>
    rw[f]at O;obtain⟨vb,rfl,I,J,dX,fc,K⟩:=O;have x:=Kg.trans Q.out J;have L:Ac (λb=>B<=b) w w5:=x.mono (λb D=>D.elim (λe=>e▸hg) (λD=>Ad hB D));have c:GJ s n st= .ok () (if d.bJ.isNone then {d with rules:=d.rules++[(k,b)]}else d):=by rw[NS,Z.out];show(block s n (Om st.t.pos k st1)).bind _=_;rw[←u.out,f];rfl
    have i:CQ s st= .ok k r:=by have h:=Z.out;unfold Oq at h;unfold CQ;simp only;rw[h,u.out];rfl
    have j:=Ge ci.out HK.out i;have p:=j.1;have l:=DW p.ok (by rw[p.depth,HD.out];omega) (by rw[p.loops,HL.out];omega) f;have m:d.rules=st.rules:=l.1.rules.trans p.rules;have o:d.bJ=none->k∉st.rules.map (·.1):=λhw=>(j.2.2 (l.1.bJ hw)).2;obtain⟨_,_,_,_,_,fd,_,_,_,fx⟩:=AZ K.row;obtain⟨bS,R,S⟩:=zp3 (K.bQ.cell 2) H.out.row.lt H.out.env.size;have z:DG (λb=>B<=b/\b≠g) w5 vb b:=I.mono (λk _ hk=>⟨by omega,by omega⟩);obtain⟨H5,T,fy,bU,fB,fC⟩:=zq6 K L c z m o;simp at bS;rcases NM K.bJ with⟨q,rfl⟩|⟨y3,fD,q,rfl⟩
    ·obtain⟨M,hM,N,U⟩:=K.rules;have E:k∉M.map (·.1):=by rw[N,m];exact o q
     obtain⟨HM,bV,bW,V⟩:=zq4 hM N U E;have A:Hid (GJ s n st= .ok () {d with rules:=d.rules++[(k,b)]}):=Aa (by rw[c,Al (by rw[q];rfl)]);clear f K J x L c i j p l m o I z q hM N U E R S;go_wp2_with (at_mapUpdate;go_must (refine Hv EV Db HM.out rfl _ _ _ rfl rfl k rfl vb rfl ?_;intro w6 C X;have bX:=Aa C;have Y:=Aa X;clear C X));go_end0;have C:=bX.out;rw[VN _ V.out]at C;have bY:=H5.out.iH (b:=b) Y.out HM.out C bV.out bW.out bU.out;rw[A.out];exact⟨rfl,T.out.trans (Y.out.mono (λb D=>by rw[D];exact H5.out.nD)),_,_,bY⟩
    ·have A:Hid (GJ s n st= .ok () d):=Aa (by rw[c,Ai (by rw[q];simp)]);clear f K J x L c i j p l m o I z q R S;go_wp2;go_end0;rw[A.out];exact⟨rfl,T.out,_,_,H5.out⟩
  ·rw[D]at cj;have P:r=st1:=by rw[u.out];unfold Om;rw[D,hw];rfl
   have H:Hid (DR B ea wc g gp bm bK (.pointer (some ⟨gf,0,none⟩)) s r):=Aa (by rw[P];exact dR.out);have Q:=Aa dF.out;clear D hw P;go_wp2_with fail;refine(dG.out _ _ _ H.out).mono ?_;rintro e w5 O;cases f:block s n r with
   |bad k2 pos=>
    rw[f]at O;obtain⟨gf,rfl,hF⟩:=Bn hB hg Q.out O;have bR:=Aa f;clear f;go_wp2;refine⟨rfl,?_⟩;rw[NS,Z.out];show JZ _ _ _ _ _ _ _ ((block s n (Om st.t.pos k st1)).bind _) _ _;rw[←u.out,bR.out];exact⟨gf,rfl,hF⟩
   |ok b d=>
    rw[f]at O;obtain⟨vb,rfl,I,J,dX,fc,K⟩:=O;have x:=Kg.trans Q.out J;have L:Ac (λb=>B<=b) w w5:=x.mono (λb D=>D.elim (λe=>e▸hg) (λD=>Ad hB D));have c:GJ s n st= .ok () (if d.bJ.isNone then {d with rules:=d.rules++[(k,b)]}else d):=by rw[NS,Z.out];show(block s n (Om st.t.pos k st1)).bind _=_;rw[←u.out,f];rfl
    have i:CQ s st= .ok k r:=by have h:=Z.out;unfold Oq at h;unfold CQ;simp only;rw[h,u.out];rfl
    have j:=Ge ci.out HK.out i;have p:=j.1;have l:=DW p.ok (by rw[p.depth,HD.out];omega) (by rw[p.loops,HL.out];omega) f;have m:d.rules=st.rules:=l.1.rules.trans p.rules;have o:d.bJ=none->k∉st.rules.map (·.1):=λhw=>(j.2.2 (l.1.bJ hw)).2;obtain⟨_,_,_,_,_,fd,_,_,_,fx⟩:=AZ K.row;obtain⟨bS,R,S⟩:=zp3 (K.bQ.cell 2) H.out.row.lt H.out.env.size;have z:DG (λb=>B<=b/\b≠g) w5 vb b:=I.mono (λk _ hk=>⟨by omega,by omega⟩);obtain⟨H5,T,fy,bU,fB,fC⟩:=zq6 K L c z m o;simp at bS;rcases NM K.bJ with⟨q,rfl⟩|⟨y3,fD,q,rfl⟩
    ·obtain⟨M,hM,N,U⟩:=K.rules;have E:k∉M.map (·.1):=by rw[N,m];exact o q
     obtain⟨HM,bV,bW,V⟩:=zq4 hM N U E;have A:Hid (GJ s n st= .ok () {d with rules:=d.rules++[(k,b)]}):=Aa (by rw[c,Al (by rw[q];rfl)]);clear f K J x L c i j p l m o I z q hM N U E R S;go_wp2_with (at_mapUpdate;go_must (refine Hv EV Db HM.out rfl _ _ _ rfl rfl k rfl vb rfl ?_;intro w6 C X;have bX:=Aa C;have Y:=Aa X;clear C X));go_end0;have C:=bX.out;rw[VN _ V.out]at C;have bY:=H5.out.iH (b:=b) Y.out HM.out C bV.out bW.out bU.out;rw[A.out];exact⟨rfl,T.out.trans (Y.out.mono (λb D=>by rw[D];exact H5.out.nD)),_,_,bY⟩
    ·have A:Hid (GJ s n st= .ok () d):=Aa (by rw[c,Ai (by rw[q];simp)]);clear f K J x L c i j p l m o I z q R S;go_wp2;go_end0;rw[A.out];exact⟨rfl,T.out,_,_,H5.out⟩
  ·rw[D]at cj;have P:r=st1:=by rw[u.out];unfold Om;rw[D];rfl
   have H:Hid (DR B ea wc g gp bm bK bL s r):=Aa (by rw[P];exact dR.out);have Q:=Aa dF.out;clear D P;go_wp2_with fail;refine(dG.out _ _ _ H.out).mono ?_;rintro e w5 O;cases f:block s n r with
   |bad k2 pos=>
    rw[f]at O;obtain⟨gf,rfl,hF⟩:=Bn hB hg Q.out O;have bR:=Aa f;clear f;go_wp2;refine⟨rfl,?_⟩;rw[NS,Z.out];show JZ _ _ _ _ _ _ _ ((block s n (Om st.t.pos k st1)).bind _) _ _;rw[←u.out,bR.out];exact⟨gf,rfl,hF⟩
   |ok b d=>
    rw[f]at O;obtain⟨vb,rfl,I,J,dX,fc,K⟩:=O;have x:=Kg.trans Q.out J;have L:Ac (λb=>B<=b) w w5:=x.mono (λb D=>D.elim (λe=>e▸hg) (λD=>Ad hB D));have c:GJ s n st= .ok () (if d.bJ.isNone then {d with rules:=d.rules++[(k,b)]}else d):=by rw[NS,Z.out];show(block s n (Om st.t.pos k st1)).bind _=_;rw[←u.out,f];rfl
    have i:CQ s st= .ok k r:=by have h:=Z.out;unfold Oq at h;unfold CQ;simp only;rw[h,u.out];rfl
    have j:=Ge ci.out HK.out i;have p:=j.1;have l:=DW p.ok (by rw[p.depth,HD.out];omega) (by rw[p.loops,HL.out];omega) f;have m:d.rules=st.rules:=l.1.rules.trans p.rules;have o:d.bJ=none->k∉st.rules.map (·.1):=λhw=>(j.2.2 (l.1.bJ hw)).2;obtain⟨_,_,_,_,_,fd,_,_,_,fx⟩:=AZ K.row;obtain⟨bS,R,S⟩:=zp3 (K.bQ.cell 2) H.out.row.lt H.out.env.size;have z:DG (λb=>B<=b/\b≠g) w5 vb b:=I.mono (λk _ hk=>⟨by omega,by omega⟩);obtain⟨H5,T,fy,bU,fB,fC⟩:=zq6 K L c z m o;simp at bS;rcases NM K.bJ with⟨q,rfl⟩|⟨y3,fD,q,rfl⟩
    ·obtain⟨M,hM,N,U⟩:=K.rules;have E:k∉M.map (·.1):=by rw[N,m];exact o q
     obtain⟨HM,bV,bW,V⟩:=zq4 hM N U E;have A:Hid (GJ s n st= .ok () {d with rules:=d.rules++[(k,b)]}):=Aa (by rw[c,Al (by rw[q];rfl)]);clear f K J x L c i j p l m o I z q hM N U E R S;go_wp2_with (at_mapUpdate;go_must (refine Hv EV Db HM.out rfl _ _ _ rfl rfl k rfl vb rfl ?_;intro w6 C X;have bX:=Aa C;have Y:=Aa X;clear C X));go_end0;have C:=bX.out;rw[VN _ V.out]at C;have bY:=H5.out.iH (b:=b) Y.out HM.out C bV.out bW.out bU.out;rw[A.out];exact⟨rfl,T.out.trans (Y.out.mono (λb D=>by rw[D];exact H5.out.nD)),_,_,bY⟩
    ·have A:Hid (GJ s n st= .ok () d):=Aa (by rw[c,Ai (by rw[q];simp)]);clear f K J x L c i j p l m o I z q R S;go_wp2;go_end0;rw[A.out];exact⟨rfl,T.out,_,_,H5.out⟩
end
section
variable {B:Nat}{ea:Nat->Addr}{w:World}{g gp bm:Nat}{vd wp:Value}{s:Ah}{st:PS}
theorem DR.l7 (h:DR B ea w g gp bm vd wp s st):DR B ea (w.setCell ⟨g,6,none⟩ (.bool true)) g gp bm vd wp s {st with bX:=true}:=by have a:Kg g w (w.setCell ⟨g,6,none⟩ (.bool true)):=Kg.cell g w 6 _;exact h.dS (st':={st with bX:=true}) (h.kg a) (h.row.bM 6 (.bool true)) rfl rfl rfl (h.bJ.quiet (h.kg a)) h.i
theorem DR.iF (h:DR B ea w g gp bm vd wp s st) (i:Nat) (u:Value) {a:Value}{st':PS}(c:AF (w.setCell ⟨gp,i,none⟩ u) gp 106 [a,.int .i64 st'.bI,.map (some bm)])
  (m:Sl (λb=>B<=b/\b≠g) (w.setCell ⟨gp,i,none⟩ u) 102 3 a st'.decls.length (st'.decls.flatMap Dx)) (j:st'.decls.length<=1000) (d:Dv s st' gp wp=Dv s st gp wp) (l:st'.rules=st.rules) (n:st'.bJ=st.bJ) (o:st'.i=st.i):
  DR B ea (w.setCell ⟨gp,i,none⟩ u) g gp bm a wp s st':=by
 have f:Ac (λb=>b=gp) w (w.setCell ⟨gp,i,none⟩ u):=Ac.one w ⟨gp,i,none⟩ u;refine⟨h.env.kept f (λb p=>by rw[p];exact h.jo),by rw[d];exact h.row.kept f (λe=>h.oo e.symm),c,m,?_,by rw[n];exact h.bJ.dU f (λb cs c e=>c.cZ h.bQ (by decide) e),h.g0,h.jo,h.nD,by rw[o];exact h.i,h.s,j⟩;rw[l];exact h.rules.kept (f.block bm (λe=>by obtain⟨M,q,_⟩:=h.rules;exact q.bK h.bQ e)) (λk cs _ c=>f.block k (λe=>c.cZ h.bQ (by decide) e))
theorem DR.gI (h:DR B ea w g gp bm vd wp s st) (n:Int):DR B ea (w.setCell ⟨gp,1,none⟩ (.int .i64 n)) g gp bm vd wp s {st with bI:=n}:=
 h.iF 1 (.int .i64 n) (h.bQ.bM 1 (.int .i64 n)) (h.decls.kept (Ac.one w ⟨gp,1,none⟩ _) (λb a e=>h.decls.bK h.bQ (by decide) (by rw[a];exact AH some e))) h.dl rfl rfl rfl rfl
theorem MH (c:B<=w.heap.size) (d:B<=g) {w':World}(h:Kg g w w'):Ac (λb=>B<=b) w w':=h.mono (λb a=>a.elim (λe=>e▸d) (λa=>Ad c a))
theorem my (h:DR B ea w g gp bm vd wp s st) (ok:st.Ok s) (hk:st.t.kind=Cy):
  Calls prog 73 #[.pointer (some ⟨g,0,none⟩)] w λe w'=>JZ B ea w g gp bm s (decl s st) e w':=by
 have Y:=Mj.start h 188 [vs st.t.kind,vs st.t.text,.int .i64 st.t.pos] (by decide);have I:=Er Y.rd;obtain⟨_,_,c2,c3,c4,_⟩:=AZ h.row;have V:=h.env.size;have G:=h.g0;obtain⟨HA,HN,o,Z⟩:=zq4 Y I (Ce ok) hk;clear Y I h ok hk;unfold vs at*;go_enter nX,gX;go_wp2_with fail;refine HN.out.mono ?_;rintro e w1 ⟨rfl,J,H⟩;have x:=HA.out.call J H;have d0:=x.row.cell 0;have d2:=x.row.cell 2;obtain⟨_,_,_,_,_,_,W,_⟩:=AZ H.row;have da:=H.row.frozen 6;simp at d0 d2;rw[Z.out]at d0;have cj:w1.cell? ⟨8,0,none⟩=some (.iface 304 (.pointer (some (ea 4)))):=H.env.err 4 (by omega) (by omega);have K:=Hi x.rd 4 st.t.pos;obtain⟨E,be,H1⟩:=zq3 x K H;clear x K H J;cases q:st.bX with
 |false=>
  have L:w1.cell? ⟨g,6,none⟩=some (.bool false):=by rw[←q];exact W
  have hF:=E.out.rd.l7;have M:=Kg.trans E.out.kg (Kg.cell g w1 6 (.bool true));have f:=IV (hF.drewN 1) (by exact⟨o.out.i,o.out.pos,o.out.more,o.out.num,o.out.name⟩) 1 99;obtain⟨HF,N,y⟩:=zq3 hF M f;obtain⟨_,_,_,_,_,c5,_⟩:=AZ hF.row;have c:decl s st=(number s 1 99 {next s st with bX:=true}).bind λn st=>(want s AP {st with bI:=n}).bind λ_ st=>.ok () st:=by unfold decl;simp only;rw[Al Z.out,Ai (by show¬st.bX=true;rw[q];exact A0)]
  have j:=Aa c;clear hF M f W c q;cases D:number s 1 99 {next s st with bX:=true}with
  |bad k pos=>
   have r:=Aa D;clear D;go_wp2_with fail
   go_region_dies
   all_goals
    refine y.out.mono ?_;rintro e w3 d;rw[r.out]at d;obtain⟨gf,rfl,hF⟩:=Bn V G (N.out.drewN 1) d;refine⟨rfl,?_⟩;rw[j.out,r.out];exact⟨gf,rfl,hF⟩
  |ok n l=>
   have r:=Aa D;clear D;go_wp2_with fail
   go_region_law (first|(go_simp;go_at_call 113;refine y.out.mono ?_;rintro e w3 d;rw[r.out]at d;obtain⟨v,rfl,rfl,z,bJ,bK,A⟩:=d;obtain⟨_,_,_,_,_,bL,_⟩:=AZ A.row;have p1:=A.bQ.cell 1;have pf:=A.bQ.frozen 1;have O:=Aa A;have K3:=Aa z;clear A z;simp at p1))
   all_goals
    have F:=O.out.gI n;have P:Ac (λb=>B<=b) w (w3.setCell ⟨gp,1,none⟩ (.int .i64 n)):=(MH V G (Kg.trans (N.out.drewN 1) K3.out)).setCell (p:=⟨gp,1,none⟩) O.out.jo _;have Q:=Dd F AP;obtain⟨R,HW,H4⟩:=zq3 P Q F;clear F P Q;go_wp2_with fail;refine HW.out.mono ?_;rintro e w5 d;cases a:want s AP {l with bI:=n}with
    |bad k pos=>
     rw[a]at d;obtain⟨gf,rfl,hF,hG⟩:=d;have m:=Aa a;clear a;go_wp2;refine⟨rfl,?_⟩;rw[j.out,r.out];show JZ _ _ _ _ _ _ _ ((want s AP {l with bI:=n}).bind _) _ _;rw[m.out];exact⟨gf,rfl,R.out.trans hF,hG⟩
    |ok tw bS=>
     rw[a]at d;obtain⟨v,rfl,rfl,C,bT,bU,S⟩:=d;obtain⟨m,K5,H5⟩:=zq3 a C S;clear a C S;go_wp2;go_end0;rw[j.out,r.out];show JZ _ _ _ _ _ _ _ ((want s AP {l with bI:=n}).bind _) _ _;rw[m.out];exact⟨rfl,R.out.trans (MH H4.out.env.size G K5.out),_,_,H5.out⟩
 |true=>
  have L:w1.cell? ⟨g,6,none⟩=some (.bool true):=by rw[←q];exact W
  have c:decl s st=(number s 1 99 {note CY st.t.pos (next s st)with bX:=true}).bind λn st=>(want s AP {st with bI:=n}).bind λ_ st=>.ok () st:=by unfold decl;simp only;rw[Al Z.out,Al (show(next s st).bX=true from q)]
  have j:=Aa c;clear W c q;unfold Ds at*;go_wp2_with fail;refine be.out.mono ?_;rintro e w2 ⟨rfl,T,bY,X⟩;have U:DR B ea w2 g gp bm vd bY s (note CY st.t.pos (next s st)):=X;have hF:=U.l7;have cw:=X.row.frozen 6;obtain⟨_,_,_,_,_,_,cy,_⟩:=AZ X.row;have M:=Kg.trans (Kg.trans E.out.kg T) (Kg.cell g w2 6 (.bool true));have u:=(Gn.note o.out CY st.t.pos).ok;have f:=IV (hF.drewN 1) (by exact⟨u.i,u.pos,u.more,u.num,u.name⟩) 1 99;obtain⟨HF,N,y⟩:=zq3 hF M f;obtain⟨_,_,_,_,_,c5,_⟩:=AZ hF.row;clear hF M f X U T u L;cases D:number s 1 99 {note CY st.t.pos (next s st)with bX:=true}with
  |bad k pos=>
   have r:=Aa D;clear D;go_wp2_with fail
   go_region_dies
   all_goals
    refine y.out.mono ?_;rintro e w3 d;rw[r.out]at d;obtain⟨gf,rfl,hF⟩:=Bn V G (N.out.drewN 1) d;refine⟨rfl,?_⟩;rw[j.out,r.out];exact⟨gf,rfl,hF⟩
  |ok n l=>
   have r:=Aa D;clear D;go_wp2_with fail
   go_region_law (first|(go_simp;go_at_call 113;refine y.out.mono ?_;rintro e w3 d;rw[r.out]at d;obtain⟨v,rfl,rfl,z,bJ,bK,A⟩:=d;obtain⟨_,_,_,_,_,bL,_⟩:=AZ A.row;have p1:=A.bQ.cell 1;have pf:=A.bQ.frozen 1;have O:=Aa A;have K3:=Aa z;clear A z;simp at p1))
   all_goals
    have F:=O.out.gI n;have P:Ac (λb=>B<=b) w (w3.setCell ⟨gp,1,none⟩ (.int .i64 n)):=(MH V G (Kg.trans (N.out.drewN 1) K3.out)).setCell (p:=⟨gp,1,none⟩) O.out.jo _;have Q:=Dd F AP;obtain⟨R,HW,H4⟩:=zq3 P Q F;clear F P Q;go_wp2_with fail;refine HW.out.mono ?_;rintro e w5 d;cases a:want s AP {l with bI:=n}with
    |bad k pos=>
     rw[a]at d;obtain⟨gf,rfl,hF,hG⟩:=d;have m:=Aa a;clear a;go_wp2;refine⟨rfl,?_⟩;rw[j.out,r.out];show JZ _ _ _ _ _ _ _ ((want s AP {l with bI:=n}).bind _) _ _;rw[m.out];exact⟨gf,rfl,R.out.trans hF,hG⟩
    |ok tw bS=>
     rw[a]at d;obtain⟨v,rfl,rfl,C,bT,bU,S⟩:=d;obtain⟨m,K5,H5⟩:=zq3 a C S;clear a C S;go_wp2;go_end0;rw[j.out,r.out];show JZ _ _ _ _ _ _ _ ((want s AP {l with bI:=n}).bind _) _ _;rw[m.out];exact⟨rfl,R.out.trans (MH H4.out.env.size G K5.out),_,_,H5.out⟩
end
structure FF (B:Nat) (ea:Nat->Addr) (g gp bm:Nat) (vd:Value) (s:Ah) (be:PS) (w0:World) (bL:Value) (st:PS) (w:World) (wp:Value):Prop where
 base:DR B ea w0 g gp bm vd bL s be
 decls:st.decls=be.decls
 bI:st.bI=be.bI
 rules:st.rules=be.rules
 i:st.i<=s.length
 kg:Kg g w0 w
 row:AF w g 190 (Dv s st gp wp)
 bJ:IY B ea w wp st.bJ
section
variable {B:Nat}{ea:Nat->Addr}{w w0:World}{g gp bm D:Nat}{vd wp bL:Value}{s:Ah}{st be:PS}{t:TypeId}{ds:List Value}
theorem FF.rd (h:FF B ea g gp bm vd s be w0 bL st w wp):DR B ea w g gp bm vd wp s st:=h.base.later h.kg h.row h.decls h.bI h.rules h.bJ h.i
theorem FF.start (h:DR B ea w g gp bm vd wp s st):FF B ea g gp bm vd s st w wp st w wp:=⟨h,rfl,rfl,rfl,h.i,Ac.refl _ _,h.row,h.bJ⟩
theorem FF.call (h:FF B ea g gp bm vd s be w0 bL st w wp) {w':World}{st':PS}{b a:Value}(e:Kg g w w') (c:DR B ea w' g gp bm b a s st') (f:st'.decls=st.decls) (j:st'.bI=st.bI) (d:st'.rules=st.rules):
  FF B ea g gp bm vd s be w0 bL st' w' a:=⟨h.base,f.trans h.decls,j.trans h.bI,d.trans h.rules,c.i,Kg.trans h.kg e,c.row,c.bJ⟩
theorem FF.alloc (h:FF B ea g gp bm vd s be w0 bL st w wp) (o:Obj):FF B ea g gp bm vd s be w0 bL st (w.alloc o) wp:=
 h.call (zAr.alloc (.inr (Ab _)) o) (h.rd.alloc o) rfl rfl rfl
theorem FF.drew (h:FF B ea g gp bm vd s be w0 bL st w wp):FF B ea g gp bm vd s be w0 bL st w.drew wp:=⟨h.base,h.decls,h.bI,h.rules,h.i,h.kg.drew,h.row,h.bJ.dU (S1:=λ_=>False) ((Ac.refl _ w).drew) (λ_ _ _ x=>x)⟩
theorem FF.bM (h:FF B ea g gp bm vd s be w0 bL st w wp) (a:AF w D t ds) (d:w0.heap.size<=D) (c:t≠190/\t≠129) (i:Nat) (u:Value):FF B ea g gp bm vd s be w0 bL st (w.setCell ⟨D,i,none⟩ u) wp:=
 ⟨h.base,h.decls,h.bI,h.rules,h.i,h.kg.setCell (p:=⟨D,i,none⟩) (.inr d) u,h.row.dK (h.row.cZ a (λe=>c.1 e.symm)) u,h.bJ.dU (Ac.one w ⟨D,i,none⟩ u) (λb cs f e=>f.cZ a (λe=>c.2 e.symm) e)⟩
theorem FF.rowAt (h:FF B ea g gp bm vd s be w0 bL st w wp) (a:AF w D t ds) (b:t≠190) {w':World}(c:Kg g w w'):AF w' D t ds:=(In c a.lt (a.cZ h.row b)).trans a
theorem decl_eq (s:Ah) (st:PS) (c:st.t.kind≠Cy):decl s st=(want s Ch (next s st)).bind λn st1=>(number s 1 (Cq st.t.kind) (Bh n st1)).bind λm b=>(want s AP b).bind λ_ a=>.ok () {a with decls:=a.decls++[⟨Eu st.t.kind,n.text,m⟩]}:=by unfold decl;simp only;rw[Ai c]
def OE (n:M9) (st:PS):PS:=if 0<=find st.decls n.text then note CY n.pos st else st
theorem Gc (n:M9) (st:PS):Bh n st=if(OE n st).decls.length=8 then note Ov n.pos (OE n st)else OE n st:=rfl
theorem GE (n:M9) (st:PS):(OE n st).decls=st.decls/\(OE n st).bI=st.bI/\(OE n st).rules=st.rules:=by
 unfold OE;split
 ·obtain⟨a,b,_,c,_⟩:=J5 (s:=[]) CY n.pos st;exact⟨a,b,c⟩
 ·exact⟨rfl,rfl,rfl⟩
theorem Kp (n:M9) (st:PS):(Bh n st).decls=st.decls/\(Bh n st).bI=st.bI/\(Bh n st).rules=st.rules:=by
 rw[Gc];obtain⟨x,y,z⟩:=GE n st;split
 ·obtain⟨a,b,_,c,_⟩:=J5 (s:=[]) Ov n.pos (OE n st);exact⟨a.trans x,b.trans y,c.trans z⟩
 ·exact⟨x,y,z⟩
theorem Fp (h:FF B ea g gp bm vd s be w0 bL st w wp) {e:Ending}{w':World}{k pos:Nat}(a:Tc B ea w e w' k pos):Tc B ea w0 e w' k pos:=Bn h.base.env.size h.base.g0 h.kg a
theorem V0:(prog.info? 102).map (λi=>(i.zero,i.size,i.bytes))=some (some (.agg #[.int .i64 0,vs [],.int .i64 0]),3,32):=by kernel_rfl
theorem DR.jE {n:Nat}{xs C:List Value}(h:DR B ea w g gp bm vd wp s st) (d:Bi) {m:World}{c:Value}(G:st.decls.length=n) (x:st.decls.flatMap Dx=xs) (y:Dx d=C)
  (r:Sl (λb=>B<=b/\b≠g) m 102 3 c (n+1) (xs++C))
  (l:Ac (λb=>vd.ownBlock=some b\/w.heap.size<=b) w m) (H:st.decls.length+1<=1000):
  Ac (λb=>B<=b) w (m.setCell ⟨gp,0,none⟩ c)/\DR B ea (m.setCell ⟨gp,0,none⟩ c) g gp bm c wp s {st with decls:=st.decls++[d]}:=by
 subst G x y;have z:∀b,vd.ownBlock=some b\/w.heap.size<=b->B<=b:=λb a=>a.elim (λa=>(h.decls.2 b a).1) (λa=>Ad h.env.size a);have u:AF m g 190 (Dv s st gp wp):=h.row.kept l (by
  rintro(a|a)
  ·exact(h.decls.2 g a).2 rfl
  ·exact absurd h.row.lt (CL.2 a))
 have f:AF m gp 106 [vd,.int .i64 st.bI,.map (some bm)]:=h.bQ.kept l (by
  rintro(a|a)
  ·exact h.decls.bK h.bQ (by decide) a
  ·exact absurd h.bQ.lt (CL.2 a))
 have E:Ac (λb=>B<=b) w m:=l.mono z;have v:Ac (λb=>b=gp) m (m.setCell ⟨gp,0,none⟩ c):=Ac.one m ⟨gp,0,none⟩ c;have F:(st.decls++[d]).length=st.decls.length+1:=by simp
 have I:(st.decls++[d]).flatMap Dx=st.decls.flatMap Dx++Dx d:=by simp
 have j:FT (λb=>B<=b/\b≠g) m bm st.rules:=h.rules.kept
  (l.block bm (by
   rintro(a|a)
   ·obtain⟨M,q,_⟩:=h.rules;exact h.decls.fc q a
   ·obtain⟨M,⟨J,K,q,_⟩,_⟩:=h.rules;rw[Cj a]at q;cases q))
  (λk cs _ o=>l.block k (by
   rintro(a|a)
   ·exact h.decls.bK o (by decide) a
   ·exact absurd o.lt (CL.2 a)))
 have A:IY B ea m wp st.bJ:=h.bJ.dU l (λb cs o=>by
  rintro(a|a)
  ·exact h.decls.bK o (by decide) a
  ·exact absurd o.lt (CL.2 a))
 refine⟨E.setCell (p:=⟨gp,0,none⟩) h.jo _,h.env.kept (E.setCell (p:=⟨gp,0,none⟩) h.jo c) (λb a=>a),u.kept v (λe=>h.oo e.symm),f.bM 0 c,?_,?_,A.dU v (λb cs o e=>o.cZ f (by decide) e),h.g0,h.jo,h.nD,h.i,h.s,by rw[F];exact H⟩
 ·rw[F,I];exact r.kept v (λb a e=>r.bK f (by decide) (e▸a))
 ·exact j.kept (v.block bm (λe=>by obtain⟨M,q,_⟩:=j;exact q.bK f e)) (λk cs _ o=>v.block k (λe=>o.cZ f (by decide) e))
theorem Jd (n:M9) (a:st.Ok s):(Bh n st).Ok s:=by
 have b:(OE n st).Ok s:=by
  unfold OE;split
  ·exact(Gn.note a _ _).ok
  ·exact a
 rw[Gc];split
 ·exact(Gn.note b _ _).ok
 ·exact b
end
end Go.Proofs.YtodkkholbjeioaaGreatDoor.Ev
