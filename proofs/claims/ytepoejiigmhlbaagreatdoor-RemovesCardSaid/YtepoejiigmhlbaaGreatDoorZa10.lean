/- Lemmas for a law's walk. Conditions: none. -/
import Derived.Test.YtepoejiigmhlbaaGreatDoorZa09
set_option linter.all false
set_option maxRecDepth 100000
set_option maxHeartbeats 8000000
namespace Go.Proofs.YtepoejiigmhlbaaGreatDoor.Ev
open _root_.Go.Proofs.Tryz
open Go Go.RowKit
section
variable {B:Nat}{ea:Nat->Addr}{w:World}{g gp bm:Nat}{vd wp:Value}{s:Ah}{st:PS}
theorem Um (w:World):(Go.sizeOf 199).run prog w= .ok 2 w:=by kernel_rfl
theorem Y7 (w:World):(isAgg 199).run prog w= .ok true w:=by kernel_rfl
theorem SO {α:Type}{x:AO α}{f:α->Qw}{n:α->Int}{k:Ah}(t:∀a,DB (f a)=[vs k,.int .i64 (n a)]) {W w0:World}{h:PS}{i l:Value}{T:Type}(c:L7 B ea g gp bm i l s h w0 W w0.heap.size 199 [vs [],.int .i64 0])
  {e:Ending} {w1:World} (r:DU B ea W g gp bm s x (λ_ a v=>v= .int .i64 (n a)) e w1):
  (∃a st1,x= .ok a st1/\e= .returned (.int .i64 (n a))/\(∀j,w1.frozen? ⟨w0.heap.size,j,none⟩=false)/\w1.cell? ⟨w0.heap.size,0,none⟩=some (vs [])/\w1.cell? ⟨w0.heap.size,1,none⟩=some (.int .i64 0)/\
   ∃vd wp,DO B ea ((w1.setCell ⟨w0.heap.size,0,none⟩ (vs k)).setCell ⟨w0.heap.size,1,none⟩ (.int .i64 (n a))) g gp bm vd wp s st1/\Kg g w0 ((w1.setCell ⟨w0.heap.size,0,none⟩ (vs k)).setCell ⟨w0.heap.size,1,none⟩ (.int .i64 (n a)))/\
    AE ((w1.setCell ⟨w0.heap.size,0,none⟩ (vs k)).setCell ⟨w0.heap.size,1,none⟩ (.int .i64 (n a))) w0.heap.size 199 (DB (f a)))\/
  (∃k pos,x= .bad k pos/\SE B ea w0 e w1 k pos):=by
 cases x with
 |ok a st1=>
  obtain⟨v,rfl,rfl,m,u,y,o⟩:=r;have d:=c.call m o;have p:=(d.bF (by decide) 0 (vs k)).bF (by decide) 1 (.int .i64 (n a));exact .inl ⟨a,st1,rfl,rfl,λj=>d.row.frozen j,d.row.cell 0,d.row.cell 1,_,_,p.rd,p.kg,by rw[t];exact p.row⟩
 |bad k pos=>
  obtain⟨gf,o,z,A,C⟩:=r;refine .inr ⟨k,pos,rfl,gf,o,?_,A,C⟩;exact Ac.trans (c.kg.mono (λb q=>by
   rcases q with rfl|q
   ·exact c.rd.g0
   ·exact Ad (Nat.le_of_lt_succ (Nat.lt_succ_of_le (c.b))) q)) z
theorem jy (h:DO B ea w g gp bm vd wp s st) (p:st.Ok s) (q:st.t.kind=Bv):
  Calls prog 151 #[.pointer (some ⟨g,0,none⟩)] w λe w'=>DU B ea w g gp bm s ((number s 0 999 st).map .num) (λ_ a v=>v= .agg (DB a).toArray) e w':=by
 have c:=L7.start h 199 [vs [],.int .i64 0] (by decide);have r:=IJ c.rd p 0 999;obtain⟨_,_,c2,_⟩:=AX c.rd.row;obtain⟨x,y⟩:=zq2 c r;have A:=c.ne;clear c r h p;rw[q]at c2;clear q;unfold vs at*;go_enter gI,Zu;go_wp2_with fail;refine y.out.mono ?_;rintro e w1 j;rcases SO (f:=.num) (n:=id) (k:=Bv) (T:=Unit) (λ_=>rfl) x.out j with⟨a,st1,d,rfl,z,C,D,l,m,u,i,b⟩|⟨k,pos,d,gf,rfl,hF⟩
 ·have o:=Aa d;have F:=Aa (And.intro u (And.intro i b));clear u i b d j;unfold vs id at*;go_wp2;refine AA (AP (cs:=DB (.num a)) Uv Y7 Um rfl F.out.2.2) rfl ?_;rw[o.out];exact⟨_,rfl,rfl,F.out.2.1,l,m,F.out.1⟩
 ·have o:=Aa d;clear j d;go_wp2;rw[o.out];exact⟨rfl,gf,rfl,hF⟩
theorem LF {k:Ah}(a:st.t.kind=k):take s k st=(true,next s st):=by unfold take;rw[Al a]
theorem KN {k:Ah}(a:st.t.kind≠k):take s k st=(false,st):=by unfold take;rw[Ai a]
theorem jz (h:DO B ea w g gp bm vd wp s st) (m:st.t.kind=JK):
  Calls prog 151 #[.pointer (some ⟨g,0,none⟩)] w λe w'=>DU B ea w g gp bm s ((name s false (next s st)).map .len) (λ_ a v=>v= .agg (DB a).toArray) e w':=by
 have l:=L7.start h 199 [vs [],.int .i64 0] (by decide);have o:=Gp l.rd JK;rw[LF m]at o;obtain⟨_,_,c2,_⟩:=AX l.rd.row;obtain⟨D,E⟩:=zq2 l o;clear l o h;rw[m]at c2;clear m;unfold vs at*;go_enter gI,Zu;go_wp2_with fail;refine E.out.mono ?_;rintro e w0 ⟨rfl,d,y⟩;have c:=D.out.call d y;have A:=Jj c.rd false;obtain⟨p,G⟩:=zq2 c A;clear d y c A;go_wp2_with fail;refine G.out.mono ?_;rintro e w1 q;rcases SO (f:=.len) (n:=id) (k:=JK) (T:=Unit) (λ_=>rfl) p.out q with⟨a,st1,i,rfl,z,H,I,r,u,C,j,b⟩|⟨k,pos,i,gf,rfl,hF⟩
 ·have x:=Aa i;have F:=Aa (And.intro C (And.intro j b));clear C j b i q;unfold vs id at*;go_wp2;refine AA (AP (cs:=DB (.len a)) Uv Y7 Um rfl F.out.2.2) rfl ?_;rw[x.out];exact⟨_,rfl,rfl,F.out.2.1,r,u,F.out.1⟩
 ·have x:=Aa i;clear q i;go_wp2;rw[x.out];exact⟨rfl,gf,rfl,hF⟩
theorem dF (h:DO B ea w g gp bm vd wp s st) (k:st.t.kind=Cx):
  Calls prog 151 #[.pointer (some ⟨g,0,none⟩)] w λe w'=>DU B ea w g gp bm s (.ok .aD (next s st)) (λ_ a v=>v= .agg (DB a).toArray) e w':=by
 have l:=L7.start h 199 [vs [],.int .i64 0] (by decide);have m:=Gp l.rd JK;rw[KN (by rw[k];decide)]at m;obtain⟨_,_,c2,_⟩:=AX l.rd.row;obtain⟨r,u⟩:=zq2 l m;clear l m h;have x:=Aa k;rw[k]at c2;clear k;unfold vs at*;go_enter gI,Zu;go_wp2_with fail;refine u.out.mono ?_;rintro e w0 ⟨rfl,f,p⟩;have c:=r.out.call f p;have d:=Gp c.rd Cx;rw[LF x.out]at d;obtain⟨n,o⟩:=zq2 c d;clear f p c d;go_wp2_with fail;refine o.out.mono ?_;rintro e w1 ⟨rfl,i,q⟩;have b:=n.out.call i q;have z:=λj=>b.row.frozen j;have y:=b.row.cell 0;have A:=b.row.cell 1;have F:=Aa ((b.bF (by decide) 0 (vs Cx)).bF (by decide) 1 (.int .i64 0));clear i q b;simp at y A;unfold vs at*;go_wp2;refine AA (AP (cs:=DB .aD) Uv Y7 Um rfl F.out.row) rfl ?_;exact⟨_,rfl,rfl,F.out.kg,_,_,F.out.rd⟩
theorem jx (h:DO B ea w g gp bm vd wp s st) (b:st.t.kind≠Bv) (l:st.t.kind≠JK) (m:st.t.kind≠Cx):
  Calls prog 151 #[.pointer (some ⟨g,0,none⟩)] w λe w'=>DU B ea w g gp bm s ((name s true st).map .var) (λ_ a v=>v= .agg (DB a).toArray) e w':=by
 have r:=L7.start h 199 [vs [],.int .i64 0] (by decide);have u:=Gp r.rd JK;rw[KN l]at u;obtain⟨_,_,c2,_⟩:=AX r.rd.row;obtain⟨M,N,x⟩:=zq3 r u m;have e1:(st.t.kind==Bv)=false:=by simpa using b
 clear r u h b l m;unfold vs at*;go_enter gI,Zu;go_wp2_with fail;refine N.out.mono ?_;rintro e w0 ⟨rfl,o,I⟩;have d:=M.out.call o I;have i:=Gp d.rd Cx;rw[KN x.out]at i;obtain⟨y,A⟩:=zq2 d i;clear o I d i;go_wp2_with fail;refine A.out.mono ?_;rintro e w1 ⟨rfl,b,J⟩;have j:=y.out.call b J;have K:=Jj j.rd true;obtain⟨C,O⟩:=zq2 j K;clear b J j K;go_wp2_with fail;refine O.out.mono ?_;rintro e P D;rcases SO (f:=.var) (n:=id) (k:=Jo) (T:=Unit) (λ_=>rfl) C.out D with⟨a,st1,p,rfl,z,Q,R,E,G,L,q,c⟩|⟨k,pos,p,gf,rfl,hF⟩
 ·have H:=Aa p;have F:=Aa (And.intro L (And.intro q c));clear L q c p D;unfold vs id at*;go_wp2;refine AA (AP (cs:=DB (.var a)) Uv Y7 Um rfl F.out.2.2) rfl ?_;rw[H.out];exact⟨_,rfl,rfl,F.out.2.1,E,G,F.out.1⟩
 ·have H:=Aa p;clear D p;go_wp2;rw[H.out];exact⟨rfl,gf,rfl,hF⟩
theorem Xk (h:DO B ea w g gp bm vd wp s st) (f:st.Ok s):
  Calls prog 151 #[.pointer (some ⟨g,0,none⟩)] w λe w'=>DU B ea w g gp bm s (value s st) (λ_ a v=>v= .agg (DB a).toArray) e w':=by
 unfold value;by_cases b:st.t.kind=Bv
 ·rw[Al b];exact jy h f b
 ·by_cases c:st.t.kind=JK
  ·rw[Ai b,Al c];exact jz h c
  ·by_cases d:st.t.kind=Cx
   ·rw[Ai b,Ai c,Al d];exact dF h d
   ·rw[Ai b,Ai c,Ai d];exact jx h b c d
end
structure L6 (B:Nat) (ea:Nat->Addr) (g gp bm:Nat) (vd wp:Value) (s:Ah) (st:PS) (w0 w:World) (R C:Nat) (T:TypeId) (cs ds:List Value):Prop where
 rd:DO B ea w g gp bm vd wp s st
 kg:Kg g w0 w
 row:AE w R T cs
 bH:AE w C T ds
 new:w0.heap.size<=R
 ic:w0.heap.size<=C
 ne:R≠C
 t:T≠63/\T≠83/\T≠59/\T≠103
section
variable {B:Nat}{ea:Nat->Addr}{w w0:World}{g gp bm R C:Nat}{vd wp:Value}{s:Ah}{st:PS}{T:TypeId}{cs ds:List Value}
theorem L7.nD (h:L7 B ea g gp bm vd wp s st w0 w R T cs) (o:Obj):L7 B ea g gp bm vd wp s st w0 (w.alloc o) R T cs:=
 ⟨h.rd.alloc o,h.kg.alloc (.inr h.kg.size) o,h.row.alloc o,h.new,h.b,h.t⟩
theorem L6.b (h:L6 B ea g gp bm vd wp s st w0 w R C T cs ds) (a:B<=w0.heap.size):B<=R/\B<=C:=⟨Ad a h.new,Ad a h.ic⟩
theorem L6.start (h:L7 B ea g gp bm vd wp s st w0 w R T cs) (a:T≠203) (ds:List Value):L6 B ea g gp bm vd wp s st w0 (w.alloc (.cells ds.toArray T)) R w.heap.size T cs ds:=
 ⟨h.rd.alloc _,h.kg.alloc (.inr h.kg.size) _,h.row.alloc _,AE.new _ _ _,h.new,h.kg.size,λe=>by have:=h.row.lt;omega,h.t⟩
theorem L6.call (h:L6 B ea g gp bm vd wp s st w0 w R C T cs ds) {w':World}{st':PS}{a b:Value}(c:Kg g w w') (d:DO B ea w' g gp bm a b s st'):L6 B ea g gp bm a b s st' w0 w' R C T cs ds:=
 ⟨d,Kg.trans h.kg c,(If c h.row.lt (h.row.bt h.rd.row h.t.2.2.2)).trans h.row,(If c h.bH.lt (h.bH.bt h.rd.row h.t.2.2.2)).trans h.bH,h.new,h.ic,h.ne,h.t⟩
theorem L6.bF (h:L6 B ea g gp bm vd wp s st w0 w R C T cs ds) (a:B<=w0.heap.size) (c:T≠203) (i:Nat) (u:Value):L6 B ea g gp bm vd wp s st w0 (w.setCell ⟨R,i,none⟩ u) R C T (cs.set i u) ds:=
 ⟨h.rd.bF (h.b a).1 h.row ⟨h.t.1,h.t.2.1,c,h.t.2.2.1⟩ h.t.2.2.2 i u,h.kg.setCell (p:=⟨R,i,none⟩) (.inr h.new) u,h.row.bF i u,h.bH.dc (λe=>h.ne e.symm) u,h.new,h.ic,h.ne,h.t⟩
theorem L6.cL (h:L6 B ea g gp bm vd wp s st w0 w R C T cs ds) (a:B<=w0.heap.size) (c:T≠203) (i:Nat) (u:Value):L6 B ea g gp bm vd wp s st w0 (w.setCell ⟨C,i,none⟩ u) R C T cs (ds.set i u):=
 ⟨h.rd.bF (h.b a).2 h.bH ⟨h.t.1,h.t.2.1,c,h.t.2.2.1⟩ h.t.2.2.2 i u,h.kg.setCell (p:=⟨C,i,none⟩) (.inr h.ic) u,h.row.dc h.ne u,h.bH.bF i u,h.new,h.ic,h.ne,h.t⟩
theorem Bn {W:World}{e:Ending}{w':World}{k pos:Nat}(d:B<=w0.heap.size) (f:B<=g) (a:Kg g w0 W) (h:SE B ea W e w' k pos):SE B ea w0 e w' k pos:=by obtain⟨gf,i,j,l⟩:=h;exact⟨gf,i,Ac.trans (a.mono (λb c=>c.elim (λe=>e▸f) (λc=>Ad d c))) j,l⟩
theorem Fl (c:CK):∃a n1 b n3,MN c=[vs a,.int .i64 n1,vs b,.int .i64 n3]:=by cases c<;>exact⟨_,_,_,_,rfl⟩
theorem UW (w:World):(Go.sizeOf 201).run prog w= .ok 7 w:=by kernel_rfl
theorem Y8 (w:World):(isAgg 201).run prog w= .ok true w:=by kernel_rfl
theorem kp (n:Nat):Dn (n+1)=!Dn n:=by
 unfold Dn;rcases Nat.mod_two_eq_zero_or_one n with h|h
 ·have:(n+1)%2=1:=by omega
  rw[h,this];rfl
 ·have:(n+1)%2=0:=by omega
  rw[h,this];rfl
theorem qX {n:Nat}(d:∀(w:World) (vd wp:Value),DO B ea w g gp bm vd wp s (next s st)->Calls prog 126 #[.pointer (some ⟨g,0,none⟩)] w λe w'=>DU B ea w g gp bm s (cond s n (next s st)) (λ_ a v=>v= .agg (Bt a).toArray) e w')
  (h:DO B ea w g gp bm vd wp s st) (F:st.t.kind=KU):
  Calls prog 126 #[.pointer (some ⟨g,0,none⟩)] w λe w'=>DU B ea w g gp bm s ((cond s n (next s st)).map λc=>⟨c.k,c.bI+1⟩) (λ_ a v=>v= .agg (Bt a).toArray) e w':=by
 have x:=L7.start h 201 [vs [],.int .i64 0,vs [],.int .i64 0,vs [],.int .i64 0,.bool false] (by decide);have y:=Gp x.rd KU;rw[LF F]at y;obtain⟨L,M,N⟩:=zq3 x y d;have O:=h.env.size;have P:=h.g0;clear x y h F d;unfold vs at*;go_enter func126,ntmps126;go_wp2_with fail;refine M.out.mono ?_;rintro e w0 ⟨rfl,l,G⟩;have f:=L.out.call l G;have H:=N.out _ _ _ f.rd;obtain⟨m,Q⟩:=zq2 f H;clear l G f H;go_wp2_with fail;refine Q.out.mono ?_;rintro e w1 q;cases i:cond s n (next s st)with
 |bad k pos=>
  rw[i]at q;obtain⟨gf,rfl,hF⟩:=Bn O P m.out.kg q;have A:=Aa i;clear i;go_wp2;rw[A.out];exact⟨rfl,gf,rfl,hF⟩
 |ok c st1=>
  rw[i]at q;obtain⟨v,rfl,rfl,o,S,U,I⟩:=q;obtain⟨r,n1,u,n3,D⟩:=Fl c.k;have b:=m.out.call o I;have z:=λj=>b.row.frozen j;have V:=b.row.lt;have W:¬w.heap.size=w1.heap.size:=by omega
  have J:Bt c=[vs (Cj c.k),.int .i64 (Bs c.k),vs r,.int .i64 n1,vs u,.int .i64 n3,.bool (Dn c.bI)]:=by unfold Bt;rw[D];rfl
  have e1:Bt ⟨c.k,c.bI+1⟩=[vs (Cj c.k),.int .i64 (Bs c.k),vs r,.int .i64 n1,vs u,.int .i64 n3,.bool !Dn c.bI]:=by unfold Bt;rw[D,kp];rfl
  have K:=(((((((b.bF (by decide) 0 (vs (Cj c.k))).bF (by decide) 1 (.int .i64 (Bs c.k))).bF (by decide) 2 (vs r)).bF (by decide) 3 (.int .i64 n1)).bF (by decide) 4 (vs u)).bF (by decide) 5 (.int .i64 n3)).bF (by decide) 6 (.bool !Dn c.bI)).nD
   (.cells #[vs (Cj c.k),.int .i64 (Bs c.k),vs r,.int .i64 n1,vs u,.int .i64 n3,.bool !Dn c.bI] 201)
  rw[J];obtain⟨X,Y,Z,d3,d4,d5,d6⟩:=zp7 (b.row.cell 0) (b.row.cell 1) (b.row.cell 2) (b.row.cell 3) (b.row.cell 4) (b.row.cell 5) (b.row.cell 6);obtain⟨E,E1,A⟩:=zq3 K e1 i;clear K b J e1 D o I i;simp at X Y Z d3 d4 d5 d6;unfold vs at*;go_wp2;have p:=E.out.row;have sz:∀w,(Go.sizeOf 201).run prog w= .ok (Bt ⟨c.k,c.bI+1⟩).length w:=by rw[bT];exact UW
  refine AA (AP (cs:=Bt ⟨c.k,c.bI+1⟩) rD Y8 sz rfl (by rw[E1.out];exact p)) rfl ?_;rw[A.out];exact⟨_,rfl,rfl,E.out.kg,_,_,E.out.rd⟩
theorem Tg (k:Ah) (y:Int->CK) (l:∀n,Bt ⟨y n,0⟩=[vs k,.int .i64 n,vs [],.int .i64 0,vs [],.int .i64 0,.bool false]) (m:k=E4\/k=DJ\/k=E3)
  (h:DO B ea w g gp bm vd wp s st) (A:st.t.kind=k):
  Calls prog 126 #[.pointer (some ⟨g,0,none⟩)] w λe w'=>DU B ea w g gp bm s ((name s false (next s st)).map λn=>⟨y n,0⟩) (λ_ a v=>v= .agg (Bt a).toArray) e w':=by
 have D:=L7.start h 201 [vs [],.int .i64 0,vs [],.int .i64 0,vs [],.int .i64 0,.bool false] (by decide);have o:st.t.kind≠KU:=by rw[A];rcases m with rfl|rfl|rfl<;>decide
 have E:=Gp D.rd KU;rw[KN o]at E;obtain⟨U,V⟩:=zq2 D E;have c:=h.env.size;have W:=h.g0;obtain⟨F,X⟩:=zq2 A l;clear D E h A o l;rcases m with rfl|rfl|rfl
 all_goals
  unfold vs at*;go_enter func126,ntmps126;go_wp2_with fail;refine V.out.mono ?_;rintro e w0 ⟨rfl,p,N⟩;have d:=U.out.call p N;obtain⟨_,_,c2,_⟩:=AX d.rd.row;have q:=F.out;rw[q]at c2;clear q;have f:=En (d.nD (.cells #[vs st.t.kind,.int .i64 0,vs [],.int .i64 0,vs [],.int .i64 0,.bool false] 201)).rd;have G:=L6.start d (by decide) [vs st.t.kind,.int .i64 0,vs [],.int .i64 0,vs [],.int .i64 0,.bool false];rw[F.out]at f G;obtain⟨Y,Z⟩:=zq2 G f;clear p N d f G;unfold vs at*;go_wp2_with fail;refine Z.out.mono ?_;rintro e w1 ⟨rfl,r,O⟩;have H:=Y.out.call r O;have f:=Jj H.rd false;obtain⟨P,I⟩:=zq2 H f;clear r O H f;go_wp2_with fail;refine I.out.mono ?_;rintro e w2 x;cases i:name s false (next s st)with
  |bad k pos=>
   rw[i]at x;obtain⟨gf,rfl,hF⟩:=Bn c W P.out.kg x;have J:=Aa i;clear i;go_wp2;rw[J.out];exact⟨rfl,gf,rfl,hF⟩
  |ok n st1=>
   rw[i]at x;obtain⟨v,rfl,rfl,u,aD,ba,Q⟩:=x;have b:=P.out.call u Q;have z:=λj=>b.row.frozen j;have z2:=λj=>b.bH.frozen j;have K:¬w.heap.size=w0.heap.size:=b.ne;have S:¬w0.heap.size=w.heap.size:=λe=>K e.symm;obtain⟨d0,d1,d2,d3,d4,d5,d6,e0⟩:=zp8 (b.row.cell 0) (b.row.cell 1) (b.row.cell 2) (b.row.cell 3) (b.row.cell 4) (b.row.cell 5) (b.row.cell 6) (b.bH.cell 0);obtain⟨e1,e2,e3,e4,e5,e6⟩:=zp6 (b.bH.cell 1) (b.bH.cell 2) (b.bH.cell 3) (b.bH.cell 4) (b.bH.cell 5) (b.bH.cell 6);have L:=(((((((b.cL c (by decide) 1 (.int .i64 n)).bF c (by decide) 0 (vs st.t.kind)).bF c (by decide) 1 (.int .i64 n)).bF c (by decide) 2 (vs [])).bF c (by decide) 3 (.int .i64 0)).bF c (by decide) 4 (vs [])).bF c (by decide) 5 (.int .i64 0)).bF c (by decide) 6 (.bool false);rw[F.out]at L;obtain⟨M,J⟩:=zq2 L i;clear b L u Q i;simp at d0 d1 d2 d3 d4 d5 d6 e0 e1 e2 e3 e4 e5 e6;unfold vs at*;go_wp2;refine AA (AP (cs:=[vs _,.int .i64 n,vs [],.int .i64 0,vs [],.int .i64 0,.bool false]) rD Y8 UW rfl M.out.row) rfl ?_;rw[J.out];exact⟨_,rfl,(by show _=Value.agg (Bt ⟨y n,0⟩).toArray;rw[X.out]),M.out.kg,_,_,M.out.rd⟩
theorem lX (h:DO B ea w g gp bm vd wp s st) (ok:st.Ok s) (i:st.t.kind≠KU) (l:st.t.kind≠E4) (m:st.t.kind≠DJ) (n:st.t.kind≠E3):
  Calls prog 126 #[.pointer (some ⟨g,0,none⟩)] w λe w'=>DU B ea w g gp bm s
   ((value s st).bind λa st=>(want s ER st).bind λ_ st=>(value s st).map λb=>⟨.less a b,0⟩) (λ_ a v=>v= .agg (Bt a).toArray) e w':=by
 have G:=L7.start h 201 [vs [],.int .i64 0,vs [],.int .i64 0,vs [],.int .i64 0,.bool false] (by decide);have H:=Gp G.rd KU;rw[KN i]at H;obtain⟨HA,HT⟩:=zq2 G H;have d:=h.env.size;have I:=h.g0;have x1:(st.t.kind==E4)=false:=by simpa using l
 have x2:(st.t.kind==DJ)=false:=by simpa using m
 have x3:(st.t.kind==E3)=false:=by simpa using n
 clear G H h i l m n;unfold vs at*;go_enter func126,ntmps126;go_wp2_with fail;refine HT.out.mono ?_;rintro e w0 ⟨rfl,i,S⟩;have q:=HA.out.call i S;obtain⟨_,_,c2,_⟩:=AX q.rd.row;have J:=L6.start q (by decide) [vs IV,.int .i64 0,vs [],.int .i64 0,vs [],.int .i64 0,.bool false];have p:=Xk J.rd ok;obtain⟨U,HN⟩:=zq2 J p;clear i S q p J;unfold vs at*;go_wp2_with fail;refine HN.out.mono ?_;rintro e w1 f;cases r:value s st with
 |bad k pos=>
  rw[r]at f;obtain⟨gf,rfl,hF⟩:=Bn d I U.out.kg f;have y:=Aa r;clear r;go_wp2;rw[y.out];exact⟨rfl,gf,rfl,hF⟩
 |ok a st1=>
  rw[r]at f;obtain⟨v,rfl,rfl,l,bj,bn,V⟩:=f;have A:=(QY ok r).1.ok;have D:=U.out.call l V;have K:=(D.cL d (by decide) 2 (vs (Ff a))).cL d (by decide) 3 (.int .i64 (C4 a));have z2:=λj=>D.bH.frozen j;have W:=D.bH.cell 2;have X:=D.bH.cell 3;have p:=Db K.rd ER;obtain⟨Y,L,y,HO⟩:=zq4 K p r A;clear l V D K p r A;simp at W X;unfold DB vs at*;go_wp2_with fail;refine L.out.mono ?_;rintro e w2 f;cases u:want s ER st1 with
  |bad k pos=>
   rw[u]at f;obtain⟨gf,rfl,hF⟩:=Bn d I Y.out.kg f;have F:=Aa u;clear u;go_wp2;refine⟨rfl,?_⟩;rw[y.out];show DU _ _ _ _ _ _ _ ((want s ER st1).bind _) _ _ _;rw[F.out];exact⟨gf,rfl,hF⟩
  |ok t o=>
   rw[u]at f;obtain⟨v,rfl,rfl,m,bq,br,Z⟩:=f;have E:o.Ok s:=by obtain⟨_,_,e⟩:=BF u;rw[e];exact Cc HO.out
   have M:=Y.out.call m Z;have p:=Xk M.rd E;obtain⟨Q3,N,F⟩:=zq3 M p u;clear m Z M p u E;go_wp2_with fail;refine N.out.mono ?_;rintro e w3 f;cases x:value s o with
   |bad k pos=>
    rw[x]at f;obtain⟨gf,rfl,hF⟩:=Bn d I Q3.out.kg f;have O:=Aa x;clear x;go_wp2;refine⟨rfl,?_⟩;rw[y.out];show DU _ _ _ _ _ _ _ ((want s ER st1).bind _) _ _ _;rw[F.out];show DU _ _ _ _ _ _ _ ((value s o).map _) _ _ _;rw[O.out];exact⟨gf,rfl,hF⟩
   |ok b bt=>
    rw[x]at f;obtain⟨v,rfl,rfl,n,bu,bx,h3⟩:=f;have c:=Q3.out.call n h3;have z:=λj=>c.row.frozen j;have bz:=λj=>c.bH.frozen j;have P:¬w.heap.size=w0.heap.size:=c.ne;have be:¬w0.heap.size=w.heap.size:=λe=>P e.symm;obtain⟨d0,d1,d2,d3,d4,d5,d6,f0⟩:=zp8 (c.row.cell 0) (c.row.cell 1) (c.row.cell 2) (c.row.cell 3) (c.row.cell 4) (c.row.cell 5) (c.row.cell 6) (c.bH.cell 0);obtain⟨f1,f2,f3,f4,f5,f6⟩:=zp6 (c.bH.cell 1) (c.bH.cell 2) (c.bH.cell 3) (c.bH.cell 4) (c.bH.cell 5) (c.bH.cell 6);have q5:=((((((((c.cL d (by decide) 4 (vs (Ff b))).cL d (by decide) 5 (.int .i64 (C4 b))).bF d (by decide) 0 (vs IV)).bF d (by decide) 1 (.int .i64 0)).bF d (by decide) 2 (vs (Ff a))).bF d (by decide) 3 (.int .i64 (C4 a))).bF d (by decide) 4 (vs (Ff b))).bF d (by decide) 5 (.int .i64 (C4 b))).bF d (by decide) 6 (.bool false);obtain⟨Q,O⟩:=zq2 q5 x;clear c q5 n h3 x z2 W X;simp at d0 d1 d2 d3 d4 d5 d6 f0 f1 f2 f3 f4 f5 f6;unfold DB vs at*;go_wp2;refine AA (AP (cs:=[vs IV,.int .i64 0,vs (Ff a),.int .i64 (C4 a),vs (Ff b),.int .i64 (C4 b),.bool false]) rD Y8 UW rfl Q.out.row) rfl ?_;rw[y.out];show DU _ _ _ _ _ _ _ ((want s ER st1).bind _) _ _ _;rw[F.out];show DU _ _ _ _ _ _ _ ((value s o).map _) _ _ _;rw[O.out];exact⟨_,rfl,rfl,Q.out.kg,_,_,Q.out.rd⟩
theorem VX:∀(n:Nat) (st:PS) (w:World) (vd wp:Value),DO B ea w g gp bm vd wp s st->st.Ok s->left s st<n->
  Calls prog 126 #[.pointer (some ⟨g,0,none⟩)] w λe w'=>DU B ea w g gp bm s (cond s n st) (λ_ a v=>v= .agg (Bt a).toArray) e w'
 |0,st,w,vd,wp,h,f,j=>by omega
 |n+1,st,w,vd,wp,h,f,j=>by
  unfold cond;by_cases c:st.t.kind=KU
  ·rw[Al c];exact qX (λw vd wp h=>VX n (next s st) w vd wp h (Cc f) (by have:=D3 f c (by decide) (by decide);omega)) h c
  ·rw[Ai c];unfold ET;by_cases b:st.t.kind=E4
   ·rw[Al b];exact Tg E4 .full (λ_=>rfl) (.inl rfl) h b
   ·by_cases d:st.t.kind=DJ
    ·rw[Ai b,Al d];exact Tg DJ .empty (λ_=>rfl) (.inr (.inl rfl)) h d
    ·by_cases i:st.t.kind=E3
     ·rw[Ai b,Ai d,Al i];exact Tg E3 .eU (λ_=>rfl) (.inr (.inr rfl)) h i
     ·rw[Ai b,Ai d,Ai i];exact lX h f c b d i
end
section
variable {B:Nat}{ea:Nat->Addr}{w w0:World}{g gp bm:Nat}{vd wp:Value}{s:Ah}{st:PS}
theorem DO.lC (h:DO B ea w g gp bm vd wp s st) (n:Nat) {i:Int}(b:i=n):DO B ea (w.setCell ⟨g,7,none⟩ (.int .i64 i)) g gp bm vd wp s {st with depth:=n}:=by subst b;have a:Kg g w (w.setCell ⟨g,7,none⟩ (.int .i64 n)):=Ac.setCell (p:=⟨g,7,none⟩) zAr (.inl rfl) _;exact h.dv (st':={st with depth:=n}) (h.kg a) (h.row.bF 7 (.int .i64 n)) rfl rfl rfl (h.bC.quiet (h.kg a)) h.i
theorem DO.nF (h:DO B ea w g gp bm vd wp s st) (n:Nat) {i:Int}(b:i=n):DO B ea (w.setCell ⟨g,8,none⟩ (.int .i64 i)) g gp bm vd wp s {st with loops:=n}:=by subst b;have a:Kg g w (w.setCell ⟨g,8,none⟩ (.int .i64 n)):=Ac.setCell (p:=⟨g,8,none⟩) zAr (.inl rfl) _;exact h.dv (st':={st with loops:=n}) (h.kg a) (h.row.bF 8 (.int .i64 n)) rfl rfl rfl (h.bC.quiet (h.kg a)) h.i
theorem Kg.cell (g:Nat) (w:World) (i:Nat) (u:Value):Kg g w (w.setCell ⟨g,i,none⟩ u):=Ac.setCell (p:=⟨g,i,none⟩) zAr (.inl rfl) u
def StF (cs:List Value):Prop:=∃(k:Ah) (n m:Int) (t:Bool) (a:Ah) (b:Int) (c:Ah) (d:Int) (e:Ah) (f:Int) (o:Bool) (h:Option Addr) (n1 i:Nat) (j:Option Addr) (l c2:Nat),
 cs=[vs k,.int .i64 n,.int .i64 m,.bool t,vs a,.int .i64 b,vs c,.int .i64 d,vs e,.int .i64 f,.bool o,.slice h n1 i,.slice j l c2]
def LZ (w0 w':World) (b:Az) (v:Value):Prop:=∃cs,v= .agg cs.toArray/\b.length=1/\StF cs/\A1 (λk=>w0.heap.size<=k) w' b cs
def rF (B:Nat) (ea:Nat->Addr) (g gp bm:Nat) (s:Ah) (m:Nat):Prop:=
 ∀(st:PS) (w:World) (vd wp:Value),DO B ea w g gp bm vd wp s st->st.Ok s->st.depth<=8->st.loops<=2->2*left s st+1<=m->
  Calls prog 109 #[.pointer (some ⟨g,0,none⟩)] w λe w'=>DU B ea w g gp bm s (stmt s m st) (LZ w) e w'
def Wb (B:Nat) (ea:Nat->Addr) (g gp bm:Nat) (s:Ah) (m:Nat):Prop:=
 ∀(st:PS) (w:World) (vd wp:Value),DO B ea w g gp bm vd wp s st->st.Ok s->st.depth<=8->st.loops<=2->2*left s st+1<=m->
  Calls prog 75 #[.pointer (some ⟨g,0,none⟩)] w λe w'=>DU B ea w g gp bm s (block s m st) (λw' b v=>DD (λk=>w.heap.size<=k) w' v b) e w'
theorem NW:∀(b:Az),b.app .nil=b
 | .nil=>rfl
 | .bG p r=>by simp[Az.app,NW r]
 | .ite c t o e r=>by simp[Az.app,NW r]
 | .rep n c b r=>by simp[Az.app,NW r]
theorem Ia:∀(a b c:Az),(a.app b).app c=a.app (b.app c)
 | .nil,_,_=>rfl
 | .bG p r,b,c=>by simp[Az.app,Ia r]
 | .ite _ _ _ _ r,b,c=>by simp[Az.app,Ia r]
 | .rep _ _ _ r,b,c=>by simp[Az.app,Ia r]
theorem pE:(prog.info? 203).map (λi=>(i.zero,i.size,i.bytes))=
  some (some (.agg #[vs [],.int .i64 0,.int .i64 0,.bool false,vs [],.int .i64 0,vs [],.int .i64 0,vs [],.int .i64 0,.bool false,.slice none 0 0,.slice none 0 0]),13,168):=by kernel_rfl
theorem IM.dy {S1:Nat->Prop}{w':World}{wp:Value}{x:Option (Nat×Nat)}(h:IM B ea w wp x) (c:Ac S1 w w') (d:∀b cs,AE w b 59 cs->¬S1 b):IM B ea w' wp x:=by
 cases x with
 |none=>exact h
 |some y=>
  obtain⟨gf,e,f,a⟩:=h;exact⟨gf,e,f,a.kept c (d _ _ a)⟩
theorem DO.later (h:DO B ea w g gp bm vd wp s st) {w':World}{st':PS}{a:Value}(c:Kg g w w') (d:AE w' g 103 (Dt s st' gp a)) (e:st'.decls=st.decls) (f:st'.aD=st.aD) (b:st'.rules=st.rules)
  (j:IM B ea w' a st'.bC) (k:st'.i<=s.length):DO B ea w' g gp bm vd a s st':=h.dv (h.kg c) d e f b j k
theorem Ms:∀(b:Az),b.length<=b.size
 | .nil=>Ab _
 | .bG _ r=>by have:=Ms r;simp only[Az.length,Az.size];omega
 | .ite _ _ _ _ r=>by have:=Ms r;simp only[Az.length,Az.size];omega
 | .rep _ _ _ r=>by have:=Ms r;simp only[Az.length,Az.size];omega
structure sO (B:Nat) (ea:Nat->Addr) (g gp bm:Nat) (s:Ah) (w0:World) (st0:PS) (n k:Nat) (v:Value) (wr:World) (st':PS) (done:Az) (m:Nat) (cs:List Value) (gl cap:Nat) (wp:Value):Prop where
 ghost:left s st'<=k
 fuel:2*left s st'+2<=m
 mn:m<=n
 eq:Fw s n st0=(Fw s m st').map (λr=>done.app r)
 ok:st'.Ok s
 fwd:Gl s st0 st'
 len:done.length+left s st'<=701
 kg:Kg g w0 wr
 row:AE wr g 103 (Dt s st' gp wp)
 bC:IM B ea wr wp st'.bC
 shape:v= .slice (some ⟨gl,0,none⟩) done.length cap
 sl:Sl (λb=>w0.heap.size<=b) wr 203 13 v done.length cs
 nc:A1 (λb=>w0.heap.size<=b/\b≠gl) wr done cs
def inner (s:Ah) (st:PS):PS:={next s st with depth:=st.depth+1}
theorem uR (s:Ah) (st:PS):left s st<=s.length+1:=by unfold left;omega
theorem fT (n:Nat) (bp:∀m,m<n+1->rF B ea g gp bm s m):Wb B ea g gp bm s (n+1):=by
 intro st w vd wp h ok hd hl hn;obtain⟨_,_,c2,_,_,_,_,c7,_⟩:=AX h.row;have hB:=h.env.size;have hg:=h.g0;have bx:w.cell? ⟨8,0,none⟩=some (.iface 307 (.pointer (some (ea 3)))):=h.env.err 3 (by omega) (by omega);have db:8<w.heap.size:=An (h.env.lt 3 (by omega) (by omega)) h.env.size;obtain⟨HR,fb,dh⟩:=zq3 h bp ok;by_cases G:st.t.kind=Cw
 ·have hw:want s Cw st= .ok st.t (next s st):=by unfold want;rw[Al G]
  by_cases h8:st.depth=8
  ·have e2:block s (n+1) st= .bad Sa st.t.pos:=by unfold block;rw[Al ⟨G,h8⟩];rfl
   rw[e2];have hf:=RS h 3;have HF:=Aa hf;rw[G]at c2;rw[h8]at c7;clear e2 hf h bp ok hw G h8;unfold vs Dq at*;go_enter func75,ntmps75;go_wp2_with fail;refine HF.out.mono ?_;rintro e w1 ⟨gf,rfl,hF⟩;go_wp2;exact⟨rfl,gf,rfl,hF⟩
  ·have e2:block s (n+1) st=(Fw s n (inner s st)).bind λb st=>.ok b (next s {st with depth:=st.depth-1}):=by unfold block;rw[Ai (by rintro⟨_,x⟩;exact h8 x),hw];rfl
   rw[e2];have c:=Db h Cw;rw[hw]at c;have HW:=Aa c;have e8:((st.depth:Int)==8)=false:=by simp;omega
   rw[G]at c2;obtain⟨HK,HN⟩:=zq2 G hn;have ji:st.depth<8:=by omega
   clear e2 c hw h bp ok h8 G hn bx db;unfold vs at*;go_enter func75,ntmps75;go_wp2_with fail;refine HW.out.mono ?_;rintro e w1 ⟨v,rfl,rfl,bH,jj,fj,I⟩;obtain⟨_,_,_,_,_,_,_,dj,_⟩:=AX I.row;have iG:w1.cell? ⟨g,7,none⟩=some (.int .i64 st.depth):=dj;obtain⟨f7,jk,h2⟩:=zp3 (I.row.frozen 7) I.row.lt (I.lC (st.depth+1) (i:=(st.depth:Int)+1) rfl);have k2:Kg g w (w1.setCell ⟨g,7,none⟩ (.int .i64 ((st.depth:Int)+1))):=Kg.trans bH (Kg.cell g w1 7 _);have bE:w.heap.size<=w1.heap.size:=bH.size;have b8:(st.depth:Int)<8:=by omega
   have b0:(0:Int)<=(st.depth:Int):=by omega
   have fm:(next s st).depth=st.depth:=rfl;have bI:(inner s st).Ok s:=by have:=Cc dh.out;exact⟨this.i,this.pos,this.more,this.num,this.name⟩
   have cy:left s (inner s st)<left s st:=D3 dh.out HK.out (by decide) (by decide);have fo:=h2.s;have fp:=uR s (inner s st);have O:sO B ea g gp bm s w (inner s st) n (left s st) (.slice (some ⟨w1.heap.size,0,none⟩) 0 0) ((w1.setCell ⟨g,7,none⟩ (.int .i64 ((st.depth:Int)+1))).alloc (.cells #[] 203)) (inner s st) .nil n [] w1.heap.size 0 fj:=by
    have V:=h2.alloc (.cells #[] 203);have hN:=HN.out;refine⟨by omega,by omega,Ab _,?_,bI,Gl.refl bI,by simp only[Az.length];omega,k2.alloc (.inr k2.size) _,V.row,V.bC,rfl,?_,rfl⟩
    ·cases Fw s n (inner s st)<;>rfl
    ·have P:=AE.new (w1.setCell ⟨g,7,none⟩ (.int .i64 ((st.depth:Int)+1))) 203 [];have e:(w1.setCell ⟨g,7,none⟩ (.int .i64 ((st.depth:Int)+1))).heap.size=w1.heap.size:=by simp
     rw[e]at P;exact Sl.fc P bE rfl (by unfold maxLen;omega)
   obtain⟨ft,jl⟩:=zq2 O k2;clear I bH h2 k2 dj O bI cy fm bE fo fp;unfold IK vs at*;obtain⟨i0,fP,fR,gQ,gX⟩:=Bg pE;go_wp2_with fail
   go_loopg [3] (left s st) (λkk v3 wr=>∃st' done m cs Q K cz,sO B ea g gp bm s w (inner s st) n kk v3 wr st' done m cs Q K cz)
   case atStart=>exact⟨_,_,_,_,_,_,_,ft.out⟩
   case round=>
    obtain⟨st',done,m,cs,Q,K,cz,J⟩:=hrel;have hv:=J.shape;subst hv;obtain⟨_,_,c2,_,_,_,_,c7,_⟩:=AX J.row;have li:=J.row.frozen 7;have iL:=J.row.lt;have dp:st'.depth=st.depth+1:=J.fwd.depth;obtain⟨m,rfl⟩:∃x,m=x+2:=⟨m-2,by have:=J.fuel;omega⟩;have dm:DO B ea wr g gp bm vd cz s st':=HR.out.later J.kg J.row J.fwd.decls J.fwd.aD J.fwd.rules J.bC J.ok.i;have iM:=J.len;obtain⟨dr,a⟩:=zq2 dm J;clear dm J;by_cases hc:st'.t.kind=DA
    ·rw[hc]at c2;rw[dp]at c7;have h3:=dr.out.lC st.depth (i:=(st.depth:Int)) rfl;have k3:Kg g w (wr.setCell ⟨g,7,none⟩ (.int .i64 (st.depth:Int))):=Kg.trans a.out.kg (Kg.cell g wr 7 _);have dt:=En h3;have dv:DD (λb=>w.heap.size<=b) wr (.slice (some ⟨Q,0,none⟩) done.length K) done:=⟨cs,⟨a.out.sl,_,_,rfl⟩,A1.mono (λ_ _ x=>x.1) _ _ a.out.nc⟩;have ec:(((st.depth+1:Nat):Int)-1)=(st.depth:Int):=by omega
     obtain⟨H3,K3,gY,gZ,HC,EC⟩:=zq6 h3 k3 dt dv hc ec;clear h3 k3 dt dv hc ec;unfold vs at*;go_wp2_with fail;refine gY.out.mono ?_;rintro e w3 ⟨rfl,dz,h4⟩;have F:=Aa (And.intro dz h4);clear dz h4;go_wp2;go_ret;have R:DD (λb=>w.heap.size<=b) w3 (.slice (some ⟨Q,0,none⟩) done.length K) done:=by refine gZ.out.kept (λk cs G P=>?_);have I:k<wr.heap.size:=P.lt;have h2:k≠g:=P.bt a.out.row (by decide);have e1:=If F.out.1 (b:=k) (by simpa using I) h2;have e2:=If (Kg.cell g wr 7 (.int .i64 (st.depth:Int))) I h2;exact e1.trans e2
     have hH:=a.out.fuel;have M:((Fw s n (inner s st)).bind λb st=>AO.ok b (next s {st with depth:=st.depth-1}))= .ok done (next s {st' with depth:=st.depth}):=by rw[a.out.eq,Fw,Al HC.out];show AO.ok (done.app .nil) (next s {st' with depth:=st'.depth-1})=_;rw[NW,dp];rfl
     rw[M];exact⟨_,rfl,R,Kg.trans K3.out F.out.1,_,_,F.out.2⟩
    ·have HC:=Aa hc;have bG:=fb.out (m+1) (by have:=a.out.mn;omega) st' wr _ _ dr.out a.out.ok (by rw[dp];omega) (by rw[a.out.fwd.loops];exact hl) (by have:=a.out.fuel;omega);have e1:(st'.t.kind==DA)=false:=by simpa using hc
     have dA:=Aa bG;clear bG hc;go_wp2_with fail;refine dA.out.mono ?_;rintro e w2 ho;cases hx:stmt s (m+1) st' with
     |bad k pos=>
      rw[hx]at ho;obtain⟨gf,rfl,hF⟩:=Bn hB hg a.out.kg ho;have HX:=Aa hx;clear hx;go_wp2;have M:((Fw s n (inner s st)).bind λb st=>AO.ok b (next s {st with depth:=st.depth-1}))= .bad k pos:=by rw[a.out.eq,Fw,Ai HC.out,HX.out];rfl
      rw[M];exact⟨rfl,gf,rfl,hF⟩
     |ok x X=>
      rw[hx]at ho;obtain⟨v,rfl,⟨lm,rfl,cy,⟨Y,Z,m_,t_,d,f,j,l,o,q,o_,y,z,A,C,D,E,hI⟩,cL⟩,bq,ln,hQ,h2⟩:=ho;have S:=Ys a.out.ok (by rw[dp];omega) (by rw[a.out.fwd.loops];exact hl) hx;have hU:=S.size;have hY:=Ms x;have iP:left s X<left s st':=by omega
      have dB:Q<wr.heap.size:=a.out.sl.lt rfl;have bi:Q≠g:=λe=>a.out.sl.bD a.out.row (by decide) (by rw[e];rfl);have eg:=a.out.sl.kept bq (λb T=>by
       injection T with T;simp only at T;subst T;rintro(T|T)
       ·exact bi T
       ·omega)
      obtain⟨cW,br⟩:=zp2 bq.size a.out.kg.size;subst hI;obtain⟨eF,bj⟩:∃L:List Value,[vs Y,.int .i64 Z,.int .i64 m_,.bool t_,vs d,.int .i64 f,vs j,.int .i64 l,vs o,.int .i64 q,.bool o_,.slice y z A,.slice C D E]=L:=⟨_,rfl⟩;rw[bj]at cL;have cX:=eg.alloc (.cells #[vs Y,.int .i64 Z,.int .i64 m_,.bool t_,vs d,.int .i64 f,vs j,.int .i64 l,vs o,.int .i64 q,.bool o_,.slice y z A,.slice C D E] 203);have q1:w.heap.size<=(w2.alloc (.cells #[vs Y,.int .i64 Z,.int .i64 m_,.bool t_,vs d,.int .i64 f,vs j,.int .i64 l,vs o,.int .i64 q,.bool o_,.slice y z A,.slice C D E] 203)).heap.size:=by simp;omega
      have q2:=C7 w2 [vs Y,.int .i64 Z,.int .i64 m_,.bool t_,vs d,.int .i64 f,vs j,.int .i64 l,vs o,.int .i64 q,.bool o_,.slice y z A,.slice C D E] 203;have q3:∀u∈ [vs Y,.int .i64 Z,.int .i64 m_,.bool t_,vs d,.int .i64 f,vs j,.int .i64 l,vs o,.int .i64 q,.bool o_,.slice y z A,.slice C D E],u.oneCell'=true:=by intro u hu;simp at hu;rcases hu with rfl|rfl|rfl|rfl|rfl|rfl|rfl|rfl|rfl|rfl|rfl|rfl|rfl<;>rfl
      have q4:done.length+1<=maxLen:=by unfold maxLen;omega
      have q5:(done.length+1)*168<=140737488355328:=by omega
      have R:∀(g2 H:Nat) (w3:World),Sl (λb=>w.heap.size<=b) w3 203 13 (.slice (some ⟨g2,0,none⟩) (done.length+1) H) (done.length+1) (cs++eF)->
        Ac (λb=>(Value.slice (some ⟨Q,0,none⟩) done.length K).ownBlock=some b\/(w2.alloc (.cells #[vs Y,.int .i64 Z,.int .i64 m_,.bool t_,vs d,.int .i64 f,vs j,.int .i64 l,vs o,.int .i64 q,.bool o_,.slice y z A,.slice C D E] 203)).heap.size<=b)
         (w2.alloc (.cells #[vs Y,.int .i64 Z,.int .i64 m_,.bool t_,vs d,.int .i64 f,vs j,.int .i64 l,vs o,.int .i64 q,.bool o_,.slice y z A,.slice C D E] 203)) w3->
        ((Value.slice (some ⟨Q,0,none⟩) done.length K).ownBlock=some g2\/g2=(w2.alloc (.cells #[vs Y,.int .i64 Z,.int .i64 m_,.bool t_,vs d,.int .i64 f,vs j,.int .i64 l,vs o,.int .i64 q,.bool o_,.slice y z A,.slice C D E] 203)).heap.size)->
        sO B ea g gp bm s w (inner s st) n (left s X) (.slice (some ⟨g2,0,none⟩) (done.length+1) H) w3 X (done.app x) (m+1) (cs++eF) g2 H hQ:=by
       have lv:(w2.alloc (.cells #[vs Y,.int .i64 Z,.int .i64 m_,.bool t_,vs d,.int .i64 f,vs j,.int .i64 l,vs o,.int .i64 q,.bool o_,.slice y z A,.slice C D E] 203)).heap.size=w2.heap.size+1:=by simp
       have V:=h2.alloc (.cells #[vs Y,.int .i64 Z,.int .i64 m_,.bool t_,vs d,.int .i64 f,vs j,.int .i64 l,vs o,.int .i64 q,.bool o_,.slice y z A,.slice C D E] 203);have cY:Ac (λb=>w2.heap.size<=b) w2 (w2.alloc (.cells #[vs Y,.int .i64 Z,.int .i64 m_,.bool t_,vs d,.int .i64 f,vs j,.int .i64 l,vs o,.int .i64 q,.bool o_,.slice y z A,.slice C D E] 203)):=zAr.alloc (Ab _) _;generalize (w2.alloc (.cells #[vs Y,.int .i64 Z,.int .i64 m_,.bool t_,vs d,.int .i64 f,vs j,.int .i64 l,vs o,.int .i64 q,.bool o_,.slice y z A,.slice C D E] 203))=W at*;intro g2 H w3 bu N U;have el:(done.app x).length=done.length+1:=by rw[Az.fh,cy]
       obtain⟨lw,lx,lA⟩:=zp3 a.out.fuel a.out.len a.out.mn;have cZ:∀b,b≠Q->b<W.heap.size->¬((Value.slice (some ⟨Q,0,none⟩) done.length K).ownBlock=some b\/W.heap.size<=b):=by
        intro b I h2;rintro(h3|h3)
        ·injection h3 with h3;exact I h3.symm
        ·omega
       have k3:Kg g w w3:=by
        have k1:Kg g w W:=Kg.trans (Kg.trans a.out.kg bq) (cY.mono (λb T=>.inr T));refine Ac.trans k1 (N.mono (λb T=>.inr ?_));rcases T with T|T
        ·exact a.out.sl.2 b T
        ·omega
       have bn:∀(k:Nat) cs,(w.heap.size<=k/\k≠Q/\k<W.heap.size)->AE W k 203 cs->w3.heap[k]?=W.heap[k]?:=λk cs G P=>N.block k (cZ k G.2.1 G.2.2);have eG:∀k,k<w3.heap.size->(w.heap.size<=k/\k≠Q/\k<W.heap.size)->(w.heap.size<=k/\k≠g2):=λk _ G=>⟨G.1,by
        rcases U with I|I
        ·injection I with I;simp only at I;subst I;exact G.2.1
        ·rw[I];omega⟩
       refine⟨Ab _,by omega,by omega,?_,S.fwd.ok,a.out.fwd.trans S.fwd,by rw[el];omega,k3,V.row.kept N (cZ g (λe=>bi e.symm) V.row.lt),V.bC.dy N (λb cs P=>cZ b (λe=>by
        have s4:=cX;exact s4.bD (e▸P) (by decide) rfl) P.lt),by rw[el],by rw[el];exact bu,?_⟩
       ·rw[a.out.eq,Fw,Ai HC.out,hx];show((Fw s (m+1) X).map (λr=>x.app r)).map (λr=>done.app r)=_;cases Fw s (m+1) X with
        |ok r eR=>show AO.ok (done.app (x.app r)) eR=AO.ok ((done.app x).app r) eR;rw[Ia]
        |bad e p=>rfl
       ·have p1:=A1.mono (N':=λk=>w.heap.size<=k/\k≠Q/\k<W.heap.size) (λk G hN=>⟨hN.1,hN.2,by omega⟩) _ _ a.out.nc;have p2:=A1.kept (w':=W) (λk cs G P=>by
         have I:k<wr.heap.size:=P.lt;have h2:k≠g:=P.bt a.out.row (by decide);exact(cY.block k (by omega)).trans (If bq I h2)) _ _ p1
        have p3:=A1.mono eG _ _ (A1.kept bn _ _ p2);have r1:=A1.mono (N':=λk=>w.heap.size<=k/\k≠Q/\k<W.heap.size) (λk G hN=>⟨by omega,by omega,by omega⟩) _ _ cL;have r2:=A1.kept (w':=W) (λk cs G P=>cY.block k (by have:=P.lt;omega)) _ _ r1;have r3:=A1.mono eG _ _ (A1.kept bn _ _ r2);exact A1.app _ _ _ _ p3 r3
      obtain⟨HF,ic,Q1,Q2,Q3,eS⟩:=zq6 R cX q1 q2 q3 bj;have mF:=a.out.ghost;clear R cX q1 q2 q3 eg cL h2 S hY hU cW br hx dB bi bj;unfold vs at*;go_wp2_with (at_builtin;go_must (refine Dy underlying105 fP fR gQ gX rfl (by decide) ic.out Q1.out rfl _ _ rfl rfl ⟨w2.heap.size,0,none⟩ 1 1 [.string ⟨Y.toArray⟩,.int .i64 Z,.int .i64 m_,.bool t_,.string ⟨d.toArray⟩,.int .i64 f,.string ⟨j.toArray⟩,.int .i64 l,.string ⟨o.toArray⟩,.int .i64 q,.bool o_,.slice y z A,.slice C D E] rfl rfl Q2.out Q3.out q4 q5 (Cg _) ?_;intro g2 H w3 bu N U;have ie:=Aa bu;have ig:=Aa N;have eT:=Aa U;clear bu N U));go_roundg (left s X)
      case measure=>omega
      case rel=>exact⟨_,_,_,_,_,_,_,HF.out g2 H w3 (by rw[←eS.out];exact ie.out) ig.out eT.out⟩
 ·have hw:want s Cw st= .bad D5 st.t.pos:=by unfold want fail;rw[Ai G]
  have e2:block s (n+1) st= .bad D5 st.t.pos:=by unfold block;rw[Ai (by rintro⟨x,_⟩;exact G x),hw];rfl
  rw[e2];have c:=Db h Cw;rw[hw]at c;have HW:=Aa c;have e1:(st.t.kind==Cw)=false:=by simpa using G
  clear c e2 hw G h bx db bp ok;unfold vs at*;go_enter func75,ntmps75;go_wp2_with fail;refine HW.out.mono ?_;rintro e w1 ⟨gf,rfl,hF⟩;go_wp2;exact⟨rfl,gf,rfl,hF⟩
end
abbrev im:List Value:=[vs [],.int .i64 0,.int .i64 0,.bool false,vs [],.int .i64 0,vs [],.int .i64 0,vs [],.int .i64 0,.bool false,.slice none 0 0,.slice none 0 0]
structure Fp (B:Nat) (ea:Nat->Addr) (g gp bm:Nat) (vd:Value) (s:Ah) (ba:PS) (w0:World) (be:Value) (st:PS) (w:World) (wp:Value) (R C:Nat) (cs ds:List Value):Prop where
 base:DO B ea w0 g gp bm vd be s ba
 decls:st.decls=ba.decls
 aD:st.aD=ba.aD
 rules:st.rules=ba.rules
 i:st.i<=s.length
 kg:Kg g w0 w
 row:AE w g 103 (Dt s st gp wp)
 bC:IM B ea w wp st.bC
 dm:AE w R 203 cs
 bn:AE w C 203 ds
 pT:w0.heap.size<=R
 pU:w0.heap.size<=C
 ne:R≠C
section
variable {B:Nat}{ea:Nat->Addr}{w w0:World}{g gp bm R C:Nat}{vd wp be:Value}{s:Ah}{st ba:PS}{cs ds:List Value}
theorem Fp.rd (h:Fp B ea g gp bm vd s ba w0 be st w wp R C cs ds):DO B ea w g gp bm vd wp s st:=h.base.later h.kg h.row h.decls h.aD h.rules h.bC h.i
theorem Fp.start (h:DO B ea w g gp bm vd wp s st) (ds:List Value):
  Fp B ea g gp bm vd s st w wp st ((w.alloc (.cells #[vs [],.int .i64 0,.int .i64 0,.bool false,vs [],.int .i64 0,vs [],.int .i64 0,vs [],.int .i64 0,.bool false,.slice none 0 0,.slice none 0 0] 203)).alloc (.cells ds.toArray 203)) wp w.heap.size (w.heap.size+1) [vs [],.int .i64 0,.int .i64 0,.bool false,vs [],.int .i64 0,vs [],.int .i64 0,vs [],.int .i64 0,.bool false,.slice none 0 0,.slice none 0 0] ds:=by
 have a:=(h.alloc (.cells #[vs [],.int .i64 0,.int .i64 0,.bool false,vs [],.int .i64 0,vs [],.int .i64 0,vs [],.int .i64 0,.bool false,.slice none 0 0,.slice none 0 0] 203)).alloc (.cells ds.toArray 203);have e:(w.alloc (.cells #[vs [],.int .i64 0,.int .i64 0,.bool false,vs [],.int .i64 0,vs [],.int .i64 0,vs [],.int .i64 0,.bool false,.slice none 0 0,.slice none 0 0] 203)).heap.size=w.heap.size+1:=by simp
 have b:=AE.new (w.alloc (.cells #[vs [],.int .i64 0,.int .i64 0,.bool false,vs [],.int .i64 0,vs [],.int .i64 0,vs [],.int .i64 0,.bool false,.slice none 0 0,.slice none 0 0] 203)) 203 ds;rw[e]at b;exact⟨h,rfl,rfl,rfl,h.i,((Ac.refl _ w).alloc (.inr (Ab _)) _).alloc (.inr (by simp)) _,a.row,a.bC,(AE.new w 203 [vs [],.int .i64 0,.int .i64 0,.bool false,vs [],.int .i64 0,vs [],.int .i64 0,vs [],.int .i64 0,.bool false,.slice none 0 0,.slice none 0 0]).alloc _,b,Ab _,by omega,by omega⟩
theorem Fp.call (h:Fp B ea g gp bm vd s ba w0 be st w wp R C cs ds) {w':World}{st':PS}{b a:Value}(c:Kg g w w') (d:DO B ea w' g gp bm b a s st') (f:st'.decls=st.decls) (j:st'.aD=st.aD) (e:st'.rules=st.rules):
  Fp B ea g gp bm vd s ba w0 be st' w' a R C cs ds:=
 ⟨h.base,f.trans h.decls,j.trans h.aD,e.trans h.rules,d.i,Kg.trans h.kg c,d.row,d.bC,(If c h.dm.lt (h.dm.bt h.row (by decide))).trans h.dm,(If c h.bn.lt (h.bn.bt h.row (by decide))).trans h.bn,h.pT,h.pU,h.ne⟩
theorem Fp.iN (h:Fp B ea g gp bm vd s ba w0 be st w wp R C cs ds) (i:Nat) (u:Value):Fp B ea g gp bm vd s ba w0 be st (w.setCell ⟨R,i,none⟩ u) wp R C (cs.set i u) ds:=
 ⟨h.base,h.decls,h.aD,h.rules,h.i,h.kg.setCell (p:=⟨R,i,none⟩) (.inr h.pT) u,h.row.dc (h.row.bt h.dm (by decide)) u,h.bC.dy (Ac.one w ⟨R,i,none⟩ u) (λb cs a e=>a.bt h.dm (by decide) e),h.dm.bF i u,h.bn.dc (λe=>h.ne e.symm) u,h.pT,h.pU,h.ne⟩
theorem Fp.eT (h:Fp B ea g gp bm vd s ba w0 be st w wp R C cs ds) (i:Nat) (u:Value):Fp B ea g gp bm vd s ba w0 be st (w.setCell ⟨C,i,none⟩ u) wp R C cs (ds.set i u):=
 ⟨h.base,h.decls,h.aD,h.rules,h.i,h.kg.setCell (p:=⟨C,i,none⟩) (.inr h.pU) u,h.row.dc (h.row.bt h.bn (by decide)) u,h.bC.dy (Ac.one w ⟨C,i,none⟩ u) (λb cs a e=>a.bt h.bn (by decide) e),h.dm.dc h.ne u,h.bn.bF i u,h.pT,h.pU,h.ne⟩
abbrev copied (w:World) (R:Nat) (d e f h i j k l m n a b c:Value):World:=
 ((((((((((((w.setCell ⟨R,0,none⟩ d).setCell ⟨R,1,none⟩ e).setCell ⟨R,2,none⟩ f).setCell ⟨R,3,none⟩ h).setCell ⟨R,4,none⟩ i).setCell ⟨R,5,none⟩ j).setCell ⟨R,6,none⟩ k).setCell ⟨R,7,none⟩ l).setCell ⟨R,8,none⟩ m).setCell ⟨R,9,none⟩ n).setCell ⟨R,10,none⟩ a).setCell ⟨R,11,none⟩ b).setCell ⟨R,12,none⟩ c
theorem Fp.copy (h:Fp B ea g gp bm vd s ba w0 be st w wp R C im ds) (d e f i j k l m n o a b c:Value):
  Fp B ea g gp bm vd s ba w0 be st (copied w R d e f i j k l m n o a b c) wp R C [d,e,f,i,j,k,l,m,n,o,a,b,c] ds:=
 ((((((((((((h.iN 0 d).iN 1 e).iN 2 f).iN 3 i).iN 4 j).iN 5 k).iN 6 l).iN 7 m).iN 8 n).iN 9 o).iN 10 a).iN 11 b).iN 12 c
theorem BN {t:TypeId}{d e f i j k l m n o a b c:Value}(h:AE w C t [d,e,f,i,j,k,l,m,n,o,a,b,c]):
  w.cell? ⟨C,0,none⟩=some d/\w.cell? ⟨C,1,none⟩=some e/\w.cell? ⟨C,2,none⟩=some f/\w.cell? ⟨C,3,none⟩=some i/\w.cell? ⟨C,4,none⟩=some j/\w.cell? ⟨C,5,none⟩=some k/\w.cell? ⟨C,6,none⟩=some l/\
  w.cell? ⟨C,7,none⟩=some m/\w.cell? ⟨C,8,none⟩=some n/\w.cell? ⟨C,9,none⟩=some o/\w.cell? ⟨C,10,none⟩=some a/\w.cell? ⟨C,11,none⟩=some b/\w.cell? ⟨C,12,none⟩=some c:=
 ⟨h.cell 0,h.cell 1,h.cell 2,h.cell 3,h.cell 4,h.cell 5,h.cell 6,h.cell 7,h.cell 8,h.cell 9,h.cell 10,h.cell 11,h.cell 12⟩
theorem Ki (w:World):(Go.sizeOf 203).run prog w= .ok 13 w:=by kernel_rfl
theorem Mw (w:World):(isAgg 203).run prog w= .ok true w:=by kernel_rfl
theorem LH (w0 w':World) (p:D0):LZ w0 w' (.bG p .nil) (.agg (Lf p).toArray):=
 ⟨Lf p,rfl,rfl,⟨_,_,_,_,_,_,_,_,_,_,_,_,_,_,_,_,_,rfl⟩,⟨[],by simp,rfl⟩⟩
end
abbrev rhs {a b:Ah} (_:a=b):Ah:=b
def Fp.copy_ {B:Nat} {ea:Nat->Addr} {g gp bm:Nat} {vd:Value} {s:Ah} {d st:PS} {w0 w:World} {e wp:Value} {R C:Nat} {f i j k l m n o p q a b c:Value} (h:Fp B ea g gp bm vd s d w0 e st w wp R C im [f,i,j,k,l,m,n,o,p,q,a,b,c]):=
 h.copy f i j k l m n o p q a b c
section
variable {B:Nat}{ea:Nat->Addr}{w:World}{g gp bm:Nat}{vd wp:Value}{s:Ah}{st:PS}
theorem om (h:DO B ea w g gp bm vd wp s st) (ok:st.Ok s) (hk:st.t.kind=Kx):
  Calls prog 109 #[.pointer (some ⟨g,0,none⟩)] w λe w'=>DU B ea w g gp bm s ((name s false (next s st)).bind λq st=>(want s AN (take s CI st).2).bind λ_ Y=>.ok (.bG (.put q (take s CI st).1) .nil) Y) (LZ w) e w':=by
 have Z:=Fp.start h [vs Kx,.int .i64 0,.int .i64 0,.bool false,vs [],.int .i64 0,vs [],.int .i64 0,vs [],.int .i64 0,.bool false,.slice none 0 0,.slice none 0 0];have hn:=En Z.rd;obtain⟨_,_,c2,_⟩:=AX (h.alloc (.cells #[vs [],.int .i64 0,.int .i64 0,.bool false,vs [],.int .i64 0,vs [],.int .i64 0,vs [],.int .i64 0,.bool false,.slice none 0 0,.slice none 0 0] 203)).row;have hB:=h.env.size;have hg:=h.g0;rw[hk]at c2;obtain⟨Q0,HN,ba⟩:=zq3 Z hn ok;clear Z hn h ok hk;unfold vs at*;go_enter Iu,GX;go_wp2_with fail;refine HN.out.mono ?_;rintro e w1 ⟨rfl,K,h1⟩;have L:=Q0.out.call K h1 rfl rfl rfl;have M:=Cc ba.out;clear K h1;have n:=Jj L.rd false;obtain⟨A,e1,C,D,E,F,G,H,I,J,i,l,m⟩:=BN L.bn;have z:=λj=>L.bn.frozen j;obtain⟨N,be,O⟩:=zq3 L n M;clear L n M A e1 C D E F G H I J i l m z;go_wp2_with fail;refine be.out.mono ?_;rintro e bz r;cases b:name s false (next s st)with
 |bad k pos=>
  rw[b]at r;obtain⟨gf,rfl,hF⟩:=Bn hB hg N.out.kg r;have a:=Aa b;clear b;go_wp2;refine⟨rfl,?_⟩;rw[a.out];exact⟨gf,rfl,hF⟩
 |ok n0 st1=>
  rw[b]at r;obtain⟨v,rfl,rfl,u,bp,bq,n⟩:=r;have o:=(EV O.out b).1;have P:=o.ok;have V:=N.out.call u n o.decls o.aD o.rules;obtain⟨A,e1,C,D,E,F,G,H,I,J,i,l,m⟩:=BN V.bn;have z:=λj=>V.bn.frozen j;have q2:=V.eT 1 (.int .i64 n0);have a:=Aa b;clear u n b V o;have EZ:=True.intro;have R:=Gp q2.rd CI;obtain⟨QT,HT,br⟩:=zq3 q2 R P;clear q2 R P;unfold vs at*;go_wp2_with fail;clear A e1 C D E F G H I J i l m z;refine HT.out.mono ?_;rintro e wt ⟨rfl,S,R⟩;have W:(take s CI st1).2.decls=st1.decls/\(take s CI st1).2.aD=st1.aD/\(take s CI st1).2.rules=st1.rules:=by unfold take;split<;>exact⟨rfl,rfl,rfl⟩
  have X:=QT.out.call S R W.1 W.2.1 W.2.2;obtain⟨A,e1,C,D,E,F,G,H,I,J,i,l,m⟩:=BN X.bn;have z:=λj=>X.bn.frozen j;have x:=X.eT 3 (.bool (take s CI st1).1);clear S R X W;have T:=Db x.rd AN;obtain⟨QW,HW⟩:=zq2 x T;clear x T;unfold vs at*;go_wp2_with fail;clear A e1 C D E F G H I J i l m z;refine HW.out.mono ?_;rintro e ww r;cases c:want s AN (take s CI st1).2 with
  |bad k pos=>
   rw[c]at r;obtain⟨gf,rfl,hF⟩:=Bn hB hg QW.out.kg r;have d:=Aa c;clear c;go_wp2;refine⟨rfl,?_⟩;rw[a.out];show DU _ _ _ _ _ _ _ ((want s AN (take s CI st1).2).bind _) _ _ _;rw[d.out];exact⟨gf,rfl,hF⟩
  |ok tt bH=>
   rw[c]at r;obtain⟨v,rfl,rfl,U,bI,cy,T⟩:=r;have f:=(BF c).2.2;have p:=QW.out.call U T (by rw[f];rfl) (by rw[f];rfl) (by rw[f];rfl);obtain⟨A,e1,C,D,E,F,G,H,I,J,i,l,m⟩:=BN p.bn;obtain⟨f0,f1,f2,f3,f4,f5,f6,f7,f8,f9,cz,cD,cL⟩:=BN p.dm;have z:=λj=>p.bn.frozen j;have y:=λj=>p.dm.frozen j;have q:=p.copy_;obtain⟨d,Q⟩:=zq2 c q;clear U T c p q f;unfold IK vs at*;go_wp2;refine AA (AP (cs:=[_,_,_,_,_,_,_,_,_,_,_,_,_]) GD Mw Ki rfl Q.out.dm) rfl ?_;rw[a.out];show DU _ _ _ _ _ _ _ ((want s AN (take s CI st1).2).bind _) _ _ _;rw[d.out];exact⟨_,rfl,LH _ _ _,Q.out.kg,_,_,Q.out.rd⟩
theorem dN (h:DO B ea w g gp bm vd wp s st) (ok:st.Ok s) (hk:st.t.kind=Do):
  Calls prog 109 #[.pointer (some ⟨g,0,none⟩)] w λe w'=>DU B ea w g gp bm s ((name s false (next s st)).bind λq st=>(name s false st).bind λp st=>(want s AN (take s CI st).2).bind λ_ bq=>.ok (.bG (.shift q p (take s CI st).1) .nil) bq) (LZ w) e w':=by
 have q0:=Fp.start h [vs Do,.int .i64 0,.int .i64 0,.bool false,vs [],.int .i64 0,vs [],.int .i64 0,vs [],.int .i64 0,.bool false,.slice none 0 0,.slice none 0 0];have hn:=En q0.rd;obtain⟨_,_,c2,_⟩:=AX (h.alloc (.cells #[vs [],.int .i64 0,.int .i64 0,.bool false,vs [],.int .i64 0,vs [],.int .i64 0,vs [],.int .i64 0,.bool false,.slice none 0 0,.slice none 0 0] 203)).row;have hB:=h.env.size;have hg:=h.g0;rw[hk]at c2;obtain⟨Q0,HN,bx⟩:=zq3 q0 hn ok;clear q0 hn h ok hk;unfold vs at*;go_enter Iu,GX;go_wp2_with fail;refine HN.out.mono ?_;rintro e w1 ⟨rfl,P,h1⟩;have R:=Q0.out.call P h1 rfl rfl rfl;have S:=Cc bx.out;clear P h1;have x:=Jj R.rd false;obtain⟨D,e1,E,F,G,H,I,J,K,L,d,f,i⟩:=BN R.bn;have z:=λj=>R.bn.frozen j;obtain⟨T,bz,U⟩:=zq3 R x S;clear R x S D e1 E F G H I J K L d f i z;go_wp2_with fail;refine bz.out.mono ?_;rintro e da r;cases l:name s false (next s st)with
 |bad k pos=>
  rw[l]at r;obtain⟨gf,rfl,hF⟩:=Bn hB hg T.out.kg r;have a:=Aa l;clear l;go_wp2;refine⟨rfl,?_⟩;rw[a.out];exact⟨gf,rfl,hF⟩
 |ok n0 st1=>
  rw[l]at r;obtain⟨v,rfl,rfl,M,cy,cz,x⟩:=r;have A:=(EV U.out l).1;have V:=A.ok;have p0:=T.out.call M x A.decls A.aD A.rules;obtain⟨D,e1,E,F,G,H,I,J,K,L,d,f,i⟩:=BN p0.bn;have z:=λj=>p0.bn.frozen j;have q2:=p0.eT 1 (.int .i64 n0);have a:=Aa l;clear M x l p0 A;have W:=Jj q2.rd false;obtain⟨X,bD,Y⟩:=zq3 q2 W V;clear q2 W V;unfold vs at*;go_wp2_with fail;clear D e1 E F G H I J K L d f i z;refine bD.out.mono ?_;rintro e dc r;cases m:name s false st1 with
  |bad k pos=>
   rw[m]at r;obtain⟨gf,rfl,hF⟩:=Bn hB hg X.out.kg r;have c:=Aa m;clear m;go_wp2;refine⟨rfl,?_⟩;rw[a.out];show DU _ _ _ _ _ _ _ ((name s false st1).bind _) _ _ _;rw[c.out];exact⟨gf,rfl,hF⟩
  |ok n1 b=>
   rw[m]at r;obtain⟨v,rfl,rfl,N,cD,cL,Z⟩:=r;have C:=(EV Y.out m).1;have ba:=C.ok;have p1:=X.out.call N Z C.decls C.aD C.rules;obtain⟨D,e1,E,F,G,H,I,J,K,L,d,f,i⟩:=BN p1.bn;have z:=λj=>p1.bn.frozen j;have q3:=p1.eT 2 (.int .i64 n1);have c:=Aa m;clear N Z m p1 C;have ht:=Gp q3.rd CI;obtain⟨QT,HT,cW⟩:=zq3 q3 ht ba;clear q3 ht ba;unfold vs at*;go_wp2_with fail;clear D e1 E F G H I J K L d f i z;refine HT.out.mono ?_;rintro e wt ⟨rfl,bf,ht⟩;have tp:(take s CI b).2.decls=b.decls/\(take s CI b).2.aD=b.aD/\(take s CI b).2.rules=b.rules:=by unfold take;split<;>exact⟨rfl,rfl,rfl⟩
   have p9:=QT.out.call bf ht tp.1 tp.2.1 tp.2.2;obtain⟨D,e1,E,F,G,H,I,J,K,L,d,f,i⟩:=BN p9.bn;have z:=λj=>p9.bn.frozen j;have O:=p9.eT 3 (.bool (take s CI b).1);clear bf ht p9 tp;have hw:=Db O.rd AN;obtain⟨QW,HW⟩:=zq2 O hw;clear O hw;unfold vs at*;go_wp2_with fail;clear D e1 E F G H I J K L d f i z;refine HW.out.mono ?_;rintro e ww r;cases n:want s AN (take s CI b).2 with
   |bad k pos=>
    rw[n]at r;obtain⟨gf,rfl,hF⟩:=Bn hB hg QW.out.kg r;have o:=Aa n;clear n;go_wp2;refine⟨rfl,?_⟩;rw[a.out];show DU _ _ _ _ _ _ _ ((name s false st1).bind _) _ _ _;rw[c.out];show DU _ _ _ _ _ _ _ ((want s AN (take s CI b).2).bind _) _ _ _;rw[o.out];exact⟨gf,rfl,hF⟩
   |ok tt dr=>
    rw[n]at r;obtain⟨v,rfl,rfl,bh,dt,dv,hw⟩:=r;have u:=(BF n).2.2;have p:=QW.out.call bh hw (by rw[u];rfl) (by rw[u];rfl) (by rw[u];rfl);obtain⟨D,e1,E,F,G,H,I,J,K,L,d,f,i⟩:=BN p.bn;obtain⟨f0,f1,f2,f3,f4,f5,f6,f7,f8,f9,dy,dz,dA⟩:=BN p.dm;have z:=λj=>p.bn.frozen j;have y:=λj=>p.dm.frozen j;have q:=p.copy_;obtain⟨o,Q⟩:=zq2 n q;clear bh hw n p q u;unfold IK vs at*;go_wp2;refine AA (AP (cs:=[_,_,_,_,_,_,_,_,_,_,_,_,_]) GD Mw Ki rfl Q.out.dm) rfl ?_;rw[a.out];show DU _ _ _ _ _ _ _ ((name s false st1).bind _) _ _ _;rw[c.out];show DU _ _ _ _ _ _ _ ((want s AN (take s CI b).2).bind _) _ _ _;rw[o.out];exact⟨_,rfl,LH _ _ _,Q.out.kg,_,_,Q.out.rd⟩
theorem Tx {K:Ah}{F:Int->D0}(hc:K=Ep/\F= .bx\/K=Ig/\F= .dz) (h:DO B ea w g gp bm vd wp s st) (ok:st.Ok s) (V:st.t.kind=K):
  Calls prog 109 #[.pointer (some ⟨g,0,none⟩)] w λe w'=>DU B ea w g gp bm s ((name s false (next s st)).bind λq st=>(want s AN st).bind λ_ W=>.ok (.bG (F q) .nil) W) (LZ w) e w':=by
 rcases hc with⟨rfl,rfl⟩|⟨rfl,rfl⟩
 all_goals
  have I:=Fp.start h [vs (rhs V),.int .i64 0,.int .i64 0,.bool false,vs [],.int .i64 0,vs [],.int .i64 0,vs [],.int .i64 0,.bool false,.slice none 0 0,.slice none 0 0];dsimp only[rhs]at I;have hn:=En I.rd;obtain⟨_,_,c2,_⟩:=AX (h.alloc (.cells #[vs [],.int .i64 0,.int .i64 0,.bool false,vs [],.int .i64 0,vs [],.int .i64 0,vs [],.int .i64 0,.bool false,.slice none 0 0,.slice none 0 0] 203)).row;have hB:=h.env.size;have hg:=h.g0;rw[V]at c2;obtain⟨Q0,HN,X⟩:=zq3 I hn ok;clear I hn h ok V;unfold vs at*;go_enter Iu,GX;go_wp2_with fail;refine HN.out.mono ?_;rintro e w1 ⟨rfl,x,h1⟩;have A:=Q0.out.call x h1 rfl rfl rfl;have C:=Cc X.out;clear x h1;have i:=Jj A.rd false;obtain⟨J,e1,L,M,N,O,P,R,S,T,m,n,o⟩:=BN A.bn;have z:=λj=>A.bn.frozen j;obtain⟨D,Y,E⟩:=zq3 A i C;clear A i C J e1 L M N O P R S T m n o z;go_wp2_with fail;refine Y.out.mono ?_;rintro e bt r;cases b:name s false (next s st)with
  |bad k pos=>
   rw[b]at r;obtain⟨gf,rfl,hF⟩:=Bn hB hg D.out.kg r;have a:=Aa b;clear b;go_wp2;refine⟨rfl,?_⟩;rw[a.out];exact⟨gf,rfl,hF⟩
  |ok n0 st1=>
   rw[b]at r;obtain⟨v,rfl,rfl,u,bh,bi,i⟩:=r;have l:=(EV E.out b).1;have bz:=l.ok;have U:=D.out.call u i l.decls l.aD l.rules;obtain⟨J,e1,L,M,N,O,P,R,S,T,m,n,o⟩:=BN U.bn;have z:=λj=>U.bn.frozen j;have q2:=U.eT 1 (.int .i64 n0);have a:=Aa b;clear u i b U l;have EZ:=True.intro;have Z:=q2.eT 3 (.bool false);clear q2;have G:=Db Z.rd AN;obtain⟨QW,HW⟩:=zq2 Z G;clear Z G;unfold vs at*;go_wp2_with fail;clear J e1 L M N O P R S T m n o z;refine HW.out.mono ?_;rintro e ww r;cases c:want s AN st1 with
   |bad k pos=>
    rw[c]at r;obtain⟨gf,rfl,hF⟩:=Bn hB hg QW.out.kg r;have d:=Aa c;clear c;go_wp2;refine⟨rfl,?_⟩;rw[a.out];show DU _ _ _ _ _ _ _ ((want s AN st1).bind _) _ _ _;rw[d.out];exact⟨gf,rfl,hF⟩
   |ok tt bD=>
    rw[c]at r;obtain⟨v,rfl,rfl,H,bE,bF,G⟩:=r;have f:=(BF c).2.2;have p:=QW.out.call H G (by rw[f];rfl) (by rw[f];rfl) (by rw[f];rfl);obtain⟨J,e1,L,M,N,O,P,R,S,T,m,n,o⟩:=BN p.bn;obtain⟨f0,f1,f2,f3,f4,f5,f6,f7,f8,f9,bH,bI,cy⟩:=BN p.dm;have z:=λj=>p.bn.frozen j;have y:=λj=>p.dm.frozen j;have q:=p.copy_;obtain⟨d,Q⟩:=zq2 c q;clear H G c p q f;unfold IK vs at*;go_wp2;refine AA (AP (cs:=[_,_,_,_,_,_,_,_,_,_,_,_,_]) GD Mw Ki rfl Q.out.dm) rfl ?_;rw[a.out];show DU _ _ _ _ _ _ _ ((want s AN st1).bind _) _ _ _;rw[d.out];exact⟨_,rfl,LH _ _ _,Q.out.kg,_,_,Q.out.rd⟩
theorem Xo {K:Ah}{F:Int->D0}(hc:K=Mb/\F= .inc\/K=Mc/\F= .dec) (h:DO B ea w g gp bm vd wp s st) (ok:st.Ok s) (V:st.t.kind=K):
  Calls prog 109 #[.pointer (some ⟨g,0,none⟩)] w λe w'=>DU B ea w g gp bm s ((name s true (next s st)).bind λv st=>(want s AN st).bind λ_ W=>.ok (.bG (F v) .nil) W) (LZ w) e w':=by
 rcases hc with⟨rfl,rfl⟩|⟨rfl,rfl⟩
 all_goals
  have I:=Fp.start h [vs (rhs V),.int .i64 0,.int .i64 0,.bool false,vs [],.int .i64 0,vs [],.int .i64 0,vs [],.int .i64 0,.bool false,.slice none 0 0,.slice none 0 0];dsimp only[rhs]at I;have hn:=En I.rd;obtain⟨_,_,c2,_⟩:=AX (h.alloc (.cells #[vs [],.int .i64 0,.int .i64 0,.bool false,vs [],.int .i64 0,vs [],.int .i64 0,vs [],.int .i64 0,.bool false,.slice none 0 0,.slice none 0 0] 203)).row;have hB:=h.env.size;have hg:=h.g0;rw[V]at c2;obtain⟨Q0,HN,X⟩:=zq3 I hn ok;clear I hn h ok V;unfold vs at*;go_enter Iu,GX;go_wp2_with fail;refine HN.out.mono ?_;rintro e w1 ⟨rfl,x,h1⟩;have A:=Q0.out.call x h1 rfl rfl rfl;have C:=Cc X.out;clear x h1;have i:=Jj A.rd true;obtain⟨J,e1,L,M,N,O,P,R,S,T,m,n,o⟩:=BN A.bn;have z:=λj=>A.bn.frozen j;obtain⟨D,Y,E⟩:=zq3 A i C;clear A i C J e1 L M N O P R S T m n o z;go_wp2_with fail;refine Y.out.mono ?_;rintro e br r;cases b:name s true (next s st)with
  |bad k pos=>
   rw[b]at r;obtain⟨gf,rfl,hF⟩:=Bn hB hg D.out.kg r;have a:=Aa b;clear b;go_wp2;refine⟨rfl,?_⟩;rw[a.out];exact⟨gf,rfl,hF⟩
  |ok n0 st1=>
   rw[b]at r;obtain⟨v,rfl,rfl,u,bh,bi,i⟩:=r;have l:=(EV E.out b).1;have bu:=l.ok;have U:=D.out.call u i l.decls l.aD l.rules;obtain⟨J,e1,L,M,N,O,P,R,S,T,m,n,o⟩:=BN U.bn;have z:=λj=>U.bn.frozen j;have Z:=U.eT 1 (.int .i64 n0);have a:=Aa b;clear u i b U l;have EZ:=True.intro;have G:=Db Z.rd AN;obtain⟨QW,HW⟩:=zq2 Z G;clear Z G;unfold vs at*;go_wp2_with fail;clear J e1 L M N O P R S T m n o z;refine HW.out.mono ?_;rintro e ww r;cases c:want s AN st1 with
   |bad k pos=>
    rw[c]at r;obtain⟨gf,rfl,hF⟩:=Bn hB hg QW.out.kg r;have d:=Aa c;clear c;go_wp2;refine⟨rfl,?_⟩;rw[a.out];show DU _ _ _ _ _ _ _ ((want s AN st1).bind _) _ _ _;rw[d.out];exact⟨gf,rfl,hF⟩
   |ok tt bz=>
    rw[c]at r;obtain⟨v,rfl,rfl,H,bC,bD,G⟩:=r;have f:=(BF c).2.2;have p:=QW.out.call H G (by rw[f];rfl) (by rw[f];rfl) (by rw[f];rfl);obtain⟨J,e1,L,M,N,O,P,R,S,T,m,n,o⟩:=BN p.bn;obtain⟨f0,f1,f2,f3,f4,f5,f6,f7,f8,f9,bE,bF,bH⟩:=BN p.dm;have z:=λj=>p.bn.frozen j;have y:=λj=>p.dm.frozen j;have q:=p.copy_;obtain⟨d,Q⟩:=zq2 c q;clear H G c p q f;unfold IK vs at*;go_wp2;refine AA (AP (cs:=[_,_,_,_,_,_,_,_,_,_,_,_,_]) GD Mw Ki rfl Q.out.dm) rfl ?_;rw[a.out];show DU _ _ _ _ _ _ _ ((want s AN st1).bind _) _ _ _;rw[d.out];exact⟨_,rfl,LH _ _ _,Q.out.kg,_,_,Q.out.rd⟩
theorem UU {K:Ah}{F:D0}(S:K=IW/\F= .drop\/K=IX/\F= .bump) (h:DO B ea w g gp bm vd wp s st) (ok:st.Ok s) (x:st.t.kind=K):
  Calls prog 109 #[.pointer (some ⟨g,0,none⟩)] w λe w'=>DU B ea w g gp bm s ((want s AN (next s st)).bind λ_ A=>.ok (.bG F .nil) A) (LZ w) e w':=by
 rcases S with⟨rfl,rfl⟩|⟨rfl,rfl⟩
 all_goals
  have r:=Fp.start h [vs (rhs x),.int .i64 0,.int .i64 0,.bool false,vs [],.int .i64 0,vs [],.int .i64 0,vs [],.int .i64 0,.bool false,.slice none 0 0,.slice none 0 0];dsimp only[rhs]at r;have D:=En r.rd;obtain⟨_,_,c2,_⟩:=AX (h.alloc (.cells #[vs [],.int .i64 0,.int .i64 0,.bool false,vs [],.int .i64 0,vs [],.int .i64 0,vs [],.int .i64 0,.bool false,.slice none 0 0,.slice none 0 0] 203)).row;have T:=h.env.size;have U:=h.g0;rw[x]at c2;obtain⟨V,W,C⟩:=zq3 r D ok;clear r D h ok x;unfold vs at*;go_enter Iu,GX;go_wp2_with fail;refine W.out.mono ?_;rintro e w1 ⟨rfl,d,E⟩;have f:=V.out.call d E rfl rfl rfl;have X:=Cc C.out;clear d E;obtain⟨G,e1,H,I,J,L,M,N,O,P,i,l,m⟩:=BN f.bn;have z:=λj=>f.bn.frozen j;have n:=Db f.rd AN;obtain⟨R,Y⟩:=zq2 f n;clear f n;unfold vs at*;go_wp2_with fail;clear G e1 H I J L M N O P i l m z;refine Y.out.mono ?_;rintro e ww u;cases a:want s AN (next s st)with
  |bad k pos=>
   rw[a]at u;obtain⟨gf,rfl,hF⟩:=Bn T U R.out.kg u;have b:=Aa a;clear a;go_wp2;refine⟨rfl,?_⟩;rw[b.out];exact⟨gf,rfl,hF⟩
  |ok tt Z=>
   rw[a]at u;obtain⟨v,rfl,rfl,o,aD,ba,n⟩:=u;have c:=(BF a).2.2;have p:=R.out.call o n (by rw[c];rfl) (by rw[c];rfl) (by rw[c];rfl);obtain⟨G,e1,H,I,J,L,M,N,O,P,i,l,m⟩:=BN p.bn;obtain⟨f0,f1,f2,f3,f4,f5,f6,f7,f8,f9,be,bf,bg⟩:=BN p.dm;have z:=λj=>p.bn.frozen j;have y:=λj=>p.dm.frozen j;have q:=p.copy_;obtain⟨b,Q⟩:=zq2 a q;clear o n a p q c;unfold IK vs at*;go_wp2;refine AA (AP (cs:=[_,_,_,_,_,_,_,_,_,_,_,_,_]) GD Mw Ki rfl Q.out.dm) rfl ?_;rw[b.out];exact⟨_,rfl,LH _ _ _,Q.out.kg,_,_,Q.out.rd⟩
end
section
variable {B:Nat}{ea:Nat->Addr}{w:World}{g gp bm:Nat}{vd wp:Value}{s:Ah}{st:PS}
theorem DD.later {N:Nat->Prop}{w w':World}{v:Value}{b:Az}(h:DD N w v b) (c:Kg g w w') {cs:List Value}(d:AE w g 103 cs):DD N w' v b:=
 h.kept (λk e _ a=>If c a.lt (a.bt d (by decide)))
theorem DD.dc {N:Nat->Prop}{w:World}{v:Value}{b:Az}(h:DD N w v b) {C:Nat}(a:¬N C) (i:Nat) (u:Value):DD N (w.setCell ⟨C,i,none⟩ u) v b:=
 h.kept (λk c d _=>(Ac.one w ⟨C,i,none⟩ u).block k (λ(e:k=C)=>a (e▸d)))
theorem DD.fa {N:Nat->Prop}{w:World}{v:Value}{b:Az}(h:DD N w v b):∃g n c,v= .slice (some ⟨g,0,none⟩) n c:=by obtain⟨cs,⟨_,g,c,a⟩,_⟩:=h;exact⟨g,_,c,a⟩
theorem DD.copied {N:Nat->Prop}{w:World}{v:Value}{b:Az}(h:DD N w v b) {R:Nat}(a:¬N R) (f i j k l m n o p q c d e:Value):DD N (copied w R f i j k l m n o p q c d e) v b:=
 ((((((((((((h.dc a 0 f).dc a 1 i).dc a 2 j).dc a 3 k).dc a 4 l).dc a 5 m).dc a 6 n).dc a 7 o).dc a 8 p).dc a 9 q).dc a 10 c).dc a 11 d).dc a 12 e
theorem jK (h:DO B ea w g gp bm vd wp s st) (d:st.t.kind≠Kx) (f:st.t.kind≠Ep) (i:st.t.kind≠Ig) (j:st.t.kind≠Do) (k:st.t.kind≠Mb) (l:st.t.kind≠Mc) (m:st.t.kind≠IW)
  (n:st.t.kind≠IX) (o:st.t.kind≠Ja) (b:st.t.kind≠Bf):
  Calls prog 109 #[.pointer (some ⟨g,0,none⟩)] w λe w'=>DU B ea w g gp bm s (fail D5 st) (LZ w) e w':=by
 have c:=h.alloc (.cells #[vs [],.int .i64 0,.int .i64 0,.bool false,vs [],.int .i64 0,vs [],.int .i64 0,vs [],.int .i64 0,.bool false,.slice none 0 0,.slice none 0 0] 203);obtain⟨_,_,c2,_⟩:=AX c.row;have a:=c.alloc (.cells #[vs st.t.kind,.int .i64 0,.int .i64 0,.bool false,vs [],.int .i64 0,vs [],.int .i64 0,vs [],.int .i64 0,.bool false,.slice none 0 0,.slice none 0 0] 203);have p:((w.alloc (.cells #[vs [],.int .i64 0,.int .i64 0,.bool false,vs [],.int .i64 0,vs [],.int .i64 0,vs [],.int .i64 0,.bool false,.slice none 0 0,.slice none 0 0] 203)).alloc
   (.cells #[vs st.t.kind,.int .i64 0,.int .i64 0,.bool false,vs [],.int .i64 0,vs [],.int .i64 0,vs [],.int .i64 0,.bool false,.slice none 0 0,.slice none 0 0] 203)).cell? ⟨7,0,none⟩=some (.iface 307 (.pointer (some (ea 2)))):=a.env.err 2 (by omega) (by omega)
 obtain⟨q,u,v⟩:=zp3 (RS a 2) h.env.size h.g0;have r:Kg g w ((w.alloc (.cells #[vs [],.int .i64 0,.int .i64 0,.bool false,vs [],.int .i64 0,vs [],.int .i64 0,vs [],.int .i64 0,.bool false,.slice none 0 0,.slice none 0 0] 203)).alloc
   (.cells #[vs st.t.kind,.int .i64 0,.int .i64 0,.bool false,vs [],.int .i64 0,vs [],.int .i64 0,vs [],.int .i64 0,.bool false,.slice none 0 0,.slice none 0 0] 203)):=
  ((Ac.refl _ w).alloc (.inr (Ab _)) _).alloc (.inr (by simp)) _
 have e1:(st.t.kind==Kx)=false:=by simpa using d
 have C:(st.t.kind==Ep)=false:=by simpa using f
 have D:(st.t.kind==Ig)=false:=by simpa using i
 have E:(st.t.kind==Do)=false:=by simpa using j
 have F:(st.t.kind==Mb)=false:=by simpa using k
 have G:(st.t.kind==Mc)=false:=by simpa using l
 have H:(st.t.kind==IW)=false:=by simpa using m
 have I:(st.t.kind==IX)=false:=by simpa using n
 have J:(st.t.kind==Ja)=false:=by simpa using o
 have x:(st.t.kind==Bf)=false:=by simpa using b
 obtain⟨y,z⟩:=zq2 q r;clear q c a r h d f i j k l m n o b;unfold vs Dq at*;go_enter Iu,GX;go_wp2_with fail;refine y.out.mono ?_;rintro e w1 A;obtain⟨gf,rfl,hF⟩:=Bn u v z.out A;go_wp2;exact⟨rfl,gf,rfl,hF⟩
theorem kR {w0 w':World}{c:C3}{t e:Az}{o:Bool}{b ve:Value}(l:DD (λk=>w0.heap.size<=k) w' b t) (d:if o then DD (λk=>w0.heap.size<=k) w' ve e else ve=A4/\e= .nil):
  LZ w0 w' (.ite c t o e .nil) (.agg (LT c b ve).toArray):=by
 obtain⟨m,n1,p,n3,q⟩:=Fl c.k;have r:LT c b ve=[vs Ja,.int .i64 0,.int .i64 0,.bool false,vs (Cj c.k),.int .i64 (Bs c.k),vs m,.int .i64 n1,vs p,.int .i64 n3,.bool (Dn c.bI),b,ve]:=by unfold LT Bt;rw[q];rfl
 obtain⟨x,u,y,f⟩:=l.fa;have i:∃a n c,ve= .slice a n c:=by
  cases o with
  |true=>obtain⟨g2,z,c2,h⟩:=DD.fa d;exact⟨_,_,_,h⟩
  |false=>exact⟨_,_,_,d.1⟩
 obtain⟨A,v,c2,j⟩:=i;refine⟨LT c b ve,rfl,rfl,⟨_,_,_,_,_,_,_,_,_,_,_,_,_,_,_,_,_,by rw[r,f,j]⟩,⟨b,ve,[],by simp,l,?_,rfl⟩⟩;exact d
theorem j5 {w0 w':World}{n:Int}{c:C3}{b:Az}{a:Value}(e:DD (λk=>w0.heap.size<=k) w' a b):LZ w0 w' (.rep n c b .nil) (.agg (IL n c a).toArray):=by
 obtain⟨f,n1,h,n3,i⟩:=Fl c.k;have j:IL n c a=[vs Bf,.int .i64 n,.int .i64 0,.bool false,vs (Cj c.k),.int .i64 (Bs c.k),vs f,.int .i64 n1,vs h,.int .i64 n3,.bool (Dn c.bI),a,A4]:=by unfold IL Bt;rw[i];rfl
 obtain⟨m,l,o,d⟩:=e.fa;exact⟨IL n c a,rfl,rfl,⟨_,_,_,_,_,_,_,_,_,_,_,_,_,_,_,_,_,by rw[j,d];rfl⟩,⟨a,[],by simp,e,rfl⟩⟩
theorem pJ {w f:World}{c:C3}{t e:Az}{x y z:Nat}{ve:Value}{D:Ah}{n1:Int}{E:Ah}{n3:Int}{o:Bool}
  (F:Bt c=[.string ⟨(Cj c.k).toArray⟩,.int .i64 (Bs c.k),.string ⟨D.toArray⟩,.int .i64 n1,.string ⟨E.toArray⟩,.int .i64 n3,.bool (Dn c.bI)])
  (G:DD (λk=>w.heap.size+2<=k) f (.slice (some ⟨x,0,none⟩) y z) t) (v:if o then DD (λk=>w.heap.size+2<=k) f ve e else ve=A4/\e= .nil) (h i j l m n p q r u a b d:Value):
  LZ w (copied f w.heap.size h i j l m n p q r u a b d) (.ite c t o e .nil)
   (.agg #[.string ⟨Ja.toArray⟩,.int .i64 0,.int .i64 0,.bool false,.string ⟨(Cj c.k).toArray⟩,.int .i64 (Bs c.k),.string ⟨D.toArray⟩,.int .i64 n1,.string ⟨E.toArray⟩,.int .i64 n3,.bool (Dn c.bI),.slice (some ⟨x,0,none⟩) y z,ve]):=by
 have H:DD (λk=>w.heap.size<=k) (copied f w.heap.size h i j l m n p q r u a b d) (.slice (some ⟨x,0,none⟩) y z) t:=(G.copied (R:=w.heap.size) (by omega) h i j l m n p q r u a b d).mono (λk _ A=>Ad (Da _ 2) A);have I:if o then DD (λk=>w.heap.size<=k) (copied f w.heap.size h i j l m n p q r u a b d) ve e else ve=A4/\e= .nil:=by
  cases o with
  |true=>
   rw[Al rfl]at v ⊢;have J:=DD.copied v (R:=w.heap.size) (by omega) h i j l m n p q r u a b d;exact J.mono (λk _ A=>Ad (Da _ 2) A)
  |false=>
   rw[Ai AY]at v ⊢;exact v
 have C:=kR H I (c:=c);unfold LT at C;rw[F]at C;exact C
theorem ux {w f:World}{c:C3}{b:Az}{n:Int}{h i j:Nat}{z:Ah}{n1:Int}{A:Ah}{n3:Int}
  (C:Bt c=[.string ⟨(Cj c.k).toArray⟩,.int .i64 (Bs c.k),.string ⟨z.toArray⟩,.int .i64 n1,.string ⟨A.toArray⟩,.int .i64 n3,.bool (Dn c.bI)])
  (D:DD (λk=>w.heap.size+2<=k) f (.slice (some ⟨h,0,none⟩) i j) b) (l m o p q r t u v x a d e:Value):
  LZ w (copied f w.heap.size l m o p q r t u v x a d e) (.rep n c b .nil)
   (.agg #[.string ⟨Bf.toArray⟩,.int .i64 n,.int .i64 0,.bool false,.string ⟨(Cj c.k).toArray⟩,.int .i64 (Bs c.k),.string ⟨z.toArray⟩,.int .i64 n1,.string ⟨A.toArray⟩,.int .i64 n3,.bool (Dn c.bI),.slice (some ⟨h,0,none⟩) i j,.slice none 0 0]):=by
 have E:DD (λk=>w.heap.size<=k) (copied f w.heap.size l m o p q r t u v x a d e) (.slice (some ⟨h,0,none⟩) i j) b:=(D.copied (R:=w.heap.size) (by omega) l m o p q r t u v x a d e).mono (λk _ F=>Ad (Da _ 2) F);have y:=j5 (n:=n) E (c:=c);unfold IL at y;rw[C]at y;exact y
theorem ui (n:Nat) (bC:Wb B ea g gp bm s n) (h:DO B ea w g gp bm vd wp s st) (ok:st.Ok s) (hd:st.depth<=8) (hl:st.loops<=2) (hn:2*left s st+1<=n+1) (hk:st.t.kind=Ja):
  Calls prog 109 #[.pointer (some ⟨g,0,none⟩)] w λe w'=>DU B ea w g gp bm s
   ((cond s (n+1) (next s st)).bind λc st=>(block s n st).bind λt st=>
    if st.t.kind=Dl then(block s n (next s st)).bind λe st=>.ok (.ite c t true e .nil) st
    else .ok (.ite c t false .nil .nil) st) (LZ w) e w':=by
 have q0:=Fp.start h [vs Ja,.int .i64 0,.int .i64 0,.bool false,vs [],.int .i64 0,vs [],.int .i64 0,vs [],.int .i64 0,.bool false,.slice none 0 0,.slice none 0 0];have bE:=En q0.rd;obtain⟨_,_,c2,_⟩:=AX (h.alloc (.cells #[vs [],.int .i64 0,.int .i64 0,.bool false,vs [],.int .i64 0,vs [],.int .i64 0,vs [],.int .i64 0,.bool false,.slice none 0 0,.slice none 0 0] 203)).row;have hB:=h.env.size;have hg:=h.g0;have bF:=D3 ok hk (by decide) (by decide);rw[hk]at c2;obtain⟨Q0,HN,bG,bH,W,X⟩:=zq6 q0 bE (Cc ok) bC bF hn;clear q0 bE h ok hk bC bF hn;unfold vs at*;go_enter Iu,GX;go_wp2_with fail;refine HN.out.mono ?_;rintro e w1 ⟨rfl,cy,h1⟩;have q1:=Q0.out.call cy h1 rfl rfl rfl;have hc:=VX (n+1) (next s st) _ _ _ q1.rd bG.out (by have:=W.out;have:=X.out;omega);obtain⟨H,e1,I,J,K,L,M,N,O,P,d,f,i⟩:=BN q1.bn;have z:=λj=>q1.bn.frozen j;obtain⟨Q1,HC⟩:=zq2 q1 hc;clear cy h1 q1 hc;unfold vs at*;go_wp2_with fail;refine HC.out.mono ?_;rintro e w2 u;clear H e1 I J K L M N O P d f i z;cases p:cond s (n+1) (next s st)with
 |bad k pos=>
  rw[p]at u;obtain⟨gf,rfl,hF⟩:=Bn hB hg Q1.out.kg u;have x:=Aa p;clear p;go_wp2;refine⟨rfl,?_⟩;rw[x.out];exact⟨gf,rfl,hF⟩
 |ok c st1=>
  rw[p]at u;obtain⟨v,rfl,rfl,cD,hU,hY,h2⟩:=u;obtain⟨a,lt,_⟩:=Jx bG.out p;obtain⟨b0,n1,b2,n3,hv⟩:=Fl c.k;have ec:Bt c=[.string ⟨(Cj c.k).toArray⟩,.int .i64 (Bs c.k),.string ⟨b0.toArray⟩,.int .i64 n1,.string ⟨b2.toArray⟩,.int .i64 n3,.bool (Dn c.bI)]:=by unfold Bt;rw[hv];rfl
  have p2:=Q1.out.call cD h2 a.decls a.aD a.rules;obtain⟨H,e1,I,J,K,L,M,N,O,P,d,f,i⟩:=BN p2.bn;have z:=λj=>p2.bn.frozen j;have q2:=((((((p2.eT 4 (.string ⟨(Cj c.k).toArray⟩)).eT 5 (.int .i64 (Bs c.k))).eT 6 (.string ⟨b0.toArray⟩)).eT 7 (.int .i64 n1)).eT 8 (.string ⟨b2.toArray⟩)).eT 9 (.int .i64 n3)).eT 10 (.bool (Dn c.bI));have hb:=bH.out st1 _ _ _ q2.rd a.ok (by have:=a.depth;simp only[next]at this;omega) (by have:=a.loops;simp only[next]at this;omega) (by have:=W.out;have:=X.out;omega);obtain⟨x,D,eV,Q2,HB,EC⟩:=zq6 p a lt q2 hb ec;rw[ec];clear cD h2 p2 q2 hb p a lt hv ec;unfold vs at*;go_wp2_with fail;refine HB.out.mono ?_;rintro e w3 u;clear H e1 I J K L M N O P d f i z;cases q:block s n st1 with
  |bad k pos=>
   rw[q]at u;obtain⟨gf,rfl,hF⟩:=Bn hB hg Q2.out.kg u;have E:=Aa q;clear q;go_wp2;refine⟨rfl,?_⟩;rw[x.out];show DU _ _ _ _ _ _ _ ((block s n st1).bind _) _ _ _;rw[E.out];exact⟨gf,rfl,hF⟩
  |ok t b=>
   rw[q]at u;obtain⟨vt,rfl,Y,cW,ic,ie,h3⟩:=u;have Z:=DT D.out.ok (by have:=D.out.depth;simp only[next]at this;omega) (by have:=D.out.loops;simp only[next]at this;omega) q;have a:=Z.1;have R:=Z.2.2.2.2.2;obtain⟨gt,nt,ct,rfl⟩:=Y.fa;have p3:=Q2.out.call cW h3 a.decls a.aD a.rules;obtain⟨H,e1,I,J,K,L,M,N,O,P,d,f,i⟩:=BN p3.bn;have z:=λj=>p3.bn.frozen j;have q3:=p3.eT 11 (.slice (some ⟨gt,0,none⟩) nt ct);obtain⟨ht,cX,eX⟩:=zp3 (Gp q3.rd Dl) Q2.out.kg.size Q2.out.bn.lt;have S:DD (λk=>w.heap.size+2<=k) (w3.setCell ⟨w.heap.size+1,11,none⟩ (.slice (some ⟨gt,0,none⟩) nt ct)) (.slice (some ⟨gt,0,none⟩) nt ct) t:=
    (Y.dc (by omega) 11 _).mono (λk _ hk=>by omega)
   have T:=a.ok;have cY:b.depth<=8:=by have h1:=D.out.depth;have h2:=a.depth;simp only[next]at h1;omega
   have cZ:b.loops<=2:=by have h1:=D.out.loops;have h2:=a.loops;simp only[next]at h1;omega
   obtain⟨E,da,Q3,HT,F,eY⟩:=zq6 q S q3 ht T R;clear cW h3 p3 q3 ht q Y S Z a R cX eX T;unfold vs at*;go_wp2_with fail;refine HT.out.mono ?_;rintro e w4 ⟨rfl,A,h4⟩;clear H e1 I J K L M N O P d f i z;by_cases l:b.t.kind=Dl
   ·rw[LF l]at h4;have q4:=Q3.out.call A h4 rfl rfl rfl;have eZ:=D3 F.out l (by decide) (by decide);have hb:=bH.out (next s b) _ _ _ q4.rd (Cc F.out) cY cZ (by have:=W.out;have:=X.out;have:=eV.out;have:=eY.out;omega);obtain⟨H,e1,I,J,K,L,M,N,O,P,d,f,i⟩:=BN q4.bn;have z:=λj=>q4.bn.frozen j;have m:=da.out.later A Q3.out.row;obtain⟨dh,Q4,fb,Q⟩:=zq4 m q4 hb l;have et:(take s Dl b).1=true:=by rw[LF l]
    rw[et];clear A h4 q4 hb m l eZ et;unfold vs at*;go_wp2_with fail;refine fb.out.mono ?_;rintro e w5 u;clear H e1 I J K L M N O P d f i z;cases r:block s n (next s b)with
    |bad k pos=>
     rw[r]at u;obtain⟨gf,rfl,hF⟩:=Bn hB hg Q4.out.kg u;have bg:=Aa r;clear r;go_wp2;refine⟨rfl,?_⟩;rw[x.out];show DU _ _ _ _ _ _ _ ((block s n st1).bind _) _ _ _;rw[E.out];show DU _ _ _ _ _ _ _ (if b.t.kind=Dl then _ else _) _ _ _;rw[Al Q.out,bg.out];exact⟨gf,rfl,hF⟩
    |ok el ix=>
     rw[r]at u;obtain⟨ve,rfl,bh,bi,iy,iG,h5⟩:=u;have a:=(DT (Cc F.out) cY cZ r).1;obtain⟨ge,ne,ce,rfl⟩:=bh.fa;have p5:=Q4.out.call bi h5 a.decls a.aD a.rules;obtain⟨H,e1,I,J,K,L,M,N,O,P,d,f,i⟩:=BN p5.bn;obtain⟨f0,f1,f2,f3,f4,f5,f6,f7,f8,f9,fc,fd,fh⟩:=BN p5.dm;have z:=λj=>p5.bn.frozen j;have y:=λj=>p5.dm.frozen j;have q5:=p5.eT 12 (.slice (some ⟨ge,0,none⟩) ne ce);obtain⟨q6,dt,U,dv⟩:=zp4 (q5.copy (.string ⟨Ja.toArray⟩) (.int .i64 0) (.int .i64 0) (.bool false) (.string ⟨(Cj c.k).toArray⟩) (.int .i64 (Bs c.k)) (.string ⟨b0.toArray⟩) (.int .i64 n1) (.string ⟨b2.toArray⟩) (.int .i64 n3) (.bool (Dn c.bI)) (.slice (some ⟨gt,0,none⟩) nt ct) (.slice (some ⟨ge,0,none⟩) ne ce)) Q4.out.kg.size (dh.out.later bi Q4.out.row) Q4.out.bn.lt;have V:DD (λk=>w.heap.size+2<=k) w5 (.slice (some ⟨ge,0,none⟩) ne ce) el:=bh.mono (λk _ hk=>by omega);obtain⟨bg,Q6,fi,G⟩:=zq4 r q6 V U;clear bi h5 p5 q5 q6 r bh V U a dt dv;unfold vs at*;go_wp2;refine AA (AP (cs:=[.string ⟨Ja.toArray⟩,.int .i64 0,.int .i64 0,.bool false,.string ⟨(Cj c.k).toArray⟩,.int .i64 (Bs c.k),.string ⟨b0.toArray⟩,.int .i64 n1,.string ⟨b2.toArray⟩,.int .i64 n3,.bool (Dn c.bI),.slice (some ⟨gt,0,none⟩) nt ct,.slice (some ⟨ge,0,none⟩) ne ce]) GD Mw Ki rfl Q6.out.dm) rfl ?_;rw[x.out];show DU _ _ _ _ _ _ _ ((block s n st1).bind _) _ _ _;rw[E.out];show DU _ _ _ _ _ _ _ (if b.t.kind=Dl then _ else _) _ _ _;rw[Al Q.out,bg.out];exact⟨_,rfl,pJ (o:=true) (e:=el) (ve:=.slice (some ⟨ge,0,none⟩) ne ce) EC.out (G.out.dc (C:=w.heap.size+1) (by omega) 12 (.slice (some ⟨ge,0,none⟩) ne ce)) (by rw[Al rfl];exact fi.out.dc (C:=w.heap.size+1) (by omega) 12 _) _ _ _ _ _ _ _ _ _ _ _ _ _,Q6.out.kg,_,_,Q6.out.rd⟩
   ·rw[KN l]at h4;have p4:=Q3.out.call A h4 rfl rfl rfl;obtain⟨H,e1,I,J,K,L,M,N,O,P,d,f,i⟩:=BN p4.bn;obtain⟨f0,f1,f2,f3,f4,f5,f6,f7,f8,f9,fc,fd,fh⟩:=BN p4.dm;have z:=λj=>p4.bn.frozen j;have y:=λj=>p4.dm.frozen j;have q6:=p4.copy (.string ⟨Ja.toArray⟩) (.int .i64 0) (.int .i64 0) (.bool false) (.string ⟨(Cj c.k).toArray⟩) (.int .i64 (Bs c.k)) (.string ⟨b0.toArray⟩) (.int .i64 n1) (.string ⟨b2.toArray⟩) (.int .i64 n3) (.bool (Dn c.bI)) (.slice (some ⟨gt,0,none⟩) nt ct) (.slice none 0 0);have m:=da.out.later A Q3.out.row;obtain⟨G,Q,Q6⟩:=zq3 m l q6;have et:(take s Dl b).1=false:=by rw[KN l]
    rw[et];clear A h4 p4 q6 m l et;unfold vs at*;go_wp2;refine AA (AP (cs:=[.string ⟨Ja.toArray⟩,.int .i64 0,.int .i64 0,.bool false,.string ⟨(Cj c.k).toArray⟩,.int .i64 (Bs c.k),.string ⟨b0.toArray⟩,.int .i64 n1,.string ⟨b2.toArray⟩,.int .i64 n3,.bool (Dn c.bI),.slice (some ⟨gt,0,none⟩) nt ct,.slice none 0 0]) GD Mw Ki rfl Q6.out.dm) rfl ?_;rw[x.out];show DU _ _ _ _ _ _ _ ((block s n st1).bind _) _ _ _;rw[E.out];show DU _ _ _ _ _ _ _ (if b.t.kind=Dl then _ else _) _ _ _;rw[Ai Q.out];exact⟨_,rfl,pJ (o:=false) (e:=.nil) (ve:=.slice none 0 0) EC.out G.out (by rw[Ai AY];exact⟨rfl,rfl⟩) _ _ _ _ _ _ _ _ _ _ _ _ _,Q6.out.kg,_,_,Q6.out.rd⟩
theorem Fp.loops {w0:World}{a:Value}{b:PS}{R C:Nat}{cs c:List Value}(h:Fp B ea g gp bm vd s b w0 a st w wp R C cs c) (n:Nat) {i:Int}(d:i=n):
  Fp B ea g gp bm vd s b w0 a {st with loops:=n} (w.setCell ⟨g,8,none⟩ (.int .i64 i)) wp R C cs c:=h.call (Kg.cell g w 8 _) (h.rd.nF n d) rfl rfl rfl
theorem Wq (h:DO B ea w g gp bm vd wp s st) (c:st.t.kind=Bf) (d:st.loops=2):
  Calls prog 109 #[.pointer (some ⟨g,0,none⟩)] w λe w'=>DU B ea w g gp bm s (fail Sa st) (LZ w) e w':=by
 have a:=Fp.start h [vs Bf,.int .i64 0,.int .i64 0,.bool false,vs [],.int .i64 0,vs [],.int .i64 0,vs [],.int .i64 0,.bool false,.slice none 0 0,.slice none 0 0];obtain⟨_,_,c2,_⟩:=AX (h.alloc (.cells #[vs [],.int .i64 0,.int .i64 0,.bool false,vs [],.int .i64 0,vs [],.int .i64 0,vs [],.int .i64 0,.bool false,.slice none 0 0,.slice none 0 0] 203)).row;obtain⟨_,_,_,_,_,_,_,_,i,_⟩:=AX a.rd.row;have b:=a.rd.env.err 3 (by omega) (by omega);obtain⟨f,j,k⟩:=zp3 (RS a.rd 3) h.env.size h.g0;rw[c]at c2;rw[d]at i;rw[show Ly 3=8 from rfl]at b;obtain⟨l,m⟩:=zq2 f a;clear f a h c d;unfold vs Dq at*;go_enter Iu,GX;go_wp2_with fail;refine l.out.mono ?_;rintro e w1 n;obtain⟨gf,rfl,hF⟩:=Bn j k m.out.kg n;go_wp2;exact⟨rfl,gf,rfl,hF⟩
theorem ol (n:Nat) (bh:Wb B ea g gp bm s n) (h:DO B ea w g gp bm vd wp s st) (ok:st.Ok s) (hd:st.depth<=8) (hl:st.loops<2) (hn:2*left s st+1<=n+1) (hk:st.t.kind=Bf):
  Calls prog 109 #[.pointer (some ⟨g,0,none⟩)] w λe w'=>DU B ea w g gp bm s
   ((number s 1 50 (next s st)).bind λk st=>(want s Cu st).bind λ_ st=>(cond s (n+1) st).bind λc st=>
    (block s n {st with loops:=st.loops+1}).bind λb st=>.ok (.rep k c b .nil) {st with loops:=st.loops-1}) (LZ w) e w':=by
 have q0:=Fp.start h [vs Bf,.int .i64 0,.int .i64 0,.bool false,vs [],.int .i64 0,vs [],.int .i64 0,vs [],.int .i64 0,.bool false,.slice none 0 0,.slice none 0 0];have bj:=En q0.rd;obtain⟨_,_,c2,_⟩:=AX (h.alloc (.cells #[vs [],.int .i64 0,.int .i64 0,.bool false,vs [],.int .i64 0,vs [],.int .i64 0,vs [],.int .i64 0,.bool false,.slice none 0 0,.slice none 0 0] 203)).row;obtain⟨_,_,_,_,_,_,_,_,c8,_⟩:=AX q0.rd.row;have hB:=h.env.size;have hg:=h.g0;have bo:=D3 ok hk (by decide) (by decide);rw[hk]at c2;have b8:((st.loops:Int)==2)=false:=by simp;omega
 have b9:(st.loops:Int)<2:=by omega
 have hU:(0:Int)<=(st.loops:Int):=by omega
 obtain⟨Q0,HN,bp,dz,bq,br⟩:=zq6 q0 bj (Cc ok) bh bo hn;clear q0 bj h ok hk bh bo hn;unfold vs at*;go_enter Iu,GX;go_wp2_with fail;refine HN.out.mono ?_;rintro e w1 ⟨rfl,bu,h1⟩;have q1:=Q0.out.call bu h1 rfl rfl rfl;have hm:=IJ q1.rd bp.out 1 50;obtain⟨L,e1,M,N,O,P,Q,R,S,T,o,p,q⟩:=BN q1.bn;have z:=λj=>q1.bn.frozen j;obtain⟨Q1,HM⟩:=zq2 q1 hm;clear bu h1 q1 hm c8;unfold vs at*;go_wp2_with fail;refine HM.out.mono ?_;rintro e w2 f;clear L e1 M N O P Q R S T o p q z;cases u:number s 1 50 (next s st)with
 |bad k pos=>
  rw[u]at f;obtain⟨gf,rfl,hF⟩:=Bn hB hg Q1.out.kg f;have E:=Aa u;clear u;go_wp2;refine⟨rfl,?_⟩;rw[E.out];exact⟨gf,rfl,hF⟩
 |ok m st1=>
  rw[u]at f;obtain⟨v,rfl,rfl,bz,ie,ig,h2⟩:=f;obtain⟨fw,lt,_⟩:=Gz bp.out u;have p2:=Q1.out.call bz h2 fw.decls fw.aD fw.rules;obtain⟨L,e1,M,N,O,P,Q,R,S,T,o,p,q⟩:=BN p2.bn;have z:=λj=>p2.bn.frozen j;have q2:=p2.eT 1 (.int .i64 m);have hw:=Db q2.rd Cu;obtain⟨E,bD,bE,Q2,HW⟩:=zq5 u fw lt q2 hw;clear bz h2 p2 q2 hw u fw lt;unfold vs at*;go_wp2_with fail;refine HW.out.mono ?_;rintro e w3 f;clear L e1 M N O P Q R S T o p q z;cases x:want s Cu st1 with
  |bad k pos=>
   rw[x]at f;obtain⟨gf,rfl,hF⟩:=Bn hB hg Q2.out.kg f;have G:=Aa x;clear x;go_wp2;refine⟨rfl,?_⟩;rw[E.out];show DU _ _ _ _ _ _ _ ((want s Cu st1).bind _) _ _ _;rw[G.out];exact⟨gf,rfl,hF⟩
  |ok tw F=>
   rw[x]at f;obtain⟨v,rfl,rfl,bF,ix,iy,h3⟩:=f;have U:=(BF x).2.2;have l:Gl s st1 F:=by rw[U];exact Gl.next bD.out.ok
   have q3:=Q2.out.call bF h3 l.decls l.aD l.rules;have hc:=VX (n+1) F _ _ _ q3.rd l.ok (by have:=bq.out;have:=br.out;have:=bE.out;have:=l.left;omega);obtain⟨L,e1,M,N,O,P,Q,R,S,T,o,p,q⟩:=BN q3.bn;have z:=λj=>q3.bn.frozen j;obtain⟨G,bH,cy,cz,Q3,HC⟩:=zq6 x (bD.out.trans l) l.ok l.left q3 hc;clear bF h3 q3 hc x U l;unfold IK vs at*;go_wp2_with fail;refine HC.out.mono ?_;rintro e w4 f;clear L e1 M N O P Q R S T o p q z;cases A:cond s (n+1) F with
   |bad k pos=>
    rw[A]at f;obtain⟨gf,rfl,hF⟩:=Bn hB hg Q3.out.kg f;have K:=Aa A;clear A;go_wp2;refine⟨rfl,?_⟩;rw[E.out];show DU _ _ _ _ _ _ _ ((want s Cu st1).bind _) _ _ _;rw[G.out];show DU _ _ _ _ _ _ _ ((cond s (n+1) F).bind _) _ _ _;rw[K.out];exact⟨gf,rfl,hF⟩
   |ok c a=>
    rw[A]at f;obtain⟨v,rfl,rfl,cD,iL,iM,h4⟩:=f;obtain⟨d,eR,_⟩:=Jx cy.out A;obtain⟨b0,n1,b2,n3,hv⟩:=Fl c.k;have ec:Bt c=[.string ⟨(Cj c.k).toArray⟩,.int .i64 (Bs c.k),.string ⟨b0.toArray⟩,.int .i64 n1,.string ⟨b2.toArray⟩,.int .i64 n3,.bool (Dn c.bI)]:=by unfold Bt;rw[hv];rfl
    have F3:=bH.out.trans d;have X:a.loops=st.loops:=F3.loops;have eU:a.depth=st.depth:=F3.depth;have J:=Q3.out.call cD h4 d.decls d.aD d.rules;obtain⟨L,e1,M,N,O,P,Q,R,S,T,o,p,q⟩:=BN J.bn;have z:=λj=>J.bn.frozen j;obtain⟨_,_,_,_,_,_,_,_,c8,_⟩:=AX J.row;have cL:=J.row.frozen 8;have eV:¬w.heap.size+1=g:=J.bn.bt J.row (by decide);have gX:¬g=w.heap.size+1:=λe=>eV e.symm;have eW:¬w.heap.size=g:=J.dm.bt J.row (by decide);have gY:¬g=w.heap.size:=λe=>eW e.symm;rw[X]at c8;have q4:=(((((((J.eT 4 (.string ⟨(Cj c.k).toArray⟩)).eT 5 (.int .i64 (Bs c.k))).eT 6 (.string ⟨b0.toArray⟩)).eT 7 (.int .i64 n1)).eT 8 (.string ⟨b2.toArray⟩)).eT 9 (.int .i64 n3)).eT 10 (.bool (Dn c.bI))).loops (st.loops+1) (i:=(st.loops:Int)+1) rfl;have hb:=dz.out {a with loops:=st.loops+1} _ _ _ q4.rd ⟨d.ok.i,d.ok.pos,d.ok.more,d.ok.num,d.ok.name⟩ (by show a.depth<=8;omega) (by show st.loops+1<=2;omega)
     (by have h1:=bq.out;have h2:=br.out;have h3:=bE.out;have h4:=cz.out;show 2*left s a+1<=n;omega)
    obtain⟨K,eY,Q4,HB,EC,cW,r⟩:=zq7 A F3 q4 hb ec X d.ok;rw[ec];clear cD h4 J q4 hb A d eR hv ec F3 X eU;unfold vs at*;go_wp2_with fail;refine HB.out.mono ?_;rintro e w5 f;clear L e1 M N O P Q R S T o p q z c8 cL;cases D:block s n {a with loops:=st.loops+1}with
    |bad k pos=>
     rw[D]at f;obtain⟨gf,rfl,hF⟩:=Bn hB hg Q4.out.kg f;have Y:=Aa D;clear D;go_wp2;refine⟨rfl,?_⟩;rw[E.out];show DU _ _ _ _ _ _ _ ((want s Cu st1).bind _) _ _ _;rw[G.out];show DU _ _ _ _ _ _ _ ((cond s (n+1) F).bind _) _ _ _;rw[K.out];show DU _ _ _ _ _ _ _ ((block s n {a with loops:=a.loops+1}).bind _) _ _ _;rw[cW.out,Y.out];exact⟨gf,rfl,hF⟩
    |ok bb cX=>
     rw[D]at f;obtain⟨vt,rfl,Z,cY,iR,eZ,h5⟩:=f;have H:=(DT (st:={a with loops:=st.loops+1}) ⟨r.out.i,r.out.pos,r.out.more,r.out.num,r.out.name⟩ (by have:=eY.out.depth;simp only[next]at this;show a.depth<=8;omega) (by show st.loops+1<=2;omega) D).1;have I:cX.loops=st.loops+1:=H.loops;obtain⟨gt,nt,ct,rfl⟩:=Z.fa;have V:=Q4.out.call cY h5 H.decls H.aD H.rules;obtain⟨L,e1,M,N,O,P,Q,R,S,T,o,p,q⟩:=BN V.bn;obtain⟨f0,f1,f2,f3,f4,f5,f6,f7,f8,f9,iS,iT,iU⟩:=BN V.dm;have z:=λj=>V.bn.frozen j;have y:=λj=>V.dm.frozen j;obtain⟨_,_,_,_,_,_,_,_,c8,_⟩:=AX V.row;have cL:=V.row.frozen 8;rw[I]at c8;have q5:=(V.eT 11 (.slice (some ⟨gt,0,none⟩) nt ct)).loops st.loops (i:=(st.loops:Int)) rfl;obtain⟨q6,cZ,fb⟩:=zp3 (q5.copy (.string ⟨Bf.toArray⟩) (.int .i64 m) (.int .i64 0) (.bool false) (.string ⟨(Cj c.k).toArray⟩) (.int .i64 (Bs c.k)) (.string ⟨b0.toArray⟩) (.int .i64 n1) (.string ⟨b2.toArray⟩) (.int .i64 n3) (.bool (Dn c.bI)) (.slice (some ⟨gt,0,none⟩) nt ct) (.slice none 0 0)) Q4.out.bn.lt Q4.out.row.lt;have W:DD (λk=>w.heap.size+2<=k) ((w5.setCell ⟨w.heap.size+1,11,none⟩ (.slice (some ⟨gt,0,none⟩) nt ct)).setCell ⟨g,8,none⟩ (.int .i64 (st.loops:Int))) (.slice (some ⟨gt,0,none⟩) nt ct) bb:=
      ((Z.dc (C:=w.heap.size+1) (by omega) 11 (.slice (some ⟨gt,0,none⟩) nt ct)).dc (C:=g) (by omega) 8 (.int .i64 (st.loops:Int))).mono (λk _ hk=>Ad cZ hk)
     have da:(((st.loops+1:Nat):Int)-1)=(st.loops:Int):=by omega
     obtain⟨iV,Y,Q6,fd,fh⟩:=zq5 da D q6 W I;clear cY h5 V q5 q6 D Z W H cZ fb da I;unfold vs at*;go_wp2;refine AA (AP (cs:=[.string ⟨Bf.toArray⟩,.int .i64 m,.int .i64 0,.bool false,.string ⟨(Cj c.k).toArray⟩,.int .i64 (Bs c.k),.string ⟨b0.toArray⟩,.int .i64 n1,.string ⟨b2.toArray⟩,.int .i64 n3,.bool (Dn c.bI),.slice (some ⟨gt,0,none⟩) nt ct,.slice none 0 0]) GD Mw Ki rfl Q6.out.dm) rfl ?_;rw[E.out];show DU _ _ _ _ _ _ _ ((want s Cu st1).bind _) _ _ _;rw[G.out];show DU _ _ _ _ _ _ _ ((cond s (n+1) F).bind _) _ _ _;rw[K.out];show DU _ _ _ _ _ _ _ ((block s n {a with loops:=a.loops+1}).bind _) _ _ _;rw[cW.out,Y.out];refine⟨_,rfl,ux EC.out fd.out _ _ _ _ _ _ _ _ _ _ _ _ _,Q6.out.kg,vd,eZ,?_⟩;have hr:=Q6.out.rd;rw[show cX.loops-1=st.loops by rw[fh.out];rfl];exact hr
end
section
variable {B:Nat}{ea:Nat->Addr}{w:World}{g gp bm:Nat}{vd wp:Value}{s:Ah}{st:PS}
theorem jJ (n:Nat) (d:Wb B ea g gp bm s n):rF B ea g gp bm s (n+1):=by
 intro st w vd wp h b q u r;rw[stmt];by_cases e:st.t.kind=Kx
 ·rw[Al e];exact om h b e
 rw[Ai e];by_cases f:st.t.kind=Ep
 ·rw[Al f];exact Tx (.inl ⟨rfl,rfl⟩) h b f
 rw[Ai f];by_cases i:st.t.kind=Ig
 ·rw[Al i];exact Tx (.inr ⟨rfl,rfl⟩) h b i
 rw[Ai i];by_cases j:st.t.kind=Do
 ·rw[Al j];exact dN h b j
 rw[Ai j];by_cases k:st.t.kind=Mb
 ·rw[Al k];exact Xo (.inl ⟨rfl,rfl⟩) h b k
 rw[Ai k];by_cases l:st.t.kind=Mc
 ·rw[Al l];exact Xo (.inr ⟨rfl,rfl⟩) h b l
 rw[Ai l];by_cases m:st.t.kind=IW
 ·rw[Al m];exact UU (.inl ⟨rfl,rfl⟩) h b m
 rw[Ai m];by_cases o:st.t.kind=IX
 ·rw[Al o];exact UU (.inr ⟨rfl,rfl⟩) h b o
 rw[Ai o];by_cases p:st.t.kind=Ja
 ·rw[Al p];exact ui n d h b q u r p
 rw[Ai p];by_cases a:st.t.kind=Bf
 ·rw[Al a];by_cases c:st.loops=2
  ·rw[Al c];exact Wq h a c
  ·rw[Ai c];exact ol n d h b q (by omega) r a
 rw[Ai a];exact jK h e f i j k l m o p a
theorem re (n:Nat):Wb B ea g gp bm s n/\rF B ea g gp bm s n:=by
 induction n using Nat.strongRecOn with
 |ind n a=>
  cases n with
  |zero=>exact⟨λst w vd wp h b c d e=>by omega,λst w vd wp h b c d e=>by omega⟩
  |succ n=>exact⟨fT n (λm f=>(a m f).2),jJ n (a n (by omega)).1⟩
theorem l9 (h:DO B ea w g gp bm vd wp s st) (a:st.Ok s) (c:st.depth<=8) (d:st.loops<=2) {n:Nat}(f:2*left s st+1<=n):
  Calls prog 75 #[.pointer (some ⟨g,0,none⟩)] w λe w'=>DU B ea w g gp bm s (block s n st) (λw' b v=>DD (λk=>w.heap.size<=k) w' v b) e w':=
 (re n).1 st w vd wp h a c d f
end
theorem Pi (w:World):(zeroValue 105).run prog w= .ok (.slice none 0 0) w:=by kernel_rfl
def JP (B:Nat) (ea:Nat->Addr) (w:World) (g gp bm:Nat) (s:Ah) (x:AO Unit) (e:Ending) (w':World):Prop:=
 match x with
 | .ok _ st'=>e= .returned (.tuple #[])/\Ac (λb=>B<=b) w w'/\∃vd wp,DO B ea w' g gp bm vd wp s st'
 | .bad k pos=>SE B ea w e w' k pos
section
variable {B:Nat}{ea:Nat->Addr}{w:World}{g gp bm:Nat}{vd wp:Value}{s:Ah}{st:PS}
theorem SY {N:Nat->Prop}:∀(M:GZ) (c:List (Int×Az)),M.map (·.1)=c.map (·.1)->(∀(i:Nat) (x:Int×Value) (y:Int×Az),M[i]?=some x->c[i]?=some y->DD N w x.2 y.2)->∀k:Int,
  match Bj c k with
  |some b=>∃v,FV M k=some v/\DD N w v b
  |none=>FV M k=none
 | [],[],_,_,k=>rfl
 | [],_::_,h,_,_=>by simp at h
 |_::_,[],h,_,_=>by simp at h
 |x::M,y::c,h,f,k=>by
  simp only[BR,IN]at h;unfold Bj FV;by_cases e:y.1=k
  ·have d:x.1=k:=h.1.trans e;rw[Mj (by simpa using e),Mj (by simpa using d)];exact⟨x.2,rfl,f 0 x y rfl rfl⟩
  ·have d:¬x.1=k:=by rw[h.1];exact e
   rw[Ex (by simpa using e),Ex (by simpa using d)];exact SY M c h.2 (λi a b j l=>f (i+1) a b (by simpa using j) (by simpa using l)) k
theorem FP.look {N:Nat->Prop}{a:List (Int×Az)}(h:FP N w bm a) (k:Int):∃v,(∀c,(Instr.lookup 61 (.map (some bm)) (.int .i64 k) c).run prog w=
  .ok (if c then .tuple #[v,.bool (Bj a k).isSome]else v) w)/\(match Bj a k with|some b=>DD N w v b|none=>v= .slice none 0 0):=by
 obtain⟨M,e,i,j⟩:=h;have d:=SY M a i j k;cases f:Bj a k with
 |none=>
  rw[f]at d;refine⟨.slice none 0 0,λc=>?_,rfl⟩;rw[e.lookup (P:=prog) Fb C9 Pi k c,show FV M k=none from d];rfl
 |some b=>
  rw[f]at d;obtain⟨v,l,m⟩:=d;refine⟨v,λc=>?_,m⟩;rw[e.lookup (P:=prog) Fb C9 Pi k c,l];rfl
theorem Vi {M:GZ}{x:Int}(v:Value) (h:x∉M.map (·.1)):T1 M x v=M++[(x,v)]:=by
 unfold T1;have:FV M x=none:=by unfold FV;rw[Iw,IA];intro y a b;exact h (AD.2 ⟨y,a,by simpa using b⟩)
 rw[this];rfl
theorem DO.iG (h:DO B ea w g gp bm vd wp s st) {w':World}{k:Int}{v:Value}{b:Az}(l:Ac (λi=>i=bm) w w') {M:GZ}(r:BQ w bm .i64 M) (p:BQ w' bm .i64 (M++[(k,v)]))
  (u:M.map (·.1)=st.rules.map (·.1)) (C:∀(i:Nat) (x:Int×Value) (y:Int×Az),M[i]?=some x->st.rules[i]?=some y->DD (λb=>B<=b/\b≠g) w x.2 y.2) (m:DD (λb=>B<=b/\b≠g) w v b):
  DO B ea w' g gp bm vd wp s {st with rules:=st.rules++[(k,b)]}:=by
 have c:∀(b:Nat) t cs,AE w b t cs->¬(b=bm):=λb t cs n e=>r.bD (e▸n) rfl;have d:∀{v b},DD (λb=>B<=b/\b≠g) w v b->DD (λb=>B<=b/\b≠g) w' v b:=λD=>D.kept (λk cs _ n=>l.block k (c k _ cs n));refine⟨h.env.kept l (λb m=>by rw[m];exact h.mW),h.row.kept l (c _ _ _ h.row),h.ba.kept l (c _ _ _ h.ba),h.decls.kept l (λb m e=>h.decls.fp r (by rw[m,e])),⟨M++[(k,v)],p,?_,?_⟩,h.bC.dy l (λb cs n=>c b _ cs n),h.g0,h.lA,h.mW,h.i,h.s,h.dl⟩
 ·show(M++[(k,v)]).map (·.1)=(st.rules++[(k,b)]).map (·.1);rw[B9,B9,u];rfl
 ·intro i x y f z;have o:M.length=st.rules.length:=by have:=AG List.length u;simpa using this
  rcases Be i M.length with q|q
  ·rw[AV q]at f;have a:(st.rules++[(k,b)])[i]?=some y:=z;rw[AV (by omega)]at a;exact d (C i x y f a)
  ·rw[BE q]at f;have a:(st.rules++[(k,b)])[i]?=some y:=z;rw[BE (by omega),←o]at a;cases A:i-M.length with
   |zero=>
    rw[A]at f a;simp at f a;subst f a;exact d m
   |succ j=>rw[A]at f;simp at f
def N2 (s:Ah) (st:PS):AO Int:=if(next s st).t.kind=Fi then .ok (-1) (next s (next s st))else name s false (next s st)
theorem Nr {x:Option (Nat×Nat)}(h:IM B ea w wp x):(x=none/\wp= .pointer none)\/(∃y gf,x=some y/\wp= .pointer (some ⟨gf,0,none⟩)):=by
 cases x with
 |none=>exact .inl ⟨rfl,h⟩
 |some y=>obtain⟨gf,a,_⟩:=h;exact .inr ⟨y,gf,rfl,a⟩
def NZ (at_:Nat) (k:Int) (st:PS):PS:=if(Bj st.rules k).isSome&&st.bC.isNone then note JS at_ st else st
theorem Ny (s:Ah) (n:Nat) (st:PS):GG s n st=(N2 s st).bind λk st1=>(block s n (NZ st.t.pos k st1)).bind λb st=>.ok () (if st.bC.isNone then {st with rules:=st.rules++[(k,b)]}else st):=by
 unfold GG CP N2;simp only;split
 ·rfl
 ·cases name s false (next s st)<;>rfl
theorem qp {k:Int}{st1:PS}(a:st.Ok s) (h:N2 s st= .ok k st1):Gl s (next s st) st1:=by
 unfold N2 at h;split at h
 ·injection h with _ h;subst h;exact Gl.next (Cc a)
 ·exact(EV (Cc a) h).1
theorem oE (h:DO B ea w g gp bm vd wp s st) (ok:st.Ok s) (hd:st.depth=0) (hl:st.loops=0) (hk:st.t.kind=TF) {n:Nat}(hn:2*left s st+1<=n):
  Calls prog 38 #[.pointer (some ⟨g,0,none⟩)] w λe w'=>JP B ea w g gp bm s (GG s n st) e w':=by
 have db:=En h;obtain⟨_,_,_,_,c4,_⟩:=AX h.row;have hB:=h.env.size;have hg:=h.g0;have dc:=D3 ok hk (by decide) (by decide);obtain⟨HN,bE,HK,HD,HL,fa,fb,H0⟩:=zq8 db ok hk hd hl dc hn h;clear db h ok hk hd hl dc hn;unfold vs at*;go_enter func38,ntmps38;go_wp2_with fail;refine HN.out.mono ?_;rintro e w1 ⟨rfl,dh,h1⟩;have ht:=Gp h1 Fi;obtain⟨H1,K1,HT⟩:=zq3 h1 dh ht;clear h1 dh ht;go_upto_if 16 with(refine HT.out.mono ?_;rintro e w2 ⟨rfl,di,h2⟩;have H2:=Aa h2;have K2:=Aa di;clear di h2);go_cut [3] (λs3 wx=>∃k st1 bf bg,s3= .int .i64 k/\N2 s st= .ok k st1/\DO B ea wx g gp bm bf bg s st1/\Kg g w wx)
 case first=>
  by_cases hm:(next s st).t.kind=Fi
  ·have h2:=H2.out;rw[LF hm]at h2;have et:(take s Fi (next s st)).1=true:=by rw[LF hm]
   have Z:N2 s st= .ok (-1) (next s (next s st)):=by unfold N2;rw[Al hm]
   have F:=Aa (And.intro h2 Z);rw[et];clear h2 Z hm et;go_wp2_with fail;go_meet;exact⟨_,_,_,_,rfl,F.out.2,F.out.1,Kg.trans K1.out K2.out⟩
  ·have h2:=H2.out;rw[KN hm]at h2;have et:(take s Fi (next s st)).1=false:=by rw[KN hm]
   have Z:N2 s st=name s false (next s st):=by unfold N2;rw[Ai hm]
   have hn:=Jj h2 false;obtain⟨F,fh,H⟩:=zq3 Z hn h2;rw[et];clear h2 Z hm hn et;go_wp2_with fail;refine fh.out.mono ?_;rintro e w3 O;cases hx:name s false (next s st)with
   |bad k pos=>
    rw[hx]at O;obtain⟨gf,rfl,hF⟩:=Bn hB hg (Kg.trans K1.out K2.out) O;have fi:=Aa hx;clear hx;go_wp2;refine⟨rfl,?_⟩;rw[Ny,F.out,fi.out];exact⟨gf,rfl,hF⟩
   |ok k st1=>
    rw[hx]at O;obtain⟨v,rfl,rfl,dm,ii,ix,h3⟩:=O;have G:=Aa (And.intro hx (And.intro dm h3));clear hx dm h3;go_wp2_with fail;go_meet;exact⟨_,_,_,_,rfl,F.out.trans G.out.1,G.out.2.2,Kg.trans (Kg.trans K1.out K2.out) G.out.2.1⟩
 case rest=>
  obtain⟨k,st1,bf,bg,rfl,hx,h1,k1⟩:=hcut;have fw:=qp bE.out hx;have fo:=fw.left;obtain⟨_,_,_,_,_,c5,_,_,_,c9⟩:=AX h1.row;have p2:=h1.ba.cell 2;simp at p2;obtain⟨v,bh,_⟩:=h1.rules.look k;have bF:=bh true;simp only[A6]at bF;have hI:wc.cell? ⟨6,0,none⟩=some (.iface 307 (.pointer (some (ea 8)))):=h1.env.err 8 (by omega) (by omega);have bi:=Hb h1 8 st.t.pos;have dr:=Nr h1.bC;have iL:B<=w.heap.size:=hB;have bG:((Bj st1.rules k).isSome=false)\/((Bj st1.rules k).isSome=true/\st1.bC=none/\bg= .pointer none)\/((Bj st1.rules k).isSome=true/\∃y gf,st1.bC=some y/\bg= .pointer (some ⟨gf,0,none⟩)):=by
   cases (Bj st1.rules k).isSome with
   |false=>exact .inl rfl
   |true=>
    rcases dr with⟨a,b⟩|⟨y,gf,a,b⟩
    ·exact .inr (.inl ⟨rfl,a,b⟩)
    ·exact .inr (.inr ⟨rfl,y,gf,a,b⟩)
  obtain⟨FW,Z,dt,cX,ft⟩:=zq5 fw hx h1 k1 bi;clear hx h1 k1 bi bh fw fo dr;have fP:∃r,r=NZ st.t.pos k st1:=⟨_,rfl⟩;obtain⟨r,bj⟩:=fP;have dv:∀W vd wp,DO B ea W g gp bm vd wp s r->Calls prog 75 #[.pointer (some ⟨g,0,none⟩)] W λe w'=>DU B ea W g gp bm s (block s n r) (λw' b v=>DD (λk=>W.heap.size<=k) w' v b) e w':=by
   intro W vd wp hr;have dy:Gl s st1 r:=by
    rw[bj];unfold NZ;split
    ·exact Gl.note FW.out.ok _ _
    ·exact Gl.refl FW.out.ok
   have F:=FW.out.trans dy;have hd:r.depth=0:=F.depth.trans HD.out;have hl:r.loops=0:=F.loops.trans HL.out;exact l9 hr F.ok (by omega) (by omega) (by have h1:=fa.out;have h2:=F.left;have h3:=fb.out;omega)
  obtain⟨cY,u⟩:=zq2 dv bj;clear dv bj;rcases bG with D|⟨D,hw,rfl⟩|⟨D,y,gf,hw,rfl⟩
  rotate_left
  ·rw[D]at bF;have P:r=note JS st.t.pos st1:=by rw[u.out];unfold NZ;rw[D,hw];rfl
   have fR:=Aa P;clear D hw P;unfold Dq at*;go_wp2_with fail;refine ft.out.mono ?_;rintro e w4 ⟨rfl,dz,gQ,h4⟩;have dA:DO B ea w4 g gp bm bf gQ s r:=by rw[fR.out];exact h4
   obtain⟨H,Q⟩:=zq2 dA (Kg.trans cX.out dz);clear h4 dA dz;go_wp2_with fail;refine(cY.out _ _ _ H.out).mono ?_;rintro e w5 O;cases f:block s n r with
   |bad k2 pos=>
    rw[f]at O;obtain⟨gf,rfl,hF⟩:=Bn hB hg Q.out O;have bo:=Aa f;clear f;go_wp2;refine⟨rfl,?_⟩;rw[Ny,Z.out];show JP _ _ _ _ _ _ _ ((block s n (NZ st.t.pos k st1)).bind _) _ _;rw[←u.out,bo.out];exact⟨gf,rfl,hF⟩
   |ok b d=>
    rw[f]at O;obtain⟨vb,rfl,I,J,dB,eg,K⟩:=O;have x:=Kg.trans Q.out J;have L:Ac (λb=>B<=b) w w5:=x.mono (λb D=>D.elim (λe=>e▸hg) (λD=>Ad hB D));have c:GG s n st= .ok () (if d.bC.isNone then {d with rules:=d.rules++[(k,b)]}else d):=by rw[Ny,Z.out];show(block s n (NZ st.t.pos k st1)).bind _=_;rw[←u.out,f];rfl
    have i:CP s st= .ok k r:=by have h:=Z.out;unfold N2 at h;unfold CP;simp only;rw[h,u.out];rfl
    have j:=Gc bE.out HK.out i;have p:=j.1;have l:=DT p.ok (by rw[p.depth,HD.out];omega) (by rw[p.loops,HL.out];omega) f;have m:d.rules=st.rules:=l.1.rules.trans p.rules;have o:d.bC=none->k∉st.rules.map (·.1):=λhw=>(j.2.2 (l.1.bC hw)).2;obtain⟨_,_,_,_,_,eF,_,_,_,eG⟩:=AX K.row;obtain⟨bp,R,S⟩:=zp3 (K.ba.cell 2) H.out.row.lt H.out.env.size;have z:DD (λb=>B<=b/\b≠g) w5 vb b:=I.mono (λk _ hk=>⟨by omega,by omega⟩);obtain⟨H5,T,eR,br,eS,eT⟩:=zq6 K L c z m o;simp at bp;rcases Nr K.bC with⟨q,rfl⟩|⟨y3,eU,q,rfl⟩
    ·obtain⟨M,hM,N,U⟩:=K.rules;have E:k∉M.map (·.1):=by rw[N,m];exact o q
     obtain⟨HM,bt,bu,V⟩:=zq4 hM N U E;have A:Hid (GG s n st= .ok () {d with rules:=d.rules++[(k,b)]}):=Aa (by rw[c,Al (by rw[q];rfl)]);clear f K J x L c i j p l m o I z q hM N U E R S;go_wp2_with (at_mapUpdate;go_must (refine Ho Fb C9 HM.out rfl _ _ _ rfl rfl k rfl vb rfl ?_;intro w6 C X;have bx:=Aa C;have Y:=Aa X;clear C X));go_end0;have C:=bx.out;rw[Vi _ V.out]at C;have bz:=H5.out.iG (b:=b) Y.out HM.out C bt.out bu.out br.out;rw[A.out];exact⟨rfl,T.out.trans (Y.out.mono (λb D=>by rw[D];exact H5.out.mW)),_,_,bz⟩
    ·have A:Hid (GG s n st= .ok () d):=Aa (by rw[c,Ai (by rw[q];simp)]);clear f K J x L c i j p l m o I z q R S;go_wp2;go_end0;rw[A.out];exact⟨rfl,T.out,_,_,H5.out⟩
  ·rw[D]at bF;have P:r=st1:=by rw[u.out];unfold NZ;rw[D,hw];rfl
   have H:Hid (DO B ea wc g gp bm bf (.pointer (some ⟨gf,0,none⟩)) s r):=Aa (by rw[P];exact dt.out);have Q:=Aa cX.out;clear D hw P;go_wp2_with fail;refine(cY.out _ _ _ H.out).mono ?_;rintro e w5 O;cases f:block s n r with
   |bad k2 pos=>
    rw[f]at O;obtain⟨gf,rfl,hF⟩:=Bn hB hg Q.out O;have bo:=Aa f;clear f;go_wp2;refine⟨rfl,?_⟩;rw[Ny,Z.out];show JP _ _ _ _ _ _ _ ((block s n (NZ st.t.pos k st1)).bind _) _ _;rw[←u.out,bo.out];exact⟨gf,rfl,hF⟩
   |ok b d=>
    rw[f]at O;obtain⟨vb,rfl,I,J,dB,eg,K⟩:=O;have x:=Kg.trans Q.out J;have L:Ac (λb=>B<=b) w w5:=x.mono (λb D=>D.elim (λe=>e▸hg) (λD=>Ad hB D));have c:GG s n st= .ok () (if d.bC.isNone then {d with rules:=d.rules++[(k,b)]}else d):=by rw[Ny,Z.out];show(block s n (NZ st.t.pos k st1)).bind _=_;rw[←u.out,f];rfl
    have i:CP s st= .ok k r:=by have h:=Z.out;unfold N2 at h;unfold CP;simp only;rw[h,u.out];rfl
    have j:=Gc bE.out HK.out i;have p:=j.1;have l:=DT p.ok (by rw[p.depth,HD.out];omega) (by rw[p.loops,HL.out];omega) f;have m:d.rules=st.rules:=l.1.rules.trans p.rules;have o:d.bC=none->k∉st.rules.map (·.1):=λhw=>(j.2.2 (l.1.bC hw)).2;obtain⟨_,_,_,_,_,eF,_,_,_,eG⟩:=AX K.row;obtain⟨bp,R,S⟩:=zp3 (K.ba.cell 2) H.out.row.lt H.out.env.size;have z:DD (λb=>B<=b/\b≠g) w5 vb b:=I.mono (λk _ hk=>⟨by omega,by omega⟩);obtain⟨H5,T,eR,br,eS,eT⟩:=zq6 K L c z m o;simp at bp;rcases Nr K.bC with⟨q,rfl⟩|⟨y3,eU,q,rfl⟩
    ·obtain⟨M,hM,N,U⟩:=K.rules;have E:k∉M.map (·.1):=by rw[N,m];exact o q
     obtain⟨HM,bt,bu,V⟩:=zq4 hM N U E;have A:Hid (GG s n st= .ok () {d with rules:=d.rules++[(k,b)]}):=Aa (by rw[c,Al (by rw[q];rfl)]);clear f K J x L c i j p l m o I z q hM N U E R S;go_wp2_with (at_mapUpdate;go_must (refine Ho Fb C9 HM.out rfl _ _ _ rfl rfl k rfl vb rfl ?_;intro w6 C X;have bx:=Aa C;have Y:=Aa X;clear C X));go_end0;have C:=bx.out;rw[Vi _ V.out]at C;have bz:=H5.out.iG (b:=b) Y.out HM.out C bt.out bu.out br.out;rw[A.out];exact⟨rfl,T.out.trans (Y.out.mono (λb D=>by rw[D];exact H5.out.mW)),_,_,bz⟩
    ·have A:Hid (GG s n st= .ok () d):=Aa (by rw[c,Ai (by rw[q];simp)]);clear f K J x L c i j p l m o I z q R S;go_wp2;go_end0;rw[A.out];exact⟨rfl,T.out,_,_,H5.out⟩
  ·rw[D]at bF;have P:r=st1:=by rw[u.out];unfold NZ;rw[D];rfl
   have H:Hid (DO B ea wc g gp bm bf bg s r):=Aa (by rw[P];exact dt.out);have Q:=Aa cX.out;clear D P;go_wp2_with fail;refine(cY.out _ _ _ H.out).mono ?_;rintro e w5 O;cases f:block s n r with
   |bad k2 pos=>
    rw[f]at O;obtain⟨gf,rfl,hF⟩:=Bn hB hg Q.out O;have bo:=Aa f;clear f;go_wp2;refine⟨rfl,?_⟩;rw[Ny,Z.out];show JP _ _ _ _ _ _ _ ((block s n (NZ st.t.pos k st1)).bind _) _ _;rw[←u.out,bo.out];exact⟨gf,rfl,hF⟩
   |ok b d=>
    rw[f]at O;obtain⟨vb,rfl,I,J,dB,eg,K⟩:=O;have x:=Kg.trans Q.out J;have L:Ac (λb=>B<=b) w w5:=x.mono (λb D=>D.elim (λe=>e▸hg) (λD=>Ad hB D));have c:GG s n st= .ok () (if d.bC.isNone then {d with rules:=d.rules++[(k,b)]}else d):=by rw[Ny,Z.out];show(block s n (NZ st.t.pos k st1)).bind _=_;rw[←u.out,f];rfl
    have i:CP s st= .ok k r:=by have h:=Z.out;unfold N2 at h;unfold CP;simp only;rw[h,u.out];rfl
    have j:=Gc bE.out HK.out i;have p:=j.1;have l:=DT p.ok (by rw[p.depth,HD.out];omega) (by rw[p.loops,HL.out];omega) f;have m:d.rules=st.rules:=l.1.rules.trans p.rules;have o:d.bC=none->k∉st.rules.map (·.1):=λhw=>(j.2.2 (l.1.bC hw)).2;obtain⟨_,_,_,_,_,eF,_,_,_,eG⟩:=AX K.row;obtain⟨bp,R,S⟩:=zp3 (K.ba.cell 2) H.out.row.lt H.out.env.size;have z:DD (λb=>B<=b/\b≠g) w5 vb b:=I.mono (λk _ hk=>⟨by omega,by omega⟩);obtain⟨H5,T,eR,br,eS,eT⟩:=zq6 K L c z m o;simp at bp;rcases Nr K.bC with⟨q,rfl⟩|⟨y3,eU,q,rfl⟩
    ·obtain⟨M,hM,N,U⟩:=K.rules;have E:k∉M.map (·.1):=by rw[N,m];exact o q
     obtain⟨HM,bt,bu,V⟩:=zq4 hM N U E;have A:Hid (GG s n st= .ok () {d with rules:=d.rules++[(k,b)]}):=Aa (by rw[c,Al (by rw[q];rfl)]);clear f K J x L c i j p l m o I z q hM N U E R S;go_wp2_with (at_mapUpdate;go_must (refine Ho Fb C9 HM.out rfl _ _ _ rfl rfl k rfl vb rfl ?_;intro w6 C X;have bx:=Aa C;have Y:=Aa X;clear C X));go_end0;have C:=bx.out;rw[Vi _ V.out]at C;have bz:=H5.out.iG (b:=b) Y.out HM.out C bt.out bu.out br.out;rw[A.out];exact⟨rfl,T.out.trans (Y.out.mono (λb D=>by rw[D];exact H5.out.mW)),_,_,bz⟩
    ·have A:Hid (GG s n st= .ok () d):=Aa (by rw[c,Ai (by rw[q];simp)]);clear f K J x L c i j p l m o I z q R S;go_wp2;go_end0;rw[A.out];exact⟨rfl,T.out,_,_,H5.out⟩
end
section
variable {B:Nat}{ea:Nat->Addr}{w:World}{g gp bm:Nat}{vd wp:Value}{s:Ah}{st:PS}
theorem DO.lD (h:DO B ea w g gp bm vd wp s st):DO B ea (w.setCell ⟨g,6,none⟩ (.bool true)) g gp bm vd wp s {st with bp:=true}:=by have a:Kg g w (w.setCell ⟨g,6,none⟩ (.bool true)):=Kg.cell g w 6 _;exact h.dv (st':={st with bp:=true}) (h.kg a) (h.row.bF 6 (.bool true)) rfl rfl rfl (h.bC.quiet (h.kg a)) h.i
theorem DO.hY (h:DO B ea w g gp bm vd wp s st) (i:Nat) (u:Value) {a:Value}{st':PS}(c:AE (w.setCell ⟨gp,i,none⟩ u) gp 63 [a,.int .i64 st'.aD,.map (some bm)])
  (m:Sl (λb=>B<=b/\b≠g) (w.setCell ⟨gp,i,none⟩ u) 83 3 a st'.decls.length (st'.decls.flatMap Dv)) (j:st'.decls.length<=1000) (d:Dt s st' gp wp=Dt s st gp wp) (l:st'.rules=st.rules) (n:st'.bC=st.bC) (o:st'.i=st.i):
  DO B ea (w.setCell ⟨gp,i,none⟩ u) g gp bm a wp s st':=by
 have f:Ac (λb=>b=gp) w (w.setCell ⟨gp,i,none⟩ u):=Ac.one w ⟨gp,i,none⟩ u;refine⟨h.env.kept f (λb p=>by rw[p];exact h.lA),by rw[d];exact h.row.kept f (λe=>h.p7 e.symm),c,m,?_,by rw[n];exact h.bC.dy f (λb cs c e=>c.bt h.ba (by decide) e),h.g0,h.lA,h.mW,by rw[o];exact h.i,h.s,j⟩;rw[l];exact h.rules.kept (f.block bm (λe=>by obtain⟨M,q,_⟩:=h.rules;exact q.bD h.ba e)) (λk cs _ c=>f.block k (λe=>c.bt h.ba (by decide) e))
theorem DO.gY (h:DO B ea w g gp bm vd wp s st) (n:Int):DO B ea (w.setCell ⟨gp,1,none⟩ (.int .i64 n)) g gp bm vd wp s {st with aD:=n}:=
 h.hY 1 (.int .i64 n) (h.ba.bF 1 (.int .i64 n)) (h.decls.kept (Ac.one w ⟨gp,1,none⟩ _) (λb a e=>h.decls.bD h.ba (by decide) (by rw[a];exact AG some e))) h.dl rfl rfl rfl rfl
theorem Mu (c:B<=w.heap.size) (d:B<=g) {w':World}(h:Kg g w w'):Ac (λb=>B<=b) w w':=h.mono (λb a=>a.elim (λe=>e▸d) (λa=>Ad c a))
theorem lV (h:DO B ea w g gp bm vd wp s st) (ok:st.Ok s) (hk:st.t.kind=Cx):
  Calls prog 37 #[.pointer (some ⟨g,0,none⟩)] w λe w'=>JP B ea w g gp bm s (decl s st) e w':=by
 have Y:=L7.start h 101 [vs st.t.kind,vs st.t.text,.int .i64 st.t.pos] (by decide);have I:=En Y.rd;obtain⟨_,_,c2,c3,c4,_⟩:=AX h.row;have V:=h.env.size;have G:=h.g0;obtain⟨HA,HN,o,Z⟩:=zq4 Y I (Cc ok) hk;clear Y I h ok hk;unfold vs at*;go_enter nj,gC;go_wp2_with fail;refine HN.out.mono ?_;rintro e w1 ⟨rfl,J,H⟩;have x:=HA.out.call J H;have d0:=x.row.cell 0;have d2:=x.row.cell 2;obtain⟨_,_,_,_,_,_,W,_⟩:=AX H.row;have cL:=H.row.frozen 6;simp at d0 d2;rw[Z.out]at d0;have bF:w1.cell? ⟨4,0,none⟩=some (.iface 307 (.pointer (some (ea 4)))):=H.env.err 4 (by omega) (by omega);have K:=Hb x.rd 4 st.t.pos;obtain⟨E,be,H1⟩:=zq3 x K H;clear x K H J;cases q:st.bp with
 |false=>
  have L:w1.cell? ⟨g,6,none⟩=some (.bool false):=by rw[←q];exact W
  have hF:=E.out.rd.lD;have M:=Kg.trans E.out.kg (Kg.cell g w1 6 (.bool true));have f:=IJ (hF.drewN 1) (by exact⟨o.out.i,o.out.pos,o.out.more,o.out.num,o.out.name⟩) 1 99;obtain⟨HF,N,y⟩:=zq3 hF M f;obtain⟨_,_,_,_,_,c5,_⟩:=AX hF.row;have c:decl s st=(number s 1 99 {next s st with bp:=true}).bind λn st=>(want s AN {st with aD:=n}).bind λ_ st=>.ok () st:=by unfold decl;simp only;rw[Al Z.out,Ai (by show¬st.bp=true;rw[q];exact AY)]
  have j:=Aa c;clear hF M f W c q;cases D:number s 1 99 {next s st with bp:=true}with
  |bad k pos=>
   have r:=Aa D;clear D;go_wp2_with fail
   go_region_dies
   all_goals
    refine y.out.mono ?_;rintro e w3 d;rw[r.out]at d;obtain⟨gf,rfl,hF⟩:=Bn V G (N.out.drewN 1) d;refine⟨rfl,?_⟩;rw[j.out,r.out];exact⟨gf,rfl,hF⟩
  |ok n l=>
   have r:=Aa D;clear D;go_wp2_with fail
   go_region_law (first|(go_simp;go_at_call 71;refine y.out.mono ?_;rintro e w3 d;rw[r.out]at d;obtain⟨v,rfl,rfl,z,bf,bg,A⟩:=d;obtain⟨_,_,_,_,_,bh,_⟩:=AX A.row;have p1:=A.ba.cell 1;have pf:=A.ba.frozen 1;have O:=Aa A;have K3:=Aa z;clear A z;simp at p1))
   all_goals
    have F:=O.out.gY n;have P:Ac (λb=>B<=b) w (w3.setCell ⟨gp,1,none⟩ (.int .i64 n)):=(Mu V G (Kg.trans (N.out.drewN 1) K3.out)).setCell (p:=⟨gp,1,none⟩) O.out.lA _;have Q:=Db F AN;obtain⟨R,HW,H4⟩:=zq3 P Q F;clear F P Q;go_wp2_with fail;refine HW.out.mono ?_;rintro e w5 d;cases a:want s AN {l with aD:=n}with
    |bad k pos=>
     rw[a]at d;obtain⟨gf,rfl,hF,hG⟩:=d;have m:=Aa a;clear a;go_wp2;refine⟨rfl,?_⟩;rw[j.out,r.out];show JP _ _ _ _ _ _ _ ((want s AN {l with aD:=n}).bind _) _ _;rw[m.out];exact⟨gf,rfl,R.out.trans hF,hG⟩
    |ok tw br=>
     rw[a]at d;obtain⟨v,rfl,rfl,C,bt,bu,S⟩:=d;obtain⟨m,K5,H5⟩:=zq3 a C S;clear a C S;go_wp2;go_end0;rw[j.out,r.out];show JP _ _ _ _ _ _ _ ((want s AN {l with aD:=n}).bind _) _ _;rw[m.out];exact⟨rfl,R.out.trans (Mu H4.out.env.size G K5.out),_,_,H5.out⟩
 |true=>
  have L:w1.cell? ⟨g,6,none⟩=some (.bool true):=by rw[←q];exact W
  have c:decl s st=(number s 1 99 {note CW st.t.pos (next s st)with bp:=true}).bind λn st=>(want s AN {st with aD:=n}).bind λ_ st=>.ok () st:=by unfold decl;simp only;rw[Al Z.out,Al (show(next s st).bp=true from q)]
  have j:=Aa c;clear W c q;unfold Dq at*;go_wp2_with fail;refine be.out.mono ?_;rintro e w2 ⟨rfl,T,bC,X⟩;have U:DO B ea w2 g gp bm vd bC s (note CW st.t.pos (next s st)):=X;have hF:=U.lD;have bH:=X.row.frozen 6;obtain⟨_,_,_,_,_,_,bI,_⟩:=AX X.row;have M:=Kg.trans (Kg.trans E.out.kg T) (Kg.cell g w2 6 (.bool true));have u:=(Gl.note o.out CW st.t.pos).ok;have f:=IJ (hF.drewN 1) (by exact⟨u.i,u.pos,u.more,u.num,u.name⟩) 1 99;obtain⟨HF,N,y⟩:=zq3 hF M f;obtain⟨_,_,_,_,_,c5,_⟩:=AX hF.row;clear hF M f X U T u L;cases D:number s 1 99 {note CW st.t.pos (next s st)with bp:=true}with
  |bad k pos=>
   have r:=Aa D;clear D;go_wp2_with fail
   go_region_dies
   all_goals
    refine y.out.mono ?_;rintro e w3 d;rw[r.out]at d;obtain⟨gf,rfl,hF⟩:=Bn V G (N.out.drewN 1) d;refine⟨rfl,?_⟩;rw[j.out,r.out];exact⟨gf,rfl,hF⟩
  |ok n l=>
   have r:=Aa D;clear D;go_wp2_with fail
   go_region_law (first|(go_simp;go_at_call 71;refine y.out.mono ?_;rintro e w3 d;rw[r.out]at d;obtain⟨v,rfl,rfl,z,bf,bg,A⟩:=d;obtain⟨_,_,_,_,_,bh,_⟩:=AX A.row;have p1:=A.ba.cell 1;have pf:=A.ba.frozen 1;have O:=Aa A;have K3:=Aa z;clear A z;simp at p1))
   all_goals
    have F:=O.out.gY n;have P:Ac (λb=>B<=b) w (w3.setCell ⟨gp,1,none⟩ (.int .i64 n)):=(Mu V G (Kg.trans (N.out.drewN 1) K3.out)).setCell (p:=⟨gp,1,none⟩) O.out.lA _;have Q:=Db F AN;obtain⟨R,HW,H4⟩:=zq3 P Q F;clear F P Q;go_wp2_with fail;refine HW.out.mono ?_;rintro e w5 d;cases a:want s AN {l with aD:=n}with
    |bad k pos=>
     rw[a]at d;obtain⟨gf,rfl,hF,hG⟩:=d;have m:=Aa a;clear a;go_wp2;refine⟨rfl,?_⟩;rw[j.out,r.out];show JP _ _ _ _ _ _ _ ((want s AN {l with aD:=n}).bind _) _ _;rw[m.out];exact⟨gf,rfl,R.out.trans hF,hG⟩
    |ok tw br=>
     rw[a]at d;obtain⟨v,rfl,rfl,C,bt,bu,S⟩:=d;obtain⟨m,K5,H5⟩:=zq3 a C S;clear a C S;go_wp2;go_end0;rw[j.out,r.out];show JP _ _ _ _ _ _ _ ((want s AN {l with aD:=n}).bind _) _ _;rw[m.out];exact⟨rfl,R.out.trans (Mu H4.out.env.size G K5.out),_,_,H5.out⟩
end
structure Fy (B:Nat) (ea:Nat->Addr) (g gp bm:Nat) (vd:Value) (s:Ah) (be:PS) (w0:World) (bf:Value) (st:PS) (w:World) (wp:Value):Prop where
 base:DO B ea w0 g gp bm vd bf s be
 decls:st.decls=be.decls
 aD:st.aD=be.aD
 rules:st.rules=be.rules
 i:st.i<=s.length
 kg:Kg g w0 w
 row:AE w g 103 (Dt s st gp wp)
 bC:IM B ea w wp st.bC
section
variable {B:Nat}{ea:Nat->Addr}{w w0:World}{g gp bm D:Nat}{vd wp bf:Value}{s:Ah}{st be:PS}{t:TypeId}{ds:List Value}
theorem Fy.rd (h:Fy B ea g gp bm vd s be w0 bf st w wp):DO B ea w g gp bm vd wp s st:=h.base.later h.kg h.row h.decls h.aD h.rules h.bC h.i
theorem Fy.start (h:DO B ea w g gp bm vd wp s st):Fy B ea g gp bm vd s st w wp st w wp:=⟨h,rfl,rfl,rfl,h.i,Ac.refl _ _,h.row,h.bC⟩
theorem Fy.call (h:Fy B ea g gp bm vd s be w0 bf st w wp) {w':World}{st':PS}{b a:Value}(e:Kg g w w') (c:DO B ea w' g gp bm b a s st') (f:st'.decls=st.decls) (j:st'.aD=st.aD) (d:st'.rules=st.rules):
  Fy B ea g gp bm vd s be w0 bf st' w' a:=⟨h.base,f.trans h.decls,j.trans h.aD,d.trans h.rules,c.i,Kg.trans h.kg e,c.row,c.bC⟩
theorem Fy.alloc (h:Fy B ea g gp bm vd s be w0 bf st w wp) (o:Obj):Fy B ea g gp bm vd s be w0 bf st (w.alloc o) wp:=
 h.call (zAr.alloc (.inr (Ab _)) o) (h.rd.alloc o) rfl rfl rfl
theorem Fy.drew (h:Fy B ea g gp bm vd s be w0 bf st w wp):Fy B ea g gp bm vd s be w0 bf st w.drew wp:=⟨h.base,h.decls,h.aD,h.rules,h.i,h.kg.drew,h.row,h.bC.dy (S1:=λ_=>False) ((Ac.refl _ w).drew) (λ_ _ _ x=>x)⟩
theorem Fy.bF (h:Fy B ea g gp bm vd s be w0 bf st w wp) (a:AE w D t ds) (d:w0.heap.size<=D) (c:t≠103/\t≠59) (i:Nat) (u:Value):Fy B ea g gp bm vd s be w0 bf st (w.setCell ⟨D,i,none⟩ u) wp:=
 ⟨h.base,h.decls,h.aD,h.rules,h.i,h.kg.setCell (p:=⟨D,i,none⟩) (.inr d) u,h.row.dc (h.row.bt a (λe=>c.1 e.symm)) u,h.bC.dy (Ac.one w ⟨D,i,none⟩ u) (λb cs f e=>f.bt a (λe=>c.2 e.symm) e)⟩
theorem Fy.rowAt (h:Fy B ea g gp bm vd s be w0 bf st w wp) (a:AE w D t ds) (b:t≠103) {w':World}(c:Kg g w w'):AE w' D t ds:=(If c a.lt (a.bt h.row b)).trans a
theorem decl_eq (s:Ah) (st:PS) (c:st.t.kind≠Cx):decl s st=(want s Cf (next s st)).bind λn st1=>(number s 1 (Cp st.t.kind) (Bh n st1)).bind λm b=>(want s AN b).bind λ_ a=>.ok () {a with decls:=a.decls++[⟨Er st.t.kind,n.text,m⟩]}:=by unfold decl;simp only;rw[Ai c]
def Oh (n:MS) (st:PS):PS:=if 0<=find st.decls n.text then note CW n.pos st else st
theorem Ga (n:MS) (st:PS):Bh n st=if(Oh n st).decls.length=8 then note N8 n.pos (Oh n st)else Oh n st:=rfl
theorem GC (n:MS) (st:PS):(Oh n st).decls=st.decls/\(Oh n st).aD=st.aD/\(Oh n st).rules=st.rules:=by
 unfold Oh;split
 ·obtain⟨a,b,_,c,_⟩:=JU (s:=[]) CW n.pos st;exact⟨a,b,c⟩
 ·exact⟨rfl,rfl,rfl⟩
theorem Kc (n:MS) (st:PS):(Bh n st).decls=st.decls/\(Bh n st).aD=st.aD/\(Bh n st).rules=st.rules:=by
 rw[Ga];obtain⟨x,y,z⟩:=GC n st;split
 ·obtain⟨a,b,_,c,_⟩:=JU (s:=[]) N8 n.pos (Oh n st);exact⟨a.trans x,b.trans y,c.trans z⟩
 ·exact⟨x,y,z⟩
theorem Fj (h:Fy B ea g gp bm vd s be w0 bf st w wp) {e:Ending}{w':World}{k pos:Nat}(a:SE B ea w e w' k pos):SE B ea w0 e w' k pos:=Bn h.base.env.size h.base.g0 h.kg a
theorem Vt:(prog.info? 83).map (λi=>(i.zero,i.size,i.bytes))=some (some (.agg #[.int .i64 0,vs [],.int .i64 0]),3,32):=by kernel_rfl
theorem DO.iU {n:Nat}{xs C:List Value}(h:DO B ea w g gp bm vd wp s st) (d:Bi) {m:World}{c:Value}(G:st.decls.length=n) (x:st.decls.flatMap Dv=xs) (y:Dv d=C)
  (r:Sl (λb=>B<=b/\b≠g) m 83 3 c (n+1) (xs++C))
  (l:Ac (λb=>vd.ownBlock=some b\/w.heap.size<=b) w m) (H:st.decls.length+1<=1000):
  Ac (λb=>B<=b) w (m.setCell ⟨gp,0,none⟩ c)/\DO B ea (m.setCell ⟨gp,0,none⟩ c) g gp bm c wp s {st with decls:=st.decls++[d]}:=by
 subst G x y;have z:∀b,vd.ownBlock=some b\/w.heap.size<=b->B<=b:=λb a=>a.elim (λa=>(h.decls.2 b a).1) (λa=>Ad h.env.size a);have u:AE m g 103 (Dt s st gp wp):=h.row.kept l (by
  rintro(a|a)
  ·exact(h.decls.2 g a).2 rfl
  ·exact absurd h.row.lt (CJ.2 a))
 have f:AE m gp 63 [vd,.int .i64 st.aD,.map (some bm)]:=h.ba.kept l (by
  rintro(a|a)
  ·exact h.decls.bD h.ba (by decide) a
  ·exact absurd h.ba.lt (CJ.2 a))
 have E:Ac (λb=>B<=b) w m:=l.mono z;have v:Ac (λb=>b=gp) m (m.setCell ⟨gp,0,none⟩ c):=Ac.one m ⟨gp,0,none⟩ c;have F:(st.decls++[d]).length=st.decls.length+1:=by simp
 have I:(st.decls++[d]).flatMap Dv=st.decls.flatMap Dv++Dv d:=by simp
 have j:FP (λb=>B<=b/\b≠g) m bm st.rules:=h.rules.kept
  (l.block bm (by
   rintro(a|a)
   ·obtain⟨M,q,_⟩:=h.rules;exact h.decls.fp q a
   ·obtain⟨M,⟨J,K,q,_⟩,_⟩:=h.rules;rw[Ch a]at q;cases q))
  (λk cs _ o=>l.block k (by
   rintro(a|a)
   ·exact h.decls.bD o (by decide) a
   ·exact absurd o.lt (CJ.2 a)))
 have A:IM B ea m wp st.bC:=h.bC.dy l (λb cs o=>by
  rintro(a|a)
  ·exact h.decls.bD o (by decide) a
  ·exact absurd o.lt (CJ.2 a))
 refine⟨E.setCell (p:=⟨gp,0,none⟩) h.lA _,h.env.kept (E.setCell (p:=⟨gp,0,none⟩) h.lA c) (λb a=>a),u.kept v (λe=>h.p7 e.symm),f.bF 0 c,?_,?_,A.dy v (λb cs o e=>o.bt f (by decide) e),h.g0,h.lA,h.mW,h.i,h.s,by rw[F];exact H⟩
 ·rw[F,I];exact r.kept v (λb a e=>r.bD f (by decide) (e▸a))
 ·exact j.kept (v.block bm (λe=>by obtain⟨M,q,_⟩:=j;exact q.bD f e)) (λk cs _ o=>v.block k (λe=>o.bt f (by decide) e))
theorem IZ (n:MS) (a:st.Ok s):(Bh n st).Ok s:=by
 have b:(Oh n st).Ok s:=by
  unfold Oh;split
  ·exact(Gl.note a _ _).ok
  ·exact a
 rw[Ga];split
 ·exact(Gl.note b _ _).ok
 ·exact b
end
end Go.Proofs.YtepoejiigmhlbaaGreatDoor.Ev
