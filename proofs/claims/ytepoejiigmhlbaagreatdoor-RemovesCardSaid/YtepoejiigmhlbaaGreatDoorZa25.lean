/- Lemmas for a law's walk. Conditions: none. -/
import Derived.Test.YtepoejiigmhlbaaGreatDoorZa22
import Derived.Test.YtepoejiigmhlbaaGreatDoorZa23
import Derived.Test.YtepoejiigmhlbaaGreatDoorZa24
set_option linter.all false
set_option maxRecDepth 100000
set_option maxHeartbeats 8000000
namespace Go.Proofs.YtepoejiigmhlbaaGreatDoor.Ev
open _root_.Go.Proofs.Tryz
open Go Go.RowKit
section
variable {B:Nat}{w w':World}{gr gs gp:Nat}{vq vv vg:Value}{vl:List Value}{p:Ax}{c:J9}{key:Int}{r:DN}{X:Nat->Prop}
theorem zq {m:Nat}(hB:Su m) (h:Dx B w gr gs gp vq vv vg vl p c key r 0) (hX:EM X w) (A:GI p r.s) {k:C3}(hk:ZE p.decls k.k) {t e:Az}{C ve:Value}{o:Bool}(R:Cs (λb=>b<B) w C t) (D:Cs (λb=>b<B) w ve e) (S:t.size<=m) (T:e.size<=m) (U:D9 p.decls t) (V:D9 p.decls e) (W:t.Form) (Y:e.Form) (hg:r.gone.length+(t.bq+e.bq)<=2000000):
  Calls prog 122 #[.pointer (some ⟨gr,0,none⟩),.agg (Ju k C o ve).toArray] w (E6 B X w gr gs gp p c key (if BD p.decls key r.s k then exec p key t r else exec p key e r)):=by
 obtain⟨Z,n1,b2,n3,E⟩:=KS k.k;have f:Dg k=[vs (BV k.k),.int .i64 (Bs k.k),vs Z,.int .i64 n1,vs b2,.int .i64 n3,.int .i64 k.bI]:=by unfold Dg;rw[E];rfl
 obtain⟨at_,ct,ba⟩:∃a c,C= .slice a t.length c:=by obtain⟨cs,h1,_⟩:=id R;exact h1.fa
 obtain⟨ae,ce,bf⟩:∃a c,ve= .slice a e.length c:=by obtain⟨cs,h1,_⟩:=id D;exact h1.fa
 have q:Ju k C o ve=[vs Ja,.int .i64 0,.int .i64 0,.bool false,vs (BV k.k),.int .i64 (Bs k.k),vs Z,.int .i64 n1,vs b2,.int .i64 n3,.int .i64 k.bI,C,ve,.bool o]:=by unfold Ju;rw[f];rfl
 rw[q];subst ba bf;generalize G:(if BD p.decls key r.s k then exec p key t r else exec p key e r)=o1 at*;have H:=Aa G;clear G;obtain⟨HB,HT,HV,bg,bh⟩:=zq5 hB R D f A;clear E f q R D A;have c0:=h.row.cell 0;have c1:=h.row.cell 1;have rl:=h.row.lt;simp at c0 c1;have nr:¬gr=w.heap.size:=by omega
 obtain⟨I,HX,HH⟩:=zq3 h.na hX h;clear h hX hB;unfold vs at*;go_enter GK,FF;obtain⟨J,u⟩:∃x,x=w.alloc (.cells #[.string ⟨Ja.toArray⟩,.int .i64 0,.int .i64 0,.bool false,.string ⟨(BV k.k).toArray⟩,.int .i64 (Bs k.k),.string ⟨Z.toArray⟩,.int .i64 n1,.string ⟨b2.toArray⟩,.int .i64 n3,.int .i64 k.bI,.slice at_ t.length ct,.slice ae e.length ce,.bool o] 262):=⟨_,rfl⟩;have K1:=Aa (show Ac (λb=>w.heap.size+1<=b) J J.drew from zAr.drew);have K0:=Aa (show Ac (λb=>w.heap.size<=b) w J.drew by rw[u];exact((Ac.refl _ w).alloc (Ab _) _).drew);obtain⟨HZ,HW⟩:=zq2 (show J.drew.heap.size=w.heap.size+1 by simp[C6,u]) u;clear u;go_upto_region 2 with fail;go_cut [4,5] (λs4 s5 wx=>s4= .int .i64 (fQ (r.s.find key))/\s5= .int .i64 (fI (r.s.find key))/\Ac (λb=>w.heap.size+1<=b) J wx)
 case first=>
  have u:=HW.out;subst u;generalize r.s.find key=FO at*
  go_region_law (first|(go_simp;go_at_call 99;refine(I.out _ K0.out).mono ?_;rintro x w2 ⟨rfl,K⟩;have bo:=Aa K;clear K;unfold FC))
  all_goals go_wp2
  all_goals go_meet
  all_goals exact⟨rfl,rfl,K1.out.trans (bo.out.mono (λb Q=>by have:=HZ.out;omega))⟩
 obtain⟨rfl,rfl,k2⟩:=hcut;have u:=HW.out;subst u;have l:=je.of HH.out HX.out k2;obtain⟨y0,y1,y3,bl,c0,c1,rl⟩:=zp7 (l.box.cell 0) (l.box.cell 1) (l.box.cell 3) l.box.lt (l.run.row.cell 0) (l.run.row.cell 1) l.run.row.lt;simp at y0 y1 y3 c0 c1;have d:=Aa l;clear l k2 HX HW I K1 K0 HZ;obtain⟨b4,b5,b6,b7,b8,b9,bp⟩:=zp7 (d.out.box.cell 4) (d.out.box.cell 5) (d.out.box.cell 6) (d.out.box.cell 7) (d.out.box.cell 8) (d.out.box.cell 9) (d.out.box.cell 10);simp at b4 b5 b6 b7 b8 b9 bp;have n:=Ty d.out.run k hk;rw[bg.out]at n
 try unfold vs at n
 have br:=Aa n;clear n;go_wp2_with fail;refine br.out.mono ?_;rintro y w1 ⟨rfl,i⟩;have g:=d.out.box.kept i (by omega);have bt:=g.cell 11;have bu:=g.cell 12;have dl:=g.lt;simp at bt bu;have L:Ac (λb=>B<=b/\¬(X b\/b=w.heap.size)) wc w1:=i.mono (λb Q=>⟨Ad d.out.run.sz Q,λhx=>by have:=d.out.dj.lt hx;omega⟩);have j:∀(b:Az) (v:Value),Cs (λb=>b<B) w v b->b.size<=m->D9 p.decls b->b.Form->r.gone.length+b.bq<=2000000->Calls prog 101 #[.pointer (some ⟨gr,0,none⟩),v] w1 (E6 B (λb=>X b\/b=w.heap.size) w1 gr gs gp p c key (exec p key b r)):=λb v D hs hw hf hg=>
  HB.out B _ w1 gr gs gp vq vv vg vl p c key r b v (d.out.run.later i) (d.out.dj.later i) bh.out hs hw hf (D.kept (λk cs hN _=>(d.out.kept.trans (i.mono (λb Q=>⟨Ad d.out.run.sz Q,λhx=>by have:=d.out.dj.lt (.inl hx);omega⟩))).block k (λhh=>by have:=hh.1;omega))) hg
 have M:=j t _ HT.out S U W (by omega);have N:=j e _ HV.out T V Y (by omega);obtain⟨bz,bC,O⟩:=zq3 M N L;clear j M N L i g HB HT HV;generalize BD p.decls key r.s k=bD at*;cases bD with
 |true=>
  go_wp2_with fail;refine bz.out.mono ?_;intro y w2 z;obtain rfl:=z.ends;have F:=Aa z;clear z;go_wp2;go_end0;have P:=H.out;simp at P;rw[←P];exact d.out.fin (E6.after O.out F.out)
 |false=>
  go_wp2_with fail;refine bC.out.mono ?_;intro y w2 z;obtain rfl:=z.ends;have F:=Aa z;clear z;go_wp2;go_end0;have P:=H.out;simp at P;rw[←P];exact d.out.fin (E6.after O.out F.out)
end
structure gR (B:Nat) (X:Nat->Prop) (w0:World) (gr gs gp:Nat) (p:Ax) (c:J9) (key:Int) (k:C3) (t:Az) (n:Nat) (o:Except Nat DN) (cs:List Value) (g i:Nat) (wr:World) (r:DN) (e:Nat):Prop where
 kept:Ac (λb=>B<=b/\¬X b) w0 wr
 run:∃vq vv vg vl,Dx B wr gr gs gp vq vv vg vl p c key r e
 box:AE wr g 262 cs
 dj:EM X wr
 so:if e=0 then o=Gr (λs=>BD p.decls key s k) (exec p key t) (n-i) r/\GI p r.s/\r.gone.length+(n-i)*t.bq<=2000000 else o= .error e
theorem gR.step {B:Nat}{X:Nat->Prop}{w0 wr w':World}{gr gs gp:Nat}{p:Ax}{c:J9}{key:Int}{k:C3}{t:Az}{n:Nat}{o:Except Nat DN}{cs:List Value}{g i:Nat}{r:DN}{y:Ending}(h:gR B X w0 gr gs gp p c key k t n o cs g i wr r 0) (z:Ej p) (x:X g) (F:i<n) (A:BD p.decls key r.s k=true)
  (C:D9 p.decls t) (hF:t.Form) (m:E6 B X wr gr gs gp p c key (exec p key t r) y w'):y= .returned (.tuple #[])/\∃r' e',gR B X w0 gr gs gp p c key k t n o cs g (i+1) w' r' e':=by
 have j:=h.so;rw[Al rfl]at j;obtain⟨l,D,E⟩:=j;have e1:n-i=(n-(i+1))+1:=by omega
 rw[e1,Gr,Al A]at l;rw[e1,GP,Nat.one_mul]at E;cases a:exec p key t r with
 |ok r1=>
  rw[a]at m l;obtain⟨q,d,u⟩:=m;have G:=EA t r r1 a;refine⟨q,r1,0,h.kept.trans d,u,h.box.kept d (λf=>f.2 x),h.dj.kept d (λb v f=>f.2 v),?_⟩;rw[Al rfl];exact⟨l,D.exec z (D9.ok t C hF) a,by omega⟩
 |error e=>
  rw[a]at m l;obtain⟨r1,q,d,u⟩:=m;have H:=RU a;refine⟨q,r1,e,h.kept.trans d,u,h.box.kept d (λf=>f.2 x),h.dj.kept d (λb v f=>f.2 v),?_⟩;rw[Ai (by omega)];exact l
theorem gR.end_ {B:Nat}{X:Nat->Prop}{w0 wr f:World}{gr gs gp:Nat}{p:Ax}{c:J9}{key:Int}{k:C3}{t:Az}{n:Nat}{o:Except Nat DN}{cs:List Value}{g i:Nat}{r:DN}{e:Nat}(h:gR B X w0 gr gs gp p c key k t n o cs g i wr r e) (j:EM X w0) (d:e=0->i=n\/BD p.decls key r.s k=false) (l:Ac (λb=>wr.heap.size<=b) wr f):E6 B X w0 gr gs gp p c key o (.returned (.tuple #[])) f:=by
 obtain⟨vq,vv,vg,vl,q⟩:=h.run;have a:=h.so;by_cases u:e=0
 ·subst u;rw[Al rfl]at a;have v:o= .ok r:=by
   rw[a.1];rcases d rfl with rfl|d
   ·rw[Pe,Gr]
   ·cases x:n-i with
    |zero=>rw[Gr]
    |succ m=>rw[Gr,Ai (by rw[d];exact AY)]
  rw[v];exact q.lJ j h.kept l
 ·rw[Ai u]at a;rw[a];exact⟨r,q.lJ j h.kept l⟩
section
variable {B:Nat}{w w':World}{gr gs gp:Nat}{vq vv vg:Value}{vl:List Value}{p:Ax}{c:J9}{key:Int}{r:DN}{X:Nat->Prop}
theorem tS {m:Nat}(hB:Su m) (h:Dx B w gr gs gp vq vv vg vl p c key r 0) (hX:EM X w) (K:GI p r.s) {k:C3}(hk:ZE p.decls k.k) {n:Int}(dh:1<=n) (di:n<=50) {t:Az}{L:Value}(ht:Cs (λb=>b<B) w L t) (bi:t.size<=m) (M:D9 p.decls t) (O:t.Form) (hg:r.gone.length+n.toNat*t.bq<=2000000):
  Calls prog 122 #[.pointer (some ⟨gr,0,none⟩),.agg (H6 n k L).toArray] w (E6 B X w gr gs gp p c key (Gr (λs=>BD p.decls key s k) (exec p key t) n.toNat r)):=by
 obtain⟨b0,n1,b2,n3,P⟩:=KS k.k;have d:Dg k=[vs (BV k.k),.int .i64 (Bs k.k),vs b0,.int .i64 n1,vs b2,.int .i64 n3,.int .i64 k.bI]:=by unfold Dg;rw[P];rfl
 obtain⟨at_,ct,bn⟩:∃a c,L= .slice a t.length c:=by obtain⟨cs,h1,_⟩:=id ht;exact h1.fa
 have z:H6 n k L=[vs Bf,.int .i64 n,.int .i64 0,.bool false,vs (BV k.k),.int .i64 (Bs k.k),vs b0,.int .i64 n1,vs b2,.int .i64 n3,.int .i64 k.bI,L,A4,.bool false]:=by unfold H6;rw[d];rfl
 rw[z];subst bn;unfold A4;obtain⟨N,rfl⟩:∃N:Nat,n=(N:Int):=⟨n.toNat,by omega⟩;rw[As]at hg ⊢;obtain⟨HB,HT,bo,Q⟩:=zq4 hB ht d K;generalize ho:Gr (λs=>BD p.decls key s k) (exec p key t) N r=o at*;have R:=Aa ho;clear P d z ht K ho;have c0:=h.row.cell 0;have c1:=h.row.cell 1;have rl:=h.row.lt;simp at c0 c1;have nr:¬gr=w.heap.size:=by omega
 obtain⟨S,HX,HH⟩:=zq3 h.na hX h;clear h hX hB;unfold vs at*;go_enter GK,FF;obtain⟨T,A⟩:∃x,x=w.alloc (.cells #[.string ⟨Bf.toArray⟩,.int .i64 (N:Int),.int .i64 0,.bool false,.string ⟨(BV k.k).toArray⟩,.int .i64 (Bs k.k),.string ⟨b0.toArray⟩,.int .i64 n1,.string ⟨b2.toArray⟩,.int .i64 n3,.int .i64 k.bI,.slice at_ t.length ct,.slice none 0 0,.bool false] 262):=⟨_,rfl⟩;have K1:=Aa (show Ac (λb=>w.heap.size+1<=b) T T.drew from zAr.drew);have K0:=Aa (show Ac (λb=>w.heap.size<=b) w T.drew by rw[A];exact((Ac.refl _ w).alloc (Ab _) _).drew);obtain⟨HZ,HW⟩:=zq2 (show T.drew.heap.size=w.heap.size+1 by simp[C6,A]) A;clear A;go_upto_region 2 with fail;go_cut [4,5] (λs4 s5 wx=>s4= .int .i64 (fQ (r.s.find key))/\s5= .int .i64 (fI (r.s.find key))/\Ac (λb=>w.heap.size+1<=b) T wx)
 case first=>
  have A:=HW.out;subst A;generalize r.s.find key=FO at*
  go_region_law (first|(go_simp;go_at_call 99;refine(S.out _ K0.out).mono ?_;rintro x w2 ⟨rfl,U⟩;have bu:=Aa U;clear U;unfold FC))
  all_goals go_wp2
  all_goals go_meet
  all_goals exact⟨rfl,rfl,K1.out.trans (bu.out.mono (λb C=>by have:=HZ.out;omega))⟩
 obtain⟨rfl,rfl,k2⟩:=hcut;have A:=HW.out;subst A;have l:=je.of HH.out HX.out k2;obtain⟨y0,y1,y3,bl,c0,c1,rl⟩:=zp7 (l.box.cell 0) (l.box.cell 1) (l.box.cell 3) l.box.lt (l.run.row.cell 0) (l.run.row.cell 1) l.run.row.lt;simp at y0 y1 y3 c0 c1;have j:=Aa l;clear l k2 HX HW S K1 K0 HZ;have V:gR B (λb=>X b\/b=w.heap.size) wc gr gs gp p c key k t N o _ w.heap.size 0 wc r 0:=⟨Ac.refl _ _,⟨_,_,_,_,j.out.run⟩,j.out.box,j.out.dj,by rw[Al rfl,Nat.sub_zero];exact⟨R.out.symm,Q.out,hg⟩⟩;have HQ:=Aa V;clear V R Q hg;go_wp2_with fail
 go_loopg [6] N (λgg s6 wr=>∃i r1 e1,i<=N/\N-i<=gg/\s6= .int .i64 (i:Nat)/\gR B (λb=>X b\/b=w.heap.size) wc gr gs gp p c key k t N o [.string ⟨Bf.toArray⟩,.int .i64 (N:Int),.int .i64 0,.bool false,.string ⟨(BV k.k).toArray⟩,.int .i64 (Bs k.k),.string ⟨b0.toArray⟩,.int .i64 n1,.string ⟨b2.toArray⟩,.int .i64 n3,.int .i64 k.bI,.slice at_ t.length ct,.slice none 0 0,.bool false] w.heap.size i wr r1 e1)
 case atStart=>exact⟨0,r,0,AQ _,by omega,rfl,HQ.out⟩
 case round=>
  obtain⟨i,r1,e1,hi,eV,rfl,f⟩:=hrel;obtain⟨vq,vv,vg,vl,hR⟩:=f.run;obtain⟨z1,z4,z5,z6,z7,z8,z9,bx⟩:=zp8 (f.box.cell 1) (f.box.cell 4) (f.box.cell 5) (f.box.cell 6) (f.box.cell 7) (f.box.cell 8) (f.box.cell 9) (f.box.cell 10);obtain⟨f3,zl,fl⟩:=zp3 (hR.row.cell 3) f.box.lt hR.row.lt;simp at z1 z4 z5 z6 z7 z8 z9 bx f3;obtain⟨q,HR⟩:=zq2 f hR;clear f hR;by_cases W:i<N
  ·by_cases e0:e1=0
   ·subst e0;have u:=Ty HR.out k hk;rw[bo.out]at u
    try unfold vs at u
    have bC:=Aa u;clear u;go_wp2_with fail;refine bC.out.mono ?_;rintro y w1 ⟨rfl,H⟩;have g:=q.out.box.kept H (by omega);have bD:=g.cell 11;have dl:=g.lt;simp at bD;have v:=Aa H;clear H g;generalize D:BD p.decls key r1.s k=bE at*;have E:=Aa D;clear D;cases bE with
    |true=>
     have I:Ac (λb=>B<=b/\¬(X b\/b=w.heap.size)) wr w1:=v.out.mono (λb C=>⟨Ad HR.out.sz C,λY=>by have:=q.out.dj.lt Y;omega⟩);have J:=q.out.so;rw[Al rfl]at J;have Z:t.bq<=(N-i)*t.bq:=Nat.le_mul_of_pos_left _ (by omega);have G:=HB.out B (λb=>X b\/b=w.heap.size) w1 gr gs gp vq vv vg vl p c key r1 t _ (HR.out.later v.out) (q.out.dj.later v.out) J.2.1 bi M O (HT.out.kept (λk cs hN _=>((j.out.kept.trans (q.out.kept.mono (λb C=>⟨C.1,λY=>C.2 (.inl Y)⟩))).trans (I.mono (λb C=>⟨C.1,λY=>C.2 (.inl Y)⟩))).block k (λhh=>by have:=hh.1;omega))) (by omega);obtain⟨bF,bG⟩:=zq2 G I;clear I J Z G;go_wp2_with fail;refine bF.out.mono ?_;intro y w2 h2;obtain⟨rfl,r',e',aD⟩:=q.out.step HR.out.pw (.inr rfl) W E.out M O (h2.after bG.out);have F:=Aa aD;clear h2 aD;go_wp2;go_roundg (N-(i+1))
     case measure=>omega
     case rel=>exact⟨i+1,r',e',by omega,by omega,by go_num,F.out⟩
    |false=>
     go_wp2;go_end0;exact j.out.fin (q.out.end_ j.out.dj (λ_=>.inr E.out) v.out)
   ·have q1:((e1:Int)==0)=false:=by simp;omega
    have q2:decide ((e1:Int)=0)=false:=by simp;omega
    have E0:=Aa e0;clear e0;go_wp2;go_end0;exact j.out.fin (q.out.end_ j.out.dj (λe=>absurd e E0.out) zAr)
  ·have bH:i=N:=by omega
   subst bH;clear W;go_wp2;go_end0;exact j.out.fin (q.out.end_ j.out.dj (λ_=>.inl rfl) zAr)
end
theorem pg:∀(b:Az),b.length=0->b= .nil
 | .nil,_=>rfl
 | .bG p r,h=>by simp[Az.length]at h
 | .ite c t o e r,h=>by simp[Az.length]at h
 | .rep n c b r,h=>by simp[Az.length]at h
theorem OO {m:Nat}{k:Int}(h:Ix m k):∃n:Nat,k=(n:Int)/\n<m:=⟨k.toNat,by have:=h.1;omega,by have:=h.1;have:=h.2;omega⟩
theorem qG (p:Ax) (key:Int) (x:D0) (r:DN):exec p key (.bG x .nil) r=bG p key x r:=by rw[exec];cases bG p key x r<;>rfl
theorem qH (p:Ax) (key:Int) (c:C3) (t e:Az) (o:Bool) (r:DN) (b:o=false->e= .nil):exec p key (.ite c t o e .nil) r=if BD p.decls key r.s c then exec p key t r else exec p key e r:=by
 rw[exec];by_cases a:BD p.decls key r.s c=true
 ·rw[Al a,Al a];cases exec p key t r<;>rfl
 ·rw[Ai a,Ai a];cases o with
  |true=>rw[Al rfl];cases exec p key e r<;>rfl
  |false=>rw[b rfl,Ai AY]
theorem qF (p:Ax) (key:Int) (c:C3) (t:Az) (n:Int) (r:DN):exec p key (.rep n c t .nil) r=Gr (λs=>BD p.decls key s c) (exec p key t) n.toNat r:=by rw[exec];cases Gr (λs=>BD p.decls key s c) (exec p key t) n.toNat r<;>rfl
theorem GI.fr {p:Ax}{s:St}(h:GI p s) (a:Ej p):∀l∈s.q,∀x∈l,0<=x.aD/\x.aD<=1000:=by intro l b x c;obtain⟨k,d⟩:=I8.1 b;have e:=h.1.fr k l d x c;have f:=a.aD;omega
theorem jX {m:Nat}(E:Su m):Zb (m+1):=by
 intro B X w gr gs gp K L M N p c key r x cs h f a u z i hF j F;cases x with
 |nil=>cases u
 |bG y rest=>
  obtain rfl:=pg rest (by simpa[Az.length]using u);obtain⟨rest,rfl,rfl⟩:=j;rw[AM,qG];have A:=a.fr h.pw;have g:r.gone.length<=3000000:=by omega
  have s:=i.1;cases y with
  |put q t=>
   obtain⟨n,rfl,d⟩:=OO s.1;exact tU h f g d t
  |bx q=>
   obtain⟨n,rfl,d⟩:=OO s.1;exact jq h f g d
  |dz q=>
   obtain⟨n,rfl,d⟩:=OO s.1;exact nK h f (λl u x G=>by have:=A l u x G;omega) d
  |shift q t tl=>
   obtain⟨n,rfl,d⟩:=OO s.1.1;obtain⟨k,rfl,H⟩:=OO s.2.1;exact jp h f g d H tl
  |inc v=>
   obtain⟨n,rfl,d⟩:=OO s.1;exact tV h f a d
  |dec v=>
   obtain⟨n,rfl,d⟩:=OO s.1;exact tW h f a d
  |drop=>exact nJ h f g
  |bump=>exact nL h f A
 |ite k t o e rest=>
  obtain rfl:=pg rest (by simpa[Az.length]using u);obtain⟨I,ve,rest,rfl,D,C,rfl⟩:=j;have J:Cs (λb=>b<B) w ve e:=by
   cases o with
   |true=>exact C
   |false=>
    rw[Ai AY]at C;rw[C.1,C.2];exact Cs.hQ _ _
  simp only[Az.size]at z;simp only[Az.bq]at F;rw[AM,qH p key k t e o r hF.2.2.2];exact zq E h f a i.1 D J (by omega) (by omega) i.2.1 i.2.2.1 hF.1 hF.2.1 (by omega)
 |rep n k t rest=>
  obtain rfl:=pg rest (by simpa[Az.length]using u);obtain⟨I,rest,rfl,D,rfl⟩:=j;simp only[Az.size]at z;simp only[Az.bq]at F;rw[AM,qF];exact tS E h f a i.1 i.2.2.2.1 i.2.2.2.2 D (by omega) i.2.1 hF.1 (by omega)
theorem aa:∀m,Zb m/\Su m
 |0=>by
  have h:Zb 0:=by
   intro B X w gr gs gp g i j k p c key r x cs h l d f a;cases x with
   |nil=>cases f
   |bG p r=>simp[Az.size]at a
   |ite c t o e r=>simp[Az.size]at a
   |rep n c b r=>simp[Az.size]at a
  exact⟨h,Vb h⟩
 |m+1=>by have h:=jX (aa m).2;exact⟨h,Vb h⟩
section
variable {S S1:Nat->Prop}{w w1 w2 w':World}{vq:Value}{q:List (List Gm)}{vl:List Value}
theorem QR.hQ (S:Nat->Prop) (w:World):QR S w (.slice none 0 0) [] []:=⟨Sl.hQ _ _ _ _,rfl,λi v l h=>by simp at h,λi j u v _ h=>by simp at h⟩
theorem QR.snoc (h:QR S w vq q vl) (L:Ac (λb=>w.heap.size<=b) w w1) {u:Value}{l:List Gm}(t:Sl (λb=>w.heap.size<=b) w1 234 2 u l.length (l.flatMap Cd)) (M:∀b,w.heap.size<=b->S b)
  (J:Ac (λb=>vq.ownBlock=some b\/w1.heap.size<=b) w1 w2) {a:Option Addr} {c:Nat} (N:Sl S w2 236 1 (.slice a (q.length+1) c) (q.length+1) (vl++[u])):
  QR S w2 (.slice a (q.length+1) c) (q++[l]) (vl++[u]):=by
 have D:∀b,vq.ownBlock=some b->b<w.heap.size:=λb f=>h.outer.lt f;have E:Sl (λb=>w.heap.size<=b) w2 234 2 u l.length (l.flatMap Cd):=t.kept J (λb f z=>z.elim (λe=>by have K:=D b e;have F:=t.2 b f;simp only at F;omega) (λe=>by have:=t.lt f;omega));refine⟨by simpa using N,by simp[h.len],?_,?_⟩
 ·intro i v m d o;rcases Be i q.length with hi|hi
  ·rw[AV (by rw[h.len];exact hi)]at d;rw[AV hi]at o;have A:=h.inner i v m d o;have B:=A.kept L (λb f z=>by have:=A.lt f;omega);exact B.kept J (λb f z=>z.elim (λe=>A.eR h.outer (by decide) e f) (λe=>by have:=B.lt f;omega))
  ·have G:i=q.length:=by have:=(Aj.1 o).1;simp at this;omega
   subst G;have e1:(vl++[u])[q.length]?=some u:=by rw[←h.len];simp
   have O:(q++[l])[q.length]?=some l:=by simp
   rw[e1]at d;rw[O]at o;injection d with d;injection o with o;subst d o;exact E.mono M
 ·have k:∀(i:Nat) v,i<q.length->(vl++[u])[i]?=some v->vl[i]?=some v:=λi v hi d=>by rwa [AV (by rw[h.len];exact hi)]at d
  have p:∀(i:Nat) v,¬i<q.length->(vl++[u])[i]?=some v->v=u/\i=q.length:=λi v hi d=>by
   have:=(Aj.1 d).1;simp[h.len]at this;obtain rfl:i=q.length:=by omega
   have e1:(vl++[u])[q.length]?=some u:=by rw[←h.len];simp
   rw[e1]at d;injection d with d;exact⟨d.symm,rfl⟩
  have n:∀(i:Nat) v,i<q.length->vl[i]?=some v->Far v u:=λi v hi d b K F=>by have A:=(h.inner i v q[i] d (Ae hi)).lt K;have B:=t.2 b F;simp only at B;omega
  intro i j x y H I C;by_cases hi:i<q.length
  ·by_cases r:j<q.length
   ·exact h.dc i j x y H (k i x hi I) (k j y r C)
   ·obtain⟨rfl,_⟩:=p j y r C;exact n i x hi (k i x hi I)
  ·obtain⟨rfl,P⟩:=p i x hi I;by_cases r:j<q.length
   ·exact(n j y r (k j y r C)).symm
   ·obtain⟨_,Q⟩:=p j y r C;omega
end
theorem QR.qC {S:Nat->Prop}{w w':World}{vq:Value}{q:List (List Gm)}{vl:List Value}(h:QR S w vq q vl) {m:Nat}{t:TypeId}{cs:List Value}(d:AE w m t cs) (j:t≠236) (k:t≠234) (f:Ac (λb=>b=m) w w'):QR S w' vq q vl:=
 ⟨h.outer.kept f (λb n e=>h.outer.bD d (J6 j) (e▸n)),h.len,λi v l a b=>(h.inner i v l a b).kept f (λc o e=>(h.inner i v l a b).bD d (J6 k) (e▸o)),h.dc⟩
theorem Es.push {N:Nat}{wr i:World}{g gp:Nat}{vq vv u:Value}{q n:List (List Gm)}{d:List Int}{c:J9}{vl j:List Value}(h:Es (λb=>N<=b) wr g gp vq vv ⟨q,d⟩ c vl) (p:N<=wr.heap.size)
  (k:Ac (λb=>vq.ownBlock=some b\/wr.heap.size<=b) wr i) (r:QR (λb=>N<=b) i u n j):
  Es (λb=>N<=b) (i.setCell ⟨g,1,none⟩ u) g gp u vv ⟨n,d⟩ c j/\Ac (λb=>N<=b) wr (i.setCell ⟨g,1,none⟩ u):=by
 have l:Ac (λb=>b=g) i (i.setCell ⟨g,1,none⟩ u):=Ac.one i ⟨g,1,none⟩ u;have a:=h.row.kept k (λm=>m.elim (λe=>h.q.outer.bD h.row (by decide) e) (λe=>by have:=h.row.lt;omega));have o:=h.v.kept k (λb f m=>m.elim (λe=>h.v.eR h.q.outer (by decide) e f) (λe=>by have:=h.v.lt f;omega));exact⟨⟨a.bF 1 u,r.qC a (by decide) (by decide) l,o.kept l (λb f e=>o.bD a (by decide) (e▸f)),h.sg⟩,
  (k.mono (λb f=>f.elim (λe=>h.q.outer.2 b e) (λe=>Ad p e))).trans (l.mono (λb f=>f▸h.sg))⟩
def Ag1 (w:World) (gp:Nat) (s:St) (c:J9) (e:Ending) (w':World):Prop:=
 ∃a d f h,e= .returned (.pointer (some ⟨a,0,none⟩))/\Ac (λb=>w.heap.size<=b) w w'/\Es (λb=>w.heap.size<=b) w' a gp d f s c h
theorem XM:(prog.info? 236).map (λi=>(i.zero,i.size,i.bytes))=some (some (.slice none 0 0),1,24):=by kernel_rfl
section
variable {S:Nat->Prop}{w:World}{g gp:Nat}{vq vv:Value}{s:St}{c:J9}{vl:List Value}
attribute [local go_sem ↓] Go.wp_at_zero Go.wp_at_succ
theorem aA (h:Es S w g gp vq vv s c vl) (i:QB s) (eV:s.vars.length<=1000):Calls prog 100 #[.pointer (some ⟨g,0,none⟩)] w (Ag1 w gp s c):=by
 obtain⟨c0,c1,c2,c3,c4,c5,rl⟩:=zp7 (h.row.cell 0) (h.row.cell 1) (h.row.cell 2) (h.row.cell 3) (h.row.cell 4) (h.row.cell 5) h.row.lt;obtain⟨av,cv,rfl⟩:=h.v.bz;obtain⟨aq,cq,rfl⟩:=h.q.outer.bz;obtain⟨j0,bu,bx,bC,bE⟩:=Bg LM;obtain⟨i0,bF,bG,bH,bI⟩:=Bg Vs;obtain⟨k0,cy,cz,cL,cW⟩:=Bg XM;have s2:=h.v.src;have o2:∀u∈s.vars.map Jv,u.oneCell'=true:=by intro u hu;obtain⟨x,_,rfl⟩:=AD.1 hu;rfl
 have b2:=h.v.iO;have m2:s.vars.length<=maxLen:=by unfold maxLen;omega
 have n2:s.vars.length*8<=140737488355328:=by omega
 have fb:=i.n;obtain⟨H,HB,S2,O2,B2⟩:=zq5 h i s2 o2 b2;simp at c0 c1 c2 c3 c4 c5;clear h i s2 o2 b2;go_enter func100,ntmps100;go_upto_region 2 with fail;go_cut [3] (λs3 wx=>∃f A,s3= .pointer (some ⟨f,0,none⟩)/\Ac (λb=>w.heap.size<=b) w wx/\Es (λb=>w.heap.size<=b) wx f gp (.slice none 0 0) A ⟨[],s.vars⟩ c [])
 case first=>
  go_region_held3 (λw'=>w'.cell? ⟨g,0,none⟩=some (.pointer (some ⟨gp,0,none⟩))/\w'.cell? ⟨g,2,none⟩=some (.slice av s.vars.length cv)/\w'.cell? ⟨g,3,none⟩=some (.int .i64 c.ft)/\w'.cell? ⟨g,4,none⟩=some (.int .i64 c.dA)/\w'.cell? ⟨g,5,none⟩=some (.int .i64 c.cD)/\Ac (λb=>w.heap.size<=b) w w')
   ((repeat' apply And.intro)<;>(first
    |assumption
    |exact(Ac.cell d (by simp only;omega)).trans c0
    |exact(Ac.cell (d.alloc P _) (by simp only;omega)).trans c0
    |exact(Ac.cell d (by simp only;omega)).trans c2
    |exact(Ac.cell (d.alloc P _) (by simp only;omega)).trans c2
    |exact(Ac.cell d (by simp only;omega)).trans c3
    |exact(Ac.cell (d.alloc P _) (by simp only;omega)).trans c3
    |exact(Ac.cell d (by simp only;omega)).trans c4
    |exact(Ac.cell (d.alloc P _) (by simp only;omega)).trans c4
    |exact(Ac.cell d (by simp only;omega)).trans c5
    |exact(Ac.cell (d.alloc P _) (by simp only;omega)).trans c5
    |(with_reducible exact zAr.drew)
    |exact d.alloc P _
    ))
   (first
    |(refine Lp (w0:=w) (N:=w.heap.size) ?_ (Ab _) S2.out B2.out Fa bu bx bC bE rfl (by decide) O2.out m2 n2 (by rfl) _ _ (by rfl) (by rfl) (by rfl) ?_;(first|exact zAr.drew|exact fm);intro U J w2 B C d;have P:=d.size;have V:=Aa B;have cX:=Aa C;clear B C))
  all_goals go_wp2
  all_goals go_meet
  all_goals
   refine⟨_,_,rfl,d.alloc P _,AE.new w2 _ _,QR.hQ _ _,(V.out.mono (λb i=>?_)).alloc _,P⟩;exact Ad (by first|exact Ab _|simp) i
 obtain⟨f,A,rfl,k1,r⟩:=hcut;have Y:∃t j,Es (λb=>w.heap.size<=b) wc f gp t A ⟨s.q.take 0,s.vars⟩ c j:=⟨_,_,r⟩;have cY:=Aa Y;have c1:=(k1.cell (p:=⟨g,1,none⟩) (by simp only;omega)).trans c1;have gl:g<wc.heap.size:=An rl k1.size;have K1:=Aa k1;clear r Y k1 c0 c2 c3 c4 c5;go_wp2_with fail
 go_loopg [26] s.q.length (λgg cZ wr=>∃(k:Nat) (t:Value) (j:List Value),k<=s.q.length/\s.q.length-k<=gg/\cZ= .int .i64 k/\Ac (λb=>w.heap.size<=b) w wr/\Es (λb=>w.heap.size<=b) wr f gp t A ⟨s.q.take k,s.vars⟩ c j)
 case atStart=>
  obtain⟨t,j,r⟩:=cY.out;exact⟨0,t,j,AQ _,by omega,rfl,K1.out,r⟩
 case round=>
  obtain⟨k,t,j,hk,hg,rfl,m,r⟩:=hrel;by_cases da:k<s.q.length
  ·obtain⟨v,l,hv,Z,D⟩:=H.out.q.at_ da;have K:=H.out.q.inner k v l hv Z;obtain⟨al,cl,rfl⟩:=K.bz;obtain⟨gq,gQ,eq,_,q1,q2,q3⟩:=H.out.q.outer.form (by omega);injection eq with e1 _ J;subst e1 J;have d0:w.cell? ⟨gq,k,none⟩=some (.slice al l.length cl):=D;have d0:=(m.cell (p:=⟨gq,k,none⟩) (by simp only;omega)).trans d0;have db:=(m.cell (p:=⟨g,1,none⟩) (by simp only;omega)).trans (H.out.row.cell 1);have hH:=HB.out.l l (Aw Z);have E:=K.kept m (λb i hh=>by have:=K.lt i;omega);have hI:=An q3 m.size;have G:(s.q.take k).length=k:=by simp;omega
   have o:=r.q.outer;rw[G]at o;obtain⟨y,z,rfl⟩:=o.bz;obtain⟨x1,xl,xf⟩:=zp3 (r.row.cell 1) r.row.lt (r.row.frozen 1);have aD:(Value.slice y k z).ownBlock≠some f:=o.bD r.row (by decide);have m3:l.length<=maxLen:=by unfold maxLen;omega
   have n3:l.length*16<=140737488355328:=by omega
   have m4:k+1<=maxLen:=by unfold maxLen;omega
   have n4:(k+1)*24<=140737488355328:=by omega
   obtain⟨S3,B3,O3,ba,be,HR,L,HL⟩:=zq8 E.src E.iO (Un l) o aD r m Z;have Q:=Aa G;have bf:s.q.take (k+1)=s.q.take k++[l]:=by rw[gV,Z];rfl
   have dc:=Aa bf;clear bf;simp at x1 db;unfold maxLen at q2;clear r m Z hv K E D o aD G c1;go_upto_region 5 with fail
   go_region_law
    (first
     |(refine Lp (w0:=wr) (N:=wr.heap.size) ?_ (Ab _) S3.out B3.out Is bF bG bH bI rfl (by decide) O3.out m3 n3 (by rfl) _ _ (by rfl) (by rfl) (by rfl) ?_;(first|exact zAr.drew);intro U J w2 B C d;have y1:w2.cell? ⟨f,1,none⟩=some (.slice y k z):=(d.cell (p:=⟨f,1,none⟩) (by simp only;omega)).trans x1;have dh:Ac (λb=>(Value.slice y k z).ownBlock=some b\/wr.heap.size<=b) wr w2:=d.mono (λb i=>.inr i);have I:Ac (λb=>w2.heap.size<=b) w2 (w2.alloc (.cells #[.slice U l.length J] 236)):=(Ac.refl _ w2).alloc (Ab _) _;have di:Ac (λb=>(Value.slice y k z).ownBlock=some b\/wr.heap.size<=b) wr (w2.alloc (.cells #[.slice U l.length J] 236)):=dh.alloc (.inr d.size) _;have yl:f<w2.heap.size:=An xl d.size;have y3:(w2.alloc (.cells #[.slice U l.length J] 236)).cell? ⟨f,1,none⟩=some (.slice y k z):=(I.cell (p:=⟨f,1,none⟩) (by simp only;omega)).trans y1;have dj:=Aa ((ba.out.later d (λb i=>i)).later I (λb i=>i));have dm:=Aa (Ad (Ad L.out.size d.size) I.size);have QC:=Aa (C7 w2 [.slice U l.length J] 236);have V:=Aa B;have cX:=Aa C;have W:=Aa d;have M:=Aa I;clear B C d I)
     |(refine EI underlying163 cy cz cL cW rfl (by decide) dj.out dm.out rfl _ _ (by rfl) (by rfl) ⟨w2.heap.size,0,none⟩ 1 1 [.slice U l.length J] (by rfl) rfl QC.out (by intro u hu;simp at hu;subst hu;rfl) m4 n4 (Cg _) ?_;intro g4 c4 w4 bg O bh;have X:Ac (λb=>(Value.slice y k z).ownBlock=some b\/wr.heap.size<=b) wr w4:=di.trans (O.mono (λb i=>i.elim .inl (λh2=>.inr (Ad (Ad W.out.size M.out.size) h2))));have y4:w4.cell? ⟨f,1,none⟩=some (.slice y k z):=(O.cell (p:=⟨f,1,none⟩) (λhh=>hh.elim (λe=>be.out e) (λh2=>by have:=M.out.size;simp only at h2;omega))).trans y3;have y5:w4.frozen? ⟨f,1,none⟩=false:=(X.frozen (p:=⟨f,1,none⟩) (λhh=>hh.elim (λe=>be.out e) (λh2=>by simp only at h2;omega))).trans xf;have dr:=Aa bg;have dt:=Aa O;clear bg O bh))
   all_goals
    have hq:=HR.out.q.snoc (W.out.trans (M.out.mono (λb i=>Ad W.out.size i))) ((V.out.mono (λb i=>i)).later M.out (λb i=>i)) (λb i=>Ad L.out.size i) dt.out (a:=some ⟨g4,0,none⟩) (c:=c4) (by rw[Q.out];exact dr.out);have bj:QR (λb=>w.heap.size<=b) w4 (.slice (some ⟨g4,0,none⟩) (k+1) c4) (s.q.take (k+1)) (j++[.slice U l.length J]):=by rw[Q.out]at hq;rw[dc.out];exact hq
    have R:=HR.out.push L.out.size X bj;have T:=Aa R;clear hq bj R X y4 y5;go_wp2;go_roundg (s.q.length-(k+1))
    case measure=>omega
    case rel=>exact⟨k+1,_,_,by omega,by omega,by go_num,L.out.trans T.out.2,T.out.1⟩
  ·have dy:k=s.q.length:=by omega
   rw[dy,J7]at r;obtain⟨F,KW⟩:=zq2 r m;clear r m;go_wp2;go_ret;exact⟨f,t,A,j,rfl,KW.out,F.out⟩
end
section
variable {B:Nat}{ea:Nat->Addr}{S:Nat->Prop}{w:World}{ge:Nat}{e:EX}
theorem bO {r gs x gp y z a c i:Nat}{C j f:Value}{D k:Nat->Prop}{A t:Am}{u:List (List Nat)}{w1:World}(l:UF B ea w) (h:Abb S w ge e r gs x gp y z a C j D A u)
  (g:Ac (λb=>w.heap.size<=b) w w1) (m:yT w.heap.size w1 c i f k t e.s.vars) (E:CD t u e.s.q) (n key:Int):
  Calls prog 27 #[.pointer (some ⟨r,0,none⟩),.pointer (some ⟨c,0,none⟩),.int .i64 n,.int .u64 key] w1 (gS w.heap.size ea w1 c e.p (exec e.p key (CZ e.p n) ⟨e.s,[]⟩)):=by
 have o:=l.kept g (λb d=>Ad l.size d);have v:=(h.prog.code.eS (S':=λb=>b<w.heap.size) (λb d _=>d)).hU g (λb d _=>by omega);obtain⟨M,F,G⟩:=v.map;exact ur h.pw (o.qo l.size) (h.prog.ro.kept g (λb d=>d)) m E h.si g.size v.lo F (G n)
theorem qN (F:UF B ea w) (P:JI B ea w) (G:GR S w ge e) (R:∀b,S b->b<w.heap.size) (key:Int) {k:Nat}(H:exec e.p key (CZ e.p (Ek e.s key)) ⟨e.s,[]⟩= .error k):
  Calls prog 12 #[.pointer (some ⟨ge,0,none⟩),.int .u64 key] w (gT S w ge (.err k) e.p e):=by
 obtain⟨T,U⟩:=RU H;have I:=G;obtain⟨V,gs,ga,gp,bm,bc,i,vd,J,SA,A,ns,h⟩:=I;obtain⟨vl,vf,vq,bp,r⟩:=h.ar;have j:=Pj r h.inv.ok key;have t:(⟨e.s.q,e.s.vars⟩:St)=e.s:=rfl;have l:=h.inv.cX key e.s.vars;rw[t]at l;rw[l]at j;have u:=UY h.ar h.bg h.vars h.inv (by have:=h.si.v;have:=h.pw.decls.len;omega);have hq:=Ns h.si key;have d:=λm n a o K w1=>@bO B ea S w ge e V gs ga gp bm bc i m n vd J a SA o A K ns w1 F h;obtain⟨W,c1,s0,r1,r2⟩:=zp5 (h.row.cell 0) (h.row.cell 1) (h.bg.cell 0) h.row.lt h.bg.lt;generalize Ek e.s key=Q at*;obtain⟨HW,HC,HR,H0,E,HO,HX,HS⟩:=zq8 j u d G F P H R;clear j u d G F P H r h t l R;simp at W c1 s0;rcases hq with rfl|L
 all_goals
  first
   |have X:¬Q<0:=by have:=L.1;omega
   |skip
  go_enter nu,gE;go_wp2_with fail;refine HW.out.mono ?_;rintro e1 w1 ⟨rfl,rfl⟩;go_wp2_with fail;refine HC.out.mono ?_;rintro e1 x ⟨m,n,a,o,K,rfl,c,f,y⟩;have d0:x.cell? ⟨ge,0,none⟩=some (.pointer (some ⟨V,0,none⟩)):=(c.cell (p:=⟨ge,0,none⟩) (by simp only;omega)).trans W;have Y:=λev=>HR.out m n a o K x c f y ev key;obtain⟨M,K1⟩:=zq2 Y c;clear Y c f y;go_wp2_with fail;refine(M.out _).mono ?_;rintro e1 w2 ⟨z,N⟩;rw[HX.out]at N;simp only at N;subst N;have C:Ac (λb=>w.heap.size<=b) w w2:=K1.out.trans z;have Z:=Vh (E.out.kept C (λb g=>Ad E.out.size g)) T U (kU (HO.out.kept C (λb g=>Ad E.out.size g)) (Ad E.out.size C.size) T U);obtain⟨HN,KK⟩:=zq2 Z C;clear Z C z;unfold Dq at HN ⊢;go_wp2_with fail;refine HN.out.mono ?_;rintro e1 w3 ⟨rfl,D⟩;have O:=Aa D;clear D;go_wp2;refine AA (v:=.tuple #[.bool false,.slice none 0 0,.int .i64 k]) (by simp[results,WZ,go_sem]) rfl ?_;have k3:Ac (λb=>w.heap.size<=b) w w3:=KK.out.trans (O.out.mono (λb g=>Ad KK.out.size g));exact⟨k3.mono (λb g=>.inr g),rfl,H0.out.kept k3 (λb g bI=>by omega)⟩
theorem wb (he:UF B ea w) (h0:GR S w ge e) (hS:∀b,S b->b<w.heap.size) {m:Nat}(hm:m<=4000000) (hc:PV e.n m) (key:Int) {r:DN}(hx:exec e.p key (CZ e.p (Ek e.s key)) ⟨e.s,[]⟩= .ok r):
  Calls prog 12 #[.pointer (some ⟨ge,0,none⟩),.int .u64 key] w (gT S w ge (e.access key) e.p e):=by
 have R:=mo e key r hx;rw[R];have T:=cM (c:=e.n) h0.inv.1 h0.inv.2 R;have bq:=T.2.1.mJ;have eG:=Tc h0.inv.1 hx;clear T R;obtain⟨gg,gs,ga,gp,bm,bc,bH,vd,eR,SA,A,ns,h⟩:=h0;obtain⟨vl,vf,vq,hZ,cZ⟩:=h.ar;have bI:=Pj cZ h.inv.ok key;have da:(⟨e.s.q,e.s.vars⟩:St)=e.s:=rfl;have cy:=h.inv.cX key e.s.vars;rw[da]at cy;rw[cy]at bI;have db:=UY h.ar h.bg h.vars h.inv (by have:=h.si.v;have:=h.pw.decls.len;omega);have hq:=Ns h.si key;have br:=λg O u P A' w1=>@bO B ea S w ge e gg gs ga gp bm bc bH g O vd eR u SA P A A' ns w1 he h;obtain⟨c0,c1,c2,c3,c4,s0,g0,p0⟩:=zp8 (h.row.cell 0) (h.row.cell 1) (h.row.cell 2) (h.row.cell 3) (h.row.cell 4) (h.bg.cell 0) (h.prog.code.row.cell 0) (h.prog.ba.cell 0);obtain⟨r1,r2,r3,r4⟩:=zp4 h.row.lt h.bg.lt h.prog.code.row.lt h.prog.ba.lt;have n1:gg≠ge:=h.prog.code.row.bt h.row (by decide);have n2:gp≠ge:=h.prog.ba.bt h.row (by decide);have U:=λq hq=>h.prog.ro.decl (q:=q) hq;have W:∀b,vd.ownBlock=some b->b≠ge/\b<w.heap.size:=λb hb=>⟨λe=>h.prog.decls.bD h.row (by decide) (e▸hb),h.prog.decls.lt hb⟩;have h8:=h.pw.decls.len;generalize Ek e.s key=Q at*;obtain⟨b1,b2,b3,b4,b5,b6⟩:=hc;obtain⟨HW,HC,HR,HP,HX,HS,x⟩:=zq7 bI db br h hx hS bq;clear bI db br he hx cZ h da cy hS bq;simp at c0 c1 c2 c3 c4 s0 g0 p0;generalize X:e.n.ft=H at*;generalize Y:e.n.dA=M at*;generalize Z:e.n.cD=V at*;obtain⟨HH,HM,HV⟩:=zq3 X Y Z;clear X Y Z;rcases hq with rfl|bp
 ·have bx:AW e.p.decls (-1)=false:=rfl;rw[bx]at x ⊢;clear U W bx;go_enter nu,gE;go_wp2_with fail;refine HW.out.mono ?_;rintro e1 w1 ⟨rfl,rfl⟩;go_wp2_with fail;refine HC.out.mono ?_;rintro e1 F ⟨g,O,u,P,A',rfl,f,k,G⟩;have d0:F.cell? ⟨ge,0,none⟩=some (.pointer (some ⟨gg,0,none⟩)):=(f.cell (p:=⟨ge,0,none⟩) (by simp only;omega)).trans c0;have hr:=λev=>HR.out g O u P A' F f k G ev key;obtain⟨aD,K1⟩:=zq2 hr f;clear hr f k G;go_wp2_with fail;refine(aD.out _).mono ?_;rintro e1 w2 ⟨I,J⟩;rw[HX.out]at J;obtain⟨bf,di,bC,dj,A2,dm,rfl,o,L,N,y,t⟩:=J;have C:Ac (λb=>w.heap.size<=b) w w2:=K1.out.trans (I.mono (λb hb=>hb));obtain⟨ao,co,rfl⟩:∃a c,bf= .slice a r.gone.length c:=y.shape;have E:=λi=>C.cell (p:=⟨ge,i,none⟩) (by simp only;omega);obtain⟨x1,x2,x3,x4⟩:=zp4 ((E 1).trans c1) ((E 2).trans c2) ((E 3).trans c3) ((E 4).trans c4);have z:AE w2 ge 73 _:=HP.out.row.kept C (by omega);have ff:=λj=>z.frozen j;obtain⟨KK,ST,bh,bi,bj,bn,bo⟩:=zq7 C o L N y t z;clear C o L N y t I E z;go_wp2;refine AA (v:=.tuple #[.bool false,.slice ao r.gone.length co,.int .i64 0]) (by simp[results,WZ,go_sem]) rfl ?_;have d:=Y9 (e1:=⟨e.p,r.s,P9 e.n false r.gone.length⟩) (l:=r.gone) HP.out KK.out ST.out bh.out bi.out bj.out bn.out rfl x.out
   (((Ac.one w2 ⟨ge,1,none⟩ (.pointer (some ⟨g,0,none⟩))).setCell (p:=⟨ge,3,none⟩) rfl (.int .i64 (M+1))).setCell (p:=⟨ge,4,none⟩) rfl (.int .i64 (V+r.gone.length)))
   (by
    have h:=((bo.out.bF 1 (.pointer (some ⟨g,0,none⟩))).bF 3 (.int .i64 (M+1))).bF 4 (.int .i64 (V+r.gone.length));simpa[P9,HH.out,HM.out,HV.out]using h)
  exact⟨d.1,_,rfl,d.2.1,d.2.2⟩
 ·obtain⟨gd,cd,ed,ig,fd,dk,_⟩:=U Q bp;subst ed;obtain⟨n3,r5⟩:=W gd rfl;obtain⟨m2,rfl⟩:∃m:Nat,Q=(m:Int):=⟨Q.toNat,by have:=bp.1;omega⟩;rw[As]at dk;have ii:m2<e.p.decls.length:=by have:=bp.2;omega
  have bE:AW e.p.decls (m2:Int)=((Aq e.p.decls (m2:Int)).kind==0):=by unfold AW;simp
  rw[bE]at x ⊢;generalize (Aq e.p.decls (m2:Int)).kind=K at*;generalize hD:e.p.decls.length=D at*;unfold maxLen at fd;clear hD U W bE bp;by_cases hK:K=0
  ·subst hK;have eK:((0:Nat)==0)=true:=rfl;rw[eK]at x ⊢;clear eK;go_enter nu,gE;go_wp2_with fail;refine HW.out.mono ?_;rintro e1 w1 ⟨rfl,rfl⟩;go_wp2_with fail;refine HC.out.mono ?_;rintro e1 F ⟨g,O,u,P,A',rfl,f,k,G⟩;have d0:F.cell? ⟨ge,0,none⟩=some (.pointer (some ⟨gg,0,none⟩)):=(f.cell (p:=⟨ge,0,none⟩) (by simp only;omega)).trans c0;have hr:=λev=>HR.out g O u P A' F f k G ev key;obtain⟨aD,K1⟩:=zq2 hr f;clear hr f k G;go_wp2_with fail;refine(aD.out _).mono ?_;rintro e1 w2 ⟨I,J⟩;rw[HX.out]at J;obtain⟨bf,di,bC,dj,A2,dm,rfl,o,L,N,y,t⟩:=J;have C:Ac (λb=>w.heap.size<=b) w w2:=K1.out.trans (I.mono (λb hb=>hb));obtain⟨ao,co,rfl⟩:∃a c,bf= .slice a r.gone.length c:=y.shape;have E:=λi=>C.cell (p:=⟨ge,i,none⟩) (by simp only;omega);obtain⟨x1,x2,x3,x4⟩:=zp4 ((E 1).trans c1) ((E 2).trans c2) ((E 3).trans c3) ((E 4).trans c4);have z:AE w2 ge 73 _:=HP.out.row.kept C (by omega);have ff:=λj=>z.frozen j;have y0:=(E 0).trans c0;have yg:=(C.cell (p:=⟨gg,0,none⟩) (by simp only;omega)).trans g0;have yp:=(C.cell (p:=⟨gp,0,none⟩) (by simp only;omega)).trans p0;have yd:=(C.cell (p:=⟨gd,m2*3,none⟩) (by simp only;omega)).trans dk;obtain⟨KK,ST,bh,bi,bj,bn,bo⟩:=zq7 C o L N y t z;clear C o L N y t I E z;go_wp2;refine AA (v:=.tuple #[.bool true,.slice ao r.gone.length co,.int .i64 0]) (by simp[results,WZ,go_sem]) rfl ?_;have d:=Y9 (e1:=⟨e.p,r.s,P9 e.n true r.gone.length⟩) (l:=r.gone) HP.out KK.out ST.out bh.out bi.out bj.out bn.out rfl x.out
    (((Ac.one w2 ⟨ge,1,none⟩ (.pointer (some ⟨g,0,none⟩))).setCell (p:=⟨ge,2,none⟩) rfl (.int .i64 (H+1))).setCell (p:=⟨ge,4,none⟩) rfl (.int .i64 (V+r.gone.length)))
    (by
     have h:=((bo.out.bF 1 (.pointer (some ⟨g,0,none⟩))).bF 2 (.int .i64 (H+1))).bF 4 (.int .i64 (V+r.gone.length));simpa[P9,HH.out,HM.out,HV.out]using h)
   exact⟨d.1,_,rfl,d.2.1,d.2.2⟩
  ·have eK:(K==0)=false:=by simpa using hK
   rw[eK]at x ⊢;have iO:((K:Int)==0)=false:=by simpa using hK
   have iP:decide ((K:Int)=0)=false:=by simpa using hK
   clear eK;go_enter nu,gE;go_wp2_with fail;refine HW.out.mono ?_;rintro e1 w1 ⟨rfl,rfl⟩;go_wp2_with fail;refine HC.out.mono ?_;rintro e1 F ⟨g,O,u,P,A',rfl,f,k,G⟩;have d0:F.cell? ⟨ge,0,none⟩=some (.pointer (some ⟨gg,0,none⟩)):=(f.cell (p:=⟨ge,0,none⟩) (by simp only;omega)).trans c0;have hr:=λev=>HR.out g O u P A' F f k G ev key;obtain⟨aD,K1⟩:=zq2 hr f;clear hr f k G;go_wp2_with fail;refine(aD.out _).mono ?_;rintro e1 w2 ⟨I,J⟩;rw[HX.out]at J;obtain⟨bf,di,bC,dj,A2,dm,rfl,o,L,N,y,t⟩:=J;have C:Ac (λb=>w.heap.size<=b) w w2:=K1.out.trans (I.mono (λb hb=>hb));obtain⟨ao,co,rfl⟩:∃a c,bf= .slice a r.gone.length c:=y.shape;have E:=λi=>C.cell (p:=⟨ge,i,none⟩) (by simp only;omega);obtain⟨x1,x2,x3,x4⟩:=zp4 ((E 1).trans c1) ((E 2).trans c2) ((E 3).trans c3) ((E 4).trans c4);have z:AE w2 ge 73 _:=HP.out.row.kept C (by omega);have ff:=λj=>z.frozen j;have y0:=(E 0).trans c0;have yg:=(C.cell (p:=⟨gg,0,none⟩) (by simp only;omega)).trans g0;have yp:=(C.cell (p:=⟨gp,0,none⟩) (by simp only;omega)).trans p0;have yd:=(C.cell (p:=⟨gd,m2*3,none⟩) (by simp only;omega)).trans dk;obtain⟨KK,ST,bh,bi,bj,bn,bo⟩:=zq7 C o L N y t z;clear C o L N y t I E z;go_wp2;refine AA (v:=.tuple #[.bool false,.slice ao r.gone.length co,.int .i64 0]) (by simp[results,WZ,go_sem]) rfl ?_;have d:=Y9 (e1:=⟨e.p,r.s,P9 e.n false r.gone.length⟩) (l:=r.gone) HP.out KK.out ST.out bh.out bi.out bj.out bn.out rfl x.out
    (((Ac.one w2 ⟨ge,1,none⟩ (.pointer (some ⟨g,0,none⟩))).setCell (p:=⟨ge,3,none⟩) rfl (.int .i64 (M+1))).setCell (p:=⟨ge,4,none⟩) rfl (.int .i64 (V+r.gone.length)))
    (by
     have h:=((bo.out.bF 1 (.pointer (some ⟨g,0,none⟩))).bF 3 (.int .i64 (M+1))).bF 4 (.int .i64 (V+r.gone.length));simpa[P9,HH.out,HM.out,HV.out]using h)
   exact⟨d.1,_,rfl,d.2.1,d.2.2⟩
theorem bV (c:UF B ea w) (f:JI B ea w) (h:GR S w ge e) (d:∀b,S b->b<w.heap.size) {m:Nat}(g:m<=4000000) (i:PV e.n m) (key:Int):
  Calls prog 12 #[.pointer (some ⟨ge,0,none⟩),.int .u64 key] w (gT S w ge (e.access key) e.p e):=by
 cases a:exec e.p key (CZ e.p (Ek e.s key)) ⟨e.s,[]⟩with
 |ok r=>exact wb c h d g i key a
 |error k=>
  have j:e.access key= .err k:=by unfold EX.access;simp only[a]
  rw[j];exact qN c f h d key a
end
def MR (S:Nat->Prop) (w:World) (gs:Nat) (e:EX):Prop:=
 ∃(D:Nat->Prop) (gp:Nat) (a c:Value) (d:List Value),Es (λb=>S b/\¬D b) w gs gp a c e.s e.n d/\L0 (λb=>S b/\D b) w gp e.p
section
variable {S S' T:Nat->Prop}{w w':World}{gs:Nat}{e:EX}
theorem MR.kept (h:MR S w gs e) (c:Ac T w w') (d:∀b,S b->b<w.heap.size->¬T b):MR S w' gs e:=by obtain⟨D,gp,f,g,i,j,k⟩:=h;exact⟨D,gp,f,g,i,j.kept c (λb a=>d b a.1),k.kept c (λb a=>d b a.1)⟩
theorem MR.mono (h:MR S w gs e) (d:∀b,b<w.heap.size->S b->S' b):MR S' w gs e:=by obtain⟨D,gp,f,g,i,j,k⟩:=h;exact⟨D,gp,f,g,i,j.mono (λb c a=>⟨d b c a.1,a.2⟩),k.mono (λb c a=>⟨d b c a.1,a.2⟩)⟩
theorem MR.lt (h:MR S w gs e):gs<w.heap.size/\S gs:=by obtain⟨D,gp,b,c,d,a,f⟩:=h;exact⟨a.row.lt,a.sg.1⟩
theorem GR.gi (h:GR S w gs e):Ej e.p/\GI e.p e.s:=by obtain⟨b,a⟩:=h.inv;exact⟨b,a.si,a.inv⟩
end
theorem jv (s:St) (key:Int):Ek s key=fQ (s.find key):=by
 unfold Ek fQ;cases s.find key with
 |none=>rfl
 |some x=>rfl
theorem Ac2 (n:Nat) (g:n<=1000) (W:World):(Instr.makeSlice 163 (.int .i64 (n:Int)) (.int .i64 (n:Int))).run prog W=
  .ok (.slice (some ⟨W.heap.size,0,none⟩) n n) (W.alloc (.cells (List.replicate n (Value.slice none 0 0)).toArray 236)):=by
 obtain⟨f,a,b,c,d⟩:=Bg XM;have h:=Wr (P:=prog) W 163 236 f _ underlying163 a b .i64 .i64 (n:Int) (n:Int) (by omega) (by omega) (by rw[d];omega) (by omega);rw[c,As]at h;have e:(Value.slice none 0 0).cells=#[Value.slice none 0 0]:=rfl;rw[e,GO,GA]at h;exact h
theorem oX (n:Nat) (g:n<=1000) (W:World):(Instr.makeSlice 69 (.int .i64 (n:Int)) (.int .i64 (n:Int))).run prog W=
  .ok (.slice (some ⟨W.heap.size,0,none⟩) n n) (W.alloc (.cells (List.replicate n (Value.int .i64 0)).toArray 3)):=by
 obtain⟨f,a,b,c,d⟩:=Bg LM;have h:=Wr (P:=prog) W 69 3 f _ Fa a b .i64 .i64 (n:Int) (n:Int) (by omega) (by omega) (by rw[d];omega) (by omega);rw[c,As]at h;have e:(Value.int .i64 0).cells=#[Value.int .i64 0]:=rfl;rw[e,GO,GA]at h;exact h
theorem QR.made {S:Nat->Prop}{w:World}{d:Value}{n:Nat}(h:Sl S w 236 1 d n (List.replicate n (.slice none 0 0))):QR S w d (List.replicate n []) (List.replicate n (.slice none 0 0)):=by
 refine⟨by rw[CN];exact h,by simp,?_,?_⟩
 ·intro i v l a c;rw[BK]at a c;split at a
  ·rename_i f;rw[Al f]at c;injection a with a;injection c with c;subst a c;exact Sl.hQ _ _ _ _
  ·cases a
 ·intro i j u v _ a _ b g;rw[BK]at a;split at a
  ·injection a with a;subst a;cases g
  ·cases a
def Agx (w:World) (N:Nat->Prop) (p:Ax) (y:Ending) (w':World):Prop:=
 ∃gs,y= .returned (.pointer (some ⟨gs,0,none⟩))/\Ac (λb=>w.heap.size<=b) w w'/\MR (λb=>N b\/w.heap.size<=b) w' gs (EX.new p)
section
variable {N:Nat->Prop}{w:World}{gp:Nat}{p:Ax}
theorem MR.start {w1 w':World}{gs:Nat}{d f:Value}(h:L0 N w gp p) (g:Ac (λb=>w.heap.size<=b) w w') (c:AE w' gs 165 [.pointer (some ⟨gp,0,none⟩),d,f,.int .i64 0,.int .i64 0,.int .i64 0])
  (j:Sl (λb=>w.heap.size<=b) w' 236 1 d p.decls.length (List.replicate p.decls.length (.slice none 0 0))) (l:Sl (λb=>w.heap.size<=b) w' 3 1 f p.decls.length (List.replicate p.decls.length (.int .i64 0))) (i:w.heap.size<=gs):
  MR (λb=>N b\/w.heap.size<=b) w' gs (EX.new p):=by
 refine⟨λb=>b<w.heap.size,gp,d,f,_,⟨c,QR.made (j.mono (λb a=>⟨.inr a,CJ.2 a⟩)),?_,⟨.inr i,CJ.2 i⟩⟩,(h.mono (N':=λb=>(N b\/w.heap.size<=b)/\b<w.heap.size) (λk g m=>⟨.inl m,g⟩)).kept g (λb a _=>by have:=a.2;omega)⟩;show Sl _ _ _ 1 _ (List.replicate p.decls.length (0:Int)).length ((List.replicate p.decls.length (0:Int)).map Jv);rw[CN,PQ];exact l.mono (λb a=>⟨.inr a,CJ.2 a⟩)
theorem xG (w:World) (A B C:Obj):Ac (λb=>w.heap.size<=b) w (((w.alloc A).alloc B).alloc C):=(((Ac.refl _ w).alloc (Ab _) _).alloc (by simp) _).alloc (by simp;omega) _
theorem oH (w:World) (A B:Obj) (t:TypeId) (cs:List Value):AE (((w.alloc A).alloc B).alloc (.cells cs.toArray t)) (w.heap.size+1+1) t cs:=by have a:=AE.new ((w.alloc A).alloc B) t cs;simp only[Ib]at a;exact a
theorem xE (w:World) (t:TypeId) (n:Nat) (a:n<=1000) (x:Value) (B C:Obj):Sl (λb=>w.heap.size<=b) (((w.alloc (.cells (List.replicate n x).toArray t)).alloc B).alloc C) t 1 (.slice (some ⟨w.heap.size,0,none⟩) n n) n (List.replicate n x):=
 ((Sl.made (Ab _) (by unfold maxLen;omega)).alloc _).alloc _
theorem xD (w:World) (t:TypeId) (n:Nat) (a:n<=1000) (x:Value) (A C:Obj):Sl (λb=>w.heap.size<=b) (((w.alloc A).alloc (.cells (List.replicate n x).toArray t)).alloc C) t 1 (.slice (some ⟨w.heap.size+1,0,none⟩) n n) n (List.replicate n x):=by have h:=(Sl.made (N:=λb=>w.heap.size<=b) (w:=w.alloc A) (t:=t) (n:=n) (x:=x) (by simp) (by unfold maxLen;omega)).alloc C;simp only[Ib]at h;exact h
theorem oI (h:L0 N w gp p) (b:Ej p):Calls prog 96 #[.pointer (some ⟨gp,0,none⟩)] w (Agx w N p):=by
 obtain⟨i,j,k,l,m,n,a,c,_⟩:=id h;have o:=b.decls.len;have q:=Ac2 p.decls.length (by omega);have r:=oX p.decls.length (by omega);obtain⟨s,t,rfl⟩:=c.bz;have f:=a.cell 0;have u:=a.lt;simp at f;have H:=Aa h;generalize d:p.decls.length=L at*;have g:=Aa d;clear h b a c d;go_enter func96,ntmps96;go_wp2;go_region
 all_goals
  go_wp2;go_ret;have e:=g.out;subst e;refine⟨_,rfl,(xG _ _ _ _).drew,MR.start (w1:=w) H.out (xG _ _ _ _).drew (oH _ _ _ _ _).drew ?_ ?_ (by omega)⟩
  ·first|exact xE _ _ _ (by omega) _ _ _|exact xD _ _ _ (by omega) _ _ _
  ·first|exact xD _ _ _ (by omega) _ _ _|exact xE _ _ _ (by omega) _ _ _
end
theorem iZ (l:List Bi) (nm:Ah):find l nm= -1\/∃k:Nat,find l nm=(k:Int)/\k<l.length:=by
 unfold find;rcases Js nm l 0 with h|⟨i,d,a,_,b⟩
 ·exact .inl h
 ·exact .inr ⟨i,by rw[b];simp,(Aj.1 a).1⟩
section
variable {S:Nat->Prop}{w:World}{gs:Nat}{e:EX}
def rK (S:Nat->Prop) (w:World) (gs:Nat) (x:Bool×EX) (y:Ending) (w':World):Prop:=
 y= .returned (.bool x.1)/\Ac (λb=>S b\/w.heap.size<=b) w w'/\MR (λb=>S b\/w.heap.size<=b) w' gs x.2
theorem ab (h:MR S w gs e) (N:Ej e.p) (E:GI e.p e.s) (key:Int):Calls prog 62 #[.pointer (some ⟨gs,0,none⟩),.int .u64 key] w (rK S w gs (e.remove key)):=by
 obtain⟨D,gp,J,K,O,u,m⟩:=h;have z:=E.wi.qb N;have f:=Nw u z key;have j:Es (λb=>(S b/\¬D b)/\b<w.heap.size) w gs gp J K e.s e.n O:=u.mono (λb a P=>⟨P,a⟩);have c:L0 (λb=>(S b/\D b)/\b<w.heap.size) w gp e.p:=m.mono (λb a P=>⟨P,a⟩);have r:∀W,Ac (λb=>w.heap.size<=b) w W->∀(k i:Nat) l,e.s.q[k]?=some l->i<l.length->Calls prog 103 #[.pointer (some ⟨gs,0,none⟩),.int .i64 k,.int .i64 i] W (λy w'=>(∃v,y= .returned v)/\Ac (λb=>S b\/w.heap.size<=b) w w'/\MR (λb=>S b\/w.heap.size<=b) w' gs {e with s:=e.s.out k i}):=by intro W G k i l L M;have X:Es (λb=>((S b/\¬D b)/\b<w.heap.size)\/w.heap.size<=b) W gs gp J K e.s e.n O:=(j.kept G (λb a _=>by have:=a.2;omega)).mono (λb _ a=>.inl a);refine(U7 X (λb a=>.inr (Ad G.size a)) z L M).mono ?_;rintro y w' ⟨Y,T,Q,Z⟩;refine⟨⟨_,Y⟩,(G.mono (λb a=>.inr a)).trans (T.mono (λb a=>a.elim (λx=>.inl x.1.1) .inr)),λb=>D b/\b<w.heap.size,gp,J,K,Q,Z.mono (λb _ a=>a.elim (λx=>⟨.inl x.1.1,λy=>x.1.2 y.1⟩) (λx=>⟨.inr x,λy=>by have:=y.2;omega⟩)),?_⟩;exact((c.kept G (λb a _=>by have:=a.2;omega)).kept T (λb a _ hh=>hh.elim (λx=>x.1.2 a.1.2) (λx=>by have:=a.2;omega))).mono (λb _ a=>⟨.inl a.1.1,a.1.2,a.2⟩)
 have d:e.remove key=(match e.s.find key with|some (k,i)=>(true,{e with s:=e.s.out k i})|none=>(false,e)):=rfl;have g:∀W,Ac (λb=>w.heap.size<=b) w W->MR (λb=>S b\/w.heap.size<=b) W gs e:=λW G=>⟨D,gp,J,K,O,(j.kept G (λb a _=>by have:=a.2;omega)).mono (λb _ a=>⟨.inl a.1.1,a.1.2⟩),(c.kept G (λb a _=>by have:=a.2;omega)).mono (λb _ a=>⟨.inl a.1.1,a.1.2⟩)⟩;generalize e.remove key=o at*;obtain⟨A,HO,B,R⟩:=zq4 f r d g;cases H:e.s.find key with
 |none=>
  rw[H]at f d;simp only at d;obtain⟨A,B⟩:=zq2 f d;clear f d r u j m c g H z N E;go_enter func62,ntmps62;go_wp2_with fail;refine A.out.mono ?_;rintro y w1 ⟨rfl,t⟩;have C:=Aa t;clear t;unfold FC fQ fI;go_wp2;go_ret;rw[B.out];exact⟨rfl,C.out.mono (λb a=>.inr a),R.out _ C.out⟩
 |some ki=>
  obtain⟨k,i⟩:=ki;obtain⟨l,en,L,M,_⟩:=Ld H;rw[H]at f d;simp only at d;obtain⟨A,B,U⟩:=zq3 f d (And.intro L (Aj.1 M).1);clear f d r u j m c g H z N E L M;go_enter func62,ntmps62;go_wp2_with fail;refine A.out.mono ?_;rintro y w1 ⟨rfl,t⟩;have C:=Aa t;clear t;unfold FC fQ fI;go_wp2_with fail;refine(HO.out _ C.out k i l U.out.1 U.out.2).mono ?_;rintro y w2 ⟨⟨v,rfl⟩,I,V⟩;have F:=Aa (And.intro I V);clear I V;go_wp2;go_ret;rw[B.out];exact⟨rfl,F.out.1,F.out.2⟩
def Agv (w:World) (o:Option Int) (y:Ending) (w':World):Prop:=Ac (λb=>w.heap.size<=b) w w'/\y= .returned (match o with|none=>.tuple #[.int .i64 0,.bool false]|some n=>.tuple #[.int .i64 n,.bool true])
theorem oy (h:MR S w gs e) (t:Ej e.p) (j:GI e.p e.s) (nm:Ah):Calls prog 65 #[.pointer (some ⟨gs,0,none⟩),vs nm] w (Agv w (e.value nm)):=by
 obtain⟨D,gp,vq,vv,vl,d,f⟩:=h;have A:=d.row.cell 0;have c2:=d.row.cell 2;have L:=d.row.lt;simp at A c2;obtain⟨P,vr,vh,vm,hs,rs,m,B,_⟩:=id f;have b:=Po nm gp e.p.decls P w B (by have:=t.decls.len;omega) m.lt (m.cell 0);have Q:=m.lt;have a:e.value nm=(if find e.p.decls nm<0\/(Aq e.p.decls (find e.p.decls nm)).kind≠2 then none else some (e.s.var (find e.p.decls nm))):=rfl;generalize e.value nm=o at*;obtain⟨u,n⟩:=zq2 b a;rcases iZ e.p.decls nm with q|⟨k,q,i⟩
 ·rw[q]at a b;rw[Al (.inl (by omega))]at a;obtain⟨u,n⟩:=zq2 b a;clear d f m B t j q a b;go_enter func65,ntmps65;go_wp2_with fail;refine u.out.mono ?_;rintro y w1 ⟨rfl,c⟩;have g:=Aa c;clear c;go_wp2;go_ret2;rw[n.out];exact⟨Ac.cY g.out (λk i=>i),rfl⟩
 ·rw[q]at a b;obtain⟨F,R,T,f1,U,W,f4,G,M,N⟩:=f.decl i;have x:k<e.s.vars.length:=by rw[j.1.v];exact i
  obtain⟨H,X,rfl,_,v1,Y,Z⟩:=d.v.form (by omega);have C:=d.v.1.cellAt k (by simpa using x);have I:(e.s.vars.map Jv)[k]?=some (.int .i64 (e.s.var (k:Int))):=by unfold St.var;rw[As,At,Ae x];rfl
  rw[I]at C;have aD:(Aq e.p.decls (k:Int)).kind<=2:=by
   have J:Aq e.p.decls (k:Int)∈e.p.decls:=by unfold Aq;rw[As,Ae i];exact Ed i
   exact(t.decls.each _ J).kind
  have u:=Aa b;unfold maxLen at U Y;generalize (Aq e.p.decls (k:Int)).kind=kd at*;generalize e.s.var (k:Int)=V at*;generalize e.s.vars.length=z at*;generalize e.p.decls.length=dl at*;have l:∀w1,Below w.heap.size w w1->w1.cell? ⟨gs,0,none⟩=some (.pointer (some ⟨gp,0,none⟩))/\w1.cell? ⟨gs,2,none⟩=some (.slice (some ⟨H,0,none⟩) z X)/\w1.cell? ⟨gp,0,none⟩=some (.slice (some ⟨F,0,none⟩) dl R)/\w1.cell? ⟨F,k*3,none⟩=some (vs (B5 kd))/\w1.cell? ⟨H,k,none⟩=some (.int .i64 V):=λw1 l=>
   ⟨(l.cell (p:=⟨gs,0,none⟩) L).trans A,(l.cell (p:=⟨gs,2,none⟩) L).trans c2,(l.cell (p:=⟨gp,0,none⟩) Q).trans T,(l.cell (p:=⟨F,k*3,none⟩) W).trans G,(l.cell (p:=⟨H,k,none⟩) Z).trans C⟩
  have O:=Aa l;by_cases K:kd=2
  ·subst K;rw[Ai (by rintro(h|h);omega;exact h rfl)]at a;have n:=Aa a;clear d f m B t j q a b G M N C I l;go_enter func65,ntmps65;go_wp2_with fail;refine u.out.mono ?_;rintro y w1 ⟨rfl,c⟩;obtain⟨A,c2,d0,r,d2⟩:=O.out w1 c;have g:=Aa c;clear c;unfold B5 at r;rw[Al rfl]at r;unfold vs at r;go_wp2;go_ret2;rw[n.out];exact⟨Ac.cY g.out (λk i=>i),rfl⟩
  ·rw[Al (.inr K)]at a;have n:=Aa a;have E:B5 kd=Ge\/B5 kd=EK:=by unfold B5;rw[Ai K];split;exact .inl rfl;exact .inr rfl
   clear d f m B t j q a b G M N C I l;rcases E with E|E
   all_goals
    go_enter func65,ntmps65;go_wp2_with fail;refine u.out.mono ?_;rintro y w1 ⟨rfl,c⟩;obtain⟨A,c2,d0,r,d2⟩:=O.out w1 c;have g:=Aa c;clear c;rw[E]at r;unfold vs at r;go_wp2;go_ret2;rw[n.out];exact⟨Ac.cY g.out (λk i=>i),rfl⟩
end
def cQ (S:Nat->Prop) (w:World) (gs:Nat) (r:Ans) (a:EX) (y:Ending) (w':World):Prop:=
 Ac (λb=>b=gs\/w.heap.size<=b) w w'/\match r with
  | .err k=>y= .returned (.tuple #[.bool false,.slice none 0 0,.int .i64 k])/\MR S w' gs a
  | .ok hit gone e1=>∃v,y= .returned (.tuple #[.bool hit,v,.int .i64 0])/\Sl (λb=>w.heap.size<=b) w' 32 1 v gone.length (gone.map Kp)/\MR (λb=>S b\/w.heap.size<=b) w' gs e1
section
variable {S D:Nat->Prop}{w w4 wf:World}{gs gp gr aD:Nat}{vq vv bf bg ba:Value}{vl be:List Value}{e e1:EX}{c:J9}{key:Int}{r1:DN}
theorem MR.acc (d:Es (λb=>S b/\¬D b) w gs gp vq vv e.s e.n vl) (g:L0 (λb=>S b/\D b) w gp e.p) (h:Ac (λb=>w.heap.size<=b) w w4) (i:Dx w.heap.size w4 gr aD gp bf bg ba be e.p c key r1 0) (o:e1.p=e.p) (j:e1.s=r1.s)
  (k:Ac (λb=>b=gs) w4 wf) (l:AE wf gs 165 [.pointer (some ⟨gp,0,none⟩),bf,bg,.int .i64 e1.n.ft,.int .i64 e1.n.dA,.int .i64 e1.n.cD]):
  Ac (λb=>b=gs\/w.heap.size<=b) w wf/\Sl (λb=>w.heap.size<=b) wf 32 1 ba r1.gone.length (r1.gone.map Kp)/\MR (λb=>S b\/w.heap.size<=b) wf gs e1:=by
 have r:=d.row.lt;have f:L0 (λb=>(S b/\D b)/\b<w.heap.size) w gp e.p:=g.mono (λb a t=>⟨t,a⟩);refine⟨(h.mono (λb a=>.inr a)).trans (k.mono (λb a=>.inl a)),i.gone.kept k (λb a e=>by have:=i.gone.2 b a;simp only at this;omega),λb=>D b/\b<w.heap.size,gp,bf,bg,be,⟨l,?_,?_,⟨.inl d.sg.1,λy=>d.sg.2 y.1⟩⟩,?_⟩
 ·rw[j];exact(i.st.q.kept k (λb a _ e=>by omega)).mono (λb _ a=>⟨.inr a,λy=>by have:=y.2;omega⟩)
 ·rw[j];exact(i.st.v.kept k (λb a e=>by have:=i.st.v.2 b a;simp only at this;omega)).mono (λb a=>⟨.inr a,λy=>by have:=y.2;omega⟩)
 ·rw[o];exact((f.kept h (λb a _=>by have:=a.2;omega)).kept k (λb a _ e=>d.sg.2 (e▸a.1.2))).mono (λb _ a=>⟨.inl a.1.1,a.1.2,a.2⟩)
end
theorem cQ.of {S D:Nat->Prop}{w w4 wf:World}{gs gp gr aD:Nat}{vq vv bf bg ba:Value}{vl be:List Value}{e e1:EX}{c:J9}{key:Int}{r1:DN}{hit:Bool}(g:Es (λb=>S b/\¬D b) w gs gp vq vv e.s e.n vl) (d:L0 (λb=>S b/\D b) w gp e.p) (h:Ac (λb=>w.heap.size<=b) w w4) (k:Dx w.heap.size w4 gr aD gp bf bg ba be e.p c key r1 0) (i:e1.p=e.p) (j:e1.s=r1.s)
  (l:Ac (λb=>b=gs) w4 wf) (f:AE wf gs 165 [.pointer (some ⟨gp,0,none⟩),bf,bg,.int .i64 e1.n.ft,.int .i64 e1.n.dA,.int .i64 e1.n.cD]):
  cQ S w gs (.ok hit r1.gone e1) e (.returned (.tuple #[.bool hit,ba,.int .i64 0])) wf:=by
 have a:=MR.acc g d h k i j l f;exact⟨a.1,_,rfl,a.2.1,a.2.2⟩
theorem xF (w:World) (g i j k l:Nat) (a b c d:Value):Ac (λx=>x=g) w ((((w.setCell ⟨g,i,none⟩ a).setCell ⟨g,j,none⟩ b).setCell ⟨g,k,none⟩ c).setCell ⟨g,l,none⟩ d):=
 Ac.setCell (S:=λx=>x=g) (Ac.setCell (S:=λx=>x=g) (Ac.setCell (S:=λx=>x=g) (Ac.one w ⟨g,i,none⟩ _) (p:=⟨g,j,none⟩) rfl _) (p:=⟨g,k,none⟩) rfl _) (p:=⟨g,l,none⟩) rfl _
theorem dW {p:Ax}(a:Ej p) (k:Int):D9 p.decls (CZ p k)/\(CZ p k).Form/\(CZ p k).bq<=1750000:=by
 unfold CZ;cases d:Bj p.rules k with
 |none=>exact⟨trivial,trivial,AQ _⟩
 |some b=>
  have f:=a.rules.each _ (Kk d);exact⟨f.w,f.form,SR a d⟩
section
variable {S:Nat->Prop}{w:World}{gs:Nat}{e:EX}{m:Nat}
theorem oM (h:MR S w gs e) (hp:Ej e.p) (B:GI e.p e.s) (hc:PV e.n m) (hm:m<=4000000) (key:Int):Calls prog 59 #[.pointer (some ⟨gs,0,none⟩),.int .u64 key] w (cQ S w gs (e.access key) e):=by
 obtain⟨D,gp,vq,vv,vl,C,E⟩:=h;have c0:=C.row.cell 0;have rl:=C.row.lt;simp at c0;have bj:=B.wi.qb hp;have bn:=Nw C bj key;have bo:Ek e.s key= -1\/Ix e.p.decls.length (Ek e.s key):=Ns B.1 key;have L:e.access key=(match exec e.p key (CZ e.p (Ek e.s key)) ⟨e.s,[]⟩with
  | .error n=>.err n
  | .ok r=>.ok (AW e.p.decls (Ek e.s key)) r.gone {e with s:=r.s,n:=⟨e.n.ft+(if AW e.p.decls (Ek e.s key)then 1 else 0),e.n.dA+(if AW e.p.decls (Ek e.s key)then 0 else 1),e.n.cD+r.gone.length⟩}):=rfl
 obtain⟨vd,vr,vh,vm,hs,rs,p1,p2,p3,p4,p5,am,nm,cm,dy⟩:=id E;subst dy;have bp:=p1.cell 2;have bq:=p1.cell 4;have pl:=p1.lt;simp at bp bq;have F:Cs (λb=>S b/\D b) w (.slice am nm cm) (CZ e.p (-1)):=p4.vm;have G:∀k:Nat,k<e.p.decls.length->∃o cr a n c,vr= .slice (some ⟨o,0,none⟩) e.p.decls.length cr/\e.p.decls.length<=cr/\cr<=9223372036854775807/\o<w.heap.size/\w.cell? ⟨o,k,none⟩=some (.slice a n c)/\Cs (λb=>S b/\D b) w (.slice a n c) (CZ e.p (k:Int)):=by intro k hk;obtain⟨v,hv,g⟩:=p4.rs k hk;obtain⟨a,n,c,rfl⟩:=p3.shape v (Aw hv);obtain⟨o,cr,rfl,_,r1,r2,r3⟩:=p3.ky.form (by omega);have hc:=p3.ky.1.cellAt k (by omega);rw[hv]at hc;unfold maxLen at r2;exact⟨o,cr,a,n,c,rfl,r1,r2,r3,hc,g⟩
 obtain⟨bt,bu,bx⟩:=dW hp (Ek e.s key);have bC:=jv e.s key;generalize e.access key=fp at*;generalize dB:Ek e.s key=qv at*;obtain⟨H,i,HP,R,HC,eg,bE,t⟩:=zq8 C E hp B hc bn bo L;obtain⟨T,U,V,eF⟩:=zq4 F G (And.intro bt (And.intro bu bx)) bC;have bG:e.s.vars.length<=1000:=by rw[B.1.v];have:=hp.decls.len;omega
 clear C E hp B hc bn bo L F G bt bu bx bC bj p1 p2 p3 p4 p5 dB;go_enter func59,ntmps59;go_wp2_with fail;refine eg.out.mono ?_;rintro y w1 ⟨rfl,u⟩;have d0:=(u.cell (p:=⟨gs,0,none⟩) (by simp only;omega)).trans c0;have d2:=(u.cell (p:=⟨gp,2,none⟩) (by simp only;omega)).trans bp;have d4:=(u.cell (p:=⟨gp,4,none⟩) (by simp only;omega)).trans bq;have zl:=u.size;have W:=Aa u;clear u;unfold FC;rw[←eF.out];generalize fI (e.s.find key)=iv at*;go_upto_if 26 with fail;go_cut [9] (λs9 wx=>Ac (λb=>w.heap.size<=b) w wx/\∃a n c,s9= .slice a n c/\Cs (λb=>S b/\D b) w (.slice a n c) (CZ e.p qv))
 case first=>
  rcases bE.out with hq|hq
  ·subst hq;go_wp2;go_meet;exact⟨W.out,_,_,_,rfl,T.out⟩
  ·obtain⟨k,rfl,eG⟩:=OO hq;obtain⟨o,cr,a,n,c,rfl,r1,r2,r3,r4,g⟩:=U.out k eG;have d5:=(W.out.cell (p:=⟨o,k,none⟩) (by simp only;omega)).trans r4;have eR:=Aa g;clear g hq;go_wp2;go_meet;exact⟨W.out,_,_,_,rfl,eR.out⟩
 obtain⟨k1,a9,n9,c9,rfl,bH⟩:=hcut;have M:=H.out.kept k1 (λb _ g Y=>by omega);have bI:=aA M (R.out.wi.qb HP.out) bG;obtain⟨eT,K1,eV⟩:=zq3 bI k1 bH;clear M bI k1 bH;go_wp2_with fail;refine eT.out.mono ?_;rintro y A ⟨aD,cy,cz,cL,rfl,cW,cX⟩;have Z:Ac (λb=>w.heap.size<=b) w A:=K1.out.trans (cW.mono (λb g=>Ad K1.out.size g));have K3:Ac (λb=>w.heap.size<=b) w (A.alloc (.cells #[.pointer (some ⟨aD,0,none⟩),.int .u64 key,.slice none 0 0,.int .i64 0] 231)):=Z.alloc Z.size _;have ka:Ac (λb=>A.heap.size<=b) A (A.alloc (.cells #[.pointer (some ⟨aD,0,none⟩),.int .u64 key,.slice none 0 0,.int .i64 0] 231)):=(Ac.refl _ A).alloc (Ab _) _;have N:Dx w.heap.size (A.alloc (.cells #[.pointer (some ⟨aD,0,none⟩),.int .u64 key,.slice none 0 0,.int .i64 0] 231)) A.heap.size aD gp cy cz (.slice none 0 0) cL e.p e.n key ⟨e.s,[]⟩ 0:=
  ⟨AE.new A _ _,(cX.mono (λb _ g=>Ad K1.out.size g)).later ka,Sl.hQ _ _ _ _,(i.out.mono (N':=λb=>b<w.heap.size) (λb g _=>g)).kept K3 (λb g _ Y=>by omega),Z.size,Ad Z.size ka.size,HP.out,R.out.wi⟩
 have O:=(aa (CZ e.p qv).size).2 w.heap.size (λ_=>False) _ A.heap.size aD gp cy cz (.slice none 0 0) cL e.p e.n key ⟨e.s,[]⟩ (CZ e.p qv) (.slice a9 n9 c9) N (EM.none _) R.out (Ab _) V.out.1 V.out.2.1
  (Cs.kept (Cs.mono eV.out (λk hk _=>hk)) (λk cs hk _=>K3.block k (λY=>by have h3:k<w.heap.size:=hk;omega))) (by have:=V.out.2.2;show 0+_<=_;omega)
 obtain⟨X,cY⟩:=zq2 O K3;have hI:=Z.size;clear cW cX Z K3 ka N O;go_wp2_with fail;refine X.out.mono ?_;intro y w4 h4;obtain rfl:=h4.ends;generalize hx:exec e.p key (CZ e.p qv) ⟨e.s,[]⟩=x at*;cases x with
 |error k=>
  obtain⟨r1,_,I,bf,bg,ba,be,f⟩:=h4;have hU:=RU hx;have z:=t.out;simp only at z;have f3:=f.row.cell 3;have fl:=f.row.lt;simp at f3;have e1:((k:Int)==0)=false:=by simp;omega
  have e2:decide ((k:Int)=0)=false:=by simp;omega
  obtain⟨HA,eZ⟩:=zq2 z I;clear I f z hx t X;go_wp2;go_region
  all_goals
   go_wp2
   go_ret3
   rw[HA.out];have l:Ac (λb=>w.heap.size<=b) w w4:=cY.out.trans (eZ.out.mono (λb g=>g.1));refine⟨(l.mono (λb g=>.inr g)).drew,rfl,?_⟩;exact⟨D,gp,vq,vv,vl,(H.out.kept l (λb _ g Y=>by omega)).kept ((Ac.refl (λ_=>False) _).drew) (λb _ _ h=>h),(i.out.kept l (λb _ g Y=>by omega)).kept ((Ac.refl (λ_=>False) _).drew) (λb _ _ h=>h)⟩
 |ok r1=>
  obtain⟨_,I,bf,bg,ba,be,f⟩:=h4;have z:=t.out;simp only at z;have hZ:r1.gone.length<=1750000:=Tc HP.out hx;have l:Ac (λb=>w.heap.size<=b) w w4:=cY.out.trans (I.mono (λb g=>g.1));obtain⟨f0,f2,f3,fl,s1,s2,sl⟩:=zp7 (f.row.cell 0) (f.row.cell 2) (f.row.cell 3) f.row.lt (f.st.row.cell 1) (f.st.row.cell 2) f.st.row.lt;have sg:w.heap.size<=aD:=f.st.sg;have J:=H.out.kept l (λb _ g Y=>by omega);have K:=i.out.kept l (λb _ g Y=>by omega);have P:=MD J K HP.out.decls bE.out;have d:=J.row;obtain⟨t1,t2,t3,t4,t5⟩:=zp5 (d.cell 1) (d.cell 2) (d.cell 3) (d.cell 4) (d.cell 5);have tf:=λj=>d.frozen j;have tl:=d.lt;simp at f0 f2 f3 s1 s2 t1 t2 t3 t4 t5;have n1:¬gs=aD:=by omega
  have n2:¬gs=A.heap.size:=by omega
  obtain⟨q1,q2,q3,q4,q5,q6⟩:=HC.out;have q6:e.n.cD<=7000000000000:=by omega
  have q2:e.n.ft<=4000000:=by omega
  have q4:e.n.dA<=4000000:=by omega
  obtain⟨ag,cg,rfl⟩:=f.gone.bz;obtain⟨iQ,iR,rfl⟩:=f.st.q.outer.bz;obtain⟨iS,iT,rfl⟩:=f.st.v.bz;obtain⟨HA,cZ,da,db,Q⟩:=zq5 z P f l d;generalize AW e.p.decls qv=hit at*;clear I f z hx t X l J K P d;go_wp2_with fail;refine cZ.out.mono ?_;rintro y w5 ⟨rfl,rfl⟩;have o1:wrap64 (e.n.ft+1)=e.n.ft+1:=by unfold wrap64;omega
  have o2:wrap64 (e.n.dA+1)=e.n.dA+1:=by unfold wrap64;omega
  have o3:wrap64 (e.n.cD+(r1.gone.length:Int))=e.n.cD+(r1.gone.length:Int):=by unfold wrap64;omega
  have n3:¬aD=gs:=by omega
  have n4:¬A.heap.size=gs:=by omega
  cases hit with
  |true=>
   go_wp2
   (refine Ds 14 (by kernel_rfl) (by kernel_rfl) ?_;simp only[Au,AH,Av,AJ];repeat still_step);refine BS ?_
   go_wp2;go_region
   all_goals
    go_wp2
    go_ret3
    have z:=HA.out;simp only[A6,Int.add_zero,Ap,A8]at z;rw[z];refine cQ.of H.out i.out db.out da.out rfl rfl ?_ ?_
    ·exact(xF w5 gs 1 2 3 5 _ _ _ _).drew.drew
    ·exact((((Q.out.bF 1 _).bF 2 _).bF 3 _).bF 5 _)
  |false=>
   go_wp2
   (refine Ds 14 (by kernel_rfl) (by kernel_rfl) ?_;simp only[Au,AH,Av,AJ];repeat still_step);refine BS ?_
   go_wp2;go_region
   all_goals
    go_wp2
    go_ret3
    have z:=HA.out;simp only[A6,Int.add_zero,Ap,A8]at z;rw[z];refine cQ.of H.out i.out db.out da.out rfl rfl ?_ ?_
    ·exact(xF w5 gs 1 2 4 5 _ _ _ _).drew.drew
    ·exact((((Q.out.bF 1 _).bF 2 _).bF 4 _).bF 5 _)
end
section
variable {S:Nat->Prop}{w:World}{ge:Nat}{e:EX}
theorem GR.nM (h:GR S w ge e):S ge:=by obtain⟨c,gs,d,gp,f,g,a,i,b,j,A,k,h⟩:=h;exact h.se.1
theorem GR.shrink (h:GR S w ge e):GR (λb=>S b/\b<w.heap.size) w ge e:=by
 obtain⟨i,gs,j,gp,l,m,c,n,d,o,A,p,h⟩:=h;obtain⟨q,r,s,f,t⟩:=h.ar;exact⟨i,gs,j,gp,l,m,c,n,d,(λb=>o b/\b<w.heap.size),A,p,h.row,h.prog.mono (λb a g=>⟨⟨g.1,a⟩,λk=>g.2 k.1⟩),h.bg,
  h.vars.shrink.mono (λb a=>⟨⟨a.1.1,a.2⟩,λk=>a.1.2 k.1⟩),⟨q,r,s,f,t.shrink⟩,h.inv,h.si,h.pw,h.mJ,λb a=>⟨h.sa b a.1,a.2⟩,⟨⟨h.se.1,h.row.lt⟩,λk=>h.se.2 k.1⟩,⟨⟨h.ss.1,h.bg.lt⟩,λk=>h.ss.2 k.1⟩⟩
def rJ (S:Nat->Prop) (w:World) (ge:Nat) (b:Bool) (e1:EX) (e:Ending) (w':World):Prop:=
 e= .returned (.bool b)/\Ac (λb=>S b\/w.heap.size<=b) w w'/\GR (λb=>S b\/w.heap.size<=b) w' ge e1
theorem pK {A:Am}{i:List (List Nat)}{s:St}(h:CD A i s.q) (key:Int):(A.idx key).isSome=(s.find key).isSome:=by
 have f:s.find key=(⟨s.q,s.vars⟩:St).find key:=rfl;rw[f];cases g:A.idx key with
 |none=>rw[h.fP g s.vars];rfl
 |some n=>
  obtain⟨k,l1,l2,a,b,c,d⟩:=h.eY g s.vars
  first
   |(rw[b];rfl)
   |(rw[c];rfl)
   |(rw[d];rfl)
theorem bQ (N:GR S w ge e) (key:Int):Calls prog 15 #[.pointer (some ⟨ge,0,none⟩),.int .u64 key] w (rJ S w ge (e.remove key).1 (e.remove key).2):=by
 obtain⟨O,gs,P,gp,Q,R,j,T,y,o,A,I,h⟩:=N;obtain⟨vl,vf,vq,z,J⟩:=h.ar;have l:=Qh h.inv key;have f:=pK h.inv key;have g:=au (c:=e.n) h.pw ⟨h.si,h.mJ,A,I,h.inv⟩ key;have i:=Pp (J.mono (S':=λb=>o b\/w.heap.size<=b) (λb a=>.inl a)) (λk u=>.inr u) h.inv.ok (by have:=h.inv.q8;omega) key l.1;have U:=h.row.cell 1;have V:=h.bg.cell 0;obtain⟨W,B,X,C,Y⟩:=zq5 i l f g h;clear i l f g h J;simp at U V;go_enter func15,ntmps15;go_wp2_with fail;refine W.out.mono ?_;rintro e1 w1 ⟨rfl,u,D,E,F,r⟩;obtain⟨t,Z⟩:=zq2 u r;clear u r;go_wp2;go_ret;have h:=Y.out;have d:∀b,b<w.heap.size->¬o b->¬(o b\/w.heap.size<=b):=λb h1 h2 h3=>h3.elim h2 (λh4=>by omega);have G:(e.remove key).1=(e.s.find key).isSome:=by
  unfold EX.remove;cases e.s.find key with
  |none=>rfl
  |some x=>rfl
 have hv:(e.remove key).2.s.vars=e.s.vars:=by
  unfold EX.remove;cases e.s.find key with
  |none=>rfl
  |some x=>rfl
 have v:(e.remove key).2.p=e.p:=C.out.2.1;have hn:(e.remove key).2.n=e.n:=C.out.2.2.1;have K:SF e.p (e.remove key).2.s:=C.out.2.2.2.1;obtain⟨m,H⟩:∃m,CD (A.out key) m (e.remove key).2.s.q:=by
  have:=B.out.2.2.2;unfold EX.remove;cases L:e.s.find key with
  |none=>rw[L]at this;exact⟨I,by rw[this.1];exact h.inv⟩
  |some x=>rw[L]at this;exact this.1
 refine⟨by rw[G,←X.out];rfl,t.out.mono (λb a=>a.elim (λk=>.inl (h.sa b k)) .inr),O,gs,P,gp,Q,R,j,T,y,(λb=>o b\/w.heap.size<=b),A.out key,m,?_,?_,?_,?_,⟨D,E,F,z,Z.out⟩,H,by rw[v];exact K.si,by rw[v];exact h.pw,by rw[v];exact K.mJ,λb a=>a.elim (λk=>.inl (h.sa b k)) .inr,⟨.inl h.se.1,d _ h.row.lt h.se.2⟩,⟨.inl h.ss.1,d _ h.bg.lt h.ss.2⟩⟩
 ·rw[hn];exact h.row.kept t.out (d _ h.row.lt h.se.2)
 ·rw[v];exact(h.prog.mono (S':=λb=>(S b\/w.heap.size<=b)/\¬(o b\/w.heap.size<=b)) (λb a M=>⟨.inl M.1,d b a M.2⟩)).kept t.out (λb a _=>a.2)
 ·exact h.bg.kept t.out (d _ h.bg.lt h.ss.2)
 ·rw[hv];exact⟨(h.vars.kept t.out (λb a=>d b (h.vars.lt a) (h.vars.2 b a).2)).1,λb a=>⟨.inl (h.vars.2 b a).1,d b (h.vars.lt a) (h.vars.2 b a).2⟩⟩
end
def Ng (p:Nat×Nat):List Value:=[.pointer (some ⟨p.1,0,none⟩),.pointer (some ⟨p.2,0,none⟩)]
def JR (i:Nat):Value:=.int .u64 (9223372036854775808+(i:Int))
structure LW (K:Nat->Prop) (w0 w:World) (gw:Nat) (o:Nat->Nat) (E:List EX) (ps:List (Nat×Nat)) (aD ba:Value) (vl:List Value) (m:Nat):Prop where
 row:AE w gw 92 [aD,ba,.bool false]
 es:Sl (λb=>o b=0/\w0.heap.size<=b) w 160 2 aD ps.length (ps.flatMap Ng)
 ls:Sl (λb=>o b=0/\w0.heap.size<=b) w 22 1 ba vl.length vl
 lists:∀(i:Nat) v,vl[i]?=some v->∃n,n<=2000000/\Sl (λb=>o b=1/\w0.heap.size<=b) w 32 1 v n (List.replicate n (JR i))
 len:ps.length=E.length
 qg:∀(i:Nat) e p,K i->E[i]?=some e->ps[i]?=some p->GR (λb=>(o b=3+2*i/\w0.heap.size<=b)/\b<w.heap.size) w p.1 e/\MR (λb=>(o b=4+2*i/\w0.heap.size<=b)/\b<w.heap.size) w p.2 e/\PV e.n m
 kept:Ac (λb=>w0.heap.size<=b) w0 w
 gw:o gw=0/\w0.heap.size<=gw
 nl:vl.length<=m
 ne:E.length<=m
section
variable {K K':Nat->Prop}{w0 w w':World}{gw:Nat}{o o':Nat->Nat}{E:List EX}{ps:List (Nat×Nat)}{aD ba:Value}{vl:List Value}{m:Nat}
theorem LW.move (h:LW K w0 w gw o E ps aD ba vl m) {T:Nat->Prop}(f:Ac T w w') (l:∀b,b<w.heap.size->o' b=o b) (g:∀b,T b->b<w.heap.size->w0.heap.size<=b/\o b≠0/\o b≠1/\∀j,K' j->o b≠3+2*j/\o b≠4+2*j) (s:∀j,K' j->K j):
  LW K' w0 w' gw o' E ps aD ba vl m:=by
 have t:=h.kept.size;refine⟨h.row.kept f (λc=>(g gw c h.row.lt).2.1 h.gw.1),?_,?_,?_,h.len,?_,?_,⟨(l gw h.row.lt).trans h.gw.1,h.gw.2⟩,h.nl,h.ne⟩
 ·refine⟨(h.es.kept f (λb a c=>(g b c (h.es.lt a)).2.1 (h.es.2 b a).1)).1,λb a=>⟨(l b (h.es.lt a)).trans (h.es.2 b a).1,(h.es.2 b a).2⟩⟩
 ·refine⟨(h.ls.kept f (λb a c=>(g b c (h.ls.lt a)).2.1 (h.ls.2 b a).1)).1,λb a=>⟨(l b (h.ls.lt a)).trans (h.ls.2 b a).1,(h.ls.2 b a).2⟩⟩
 ·intro i v u;obtain⟨n,x,q⟩:=h.lists i v u;exact⟨n,x,(q.kept f (λb a c=>(g b c (q.lt a)).2.2.1 (q.2 b a).1)).1,λb a=>⟨(l b (q.lt a)).trans (q.2 b a).1,(q.2 b a).2⟩⟩
 ·intro i e p k y z;obtain⟨A,B,C⟩:=h.qg i e p (s i k) y z;refine⟨(A.kept f (λb a d c=>((g b c d).2.2.2 i k).1 a.1.1)).mono (λb a=>⟨⟨(l b a.2).trans a.1.1,a.1.2⟩,An a.2 f.size⟩),
   (B.kept f (λb a d c=>((g b c d).2.2.2 i k).2 a.1.1)).mono (λb _ a=>⟨⟨(l b a.2).trans a.1.1,a.1.2⟩,An a.2 f.size⟩),C⟩
 ·refine h.kept.trans (f.mono λb a=>?_);rcases Be b w.heap.size with d|r
  ·exact(g b a d).1
  ·exact Ad t r
theorem LW.later (h:LW K w0 w gw o E ps aD ba vl m) (a:Ac (λb=>w.heap.size<=b) w w'):LW K w0 w' gw o E ps aD ba vl m:=
 h.move a (λ_ _=>rfl) (λb d c=>by omega) (λ_ h=>h)
theorem LW.up (h:LW K w0 w gw o E ps aD ba vl m) {m':Nat}(a:m<=m'):LW K w0 w gw o E ps aD ba vl m':=
 ⟨h.row,h.es,h.ls,h.lists,h.len,λi e p b c d=>by
  obtain⟨f,g,j,c2,c3,c4,c5,k⟩:=h.qg i e p b c d;exact⟨f,g,j,by omega,c3,by omega,c5,by omega⟩,h.kept,h.gw,Ad h.nl a,Ad h.ne a⟩
end
section
variable {K:Nat->Prop}{w0 w w':World}{gw:Nat}{o o':Nat->Nat}{E:List EX}{ps:List (Nat×Nat)}{aD ba:Value}{vl:List Value}{m:Nat}
theorem LW.nM (h:LW K w0 w gw o E ps aD ba vl m) {T:Nat->Prop}(j:Ac T w w') (s:∀b,T b->b<w.heap.size->w0.heap.size<=b/\(o b=0\/o b=2)) (D:∀b,b<w.heap.size->o' b=if o b=2 then 1 else o b) {c u:Value}
  (q:AE w' gw 92 [aD,c,.bool false]) (x:∀b,aD.ownBlock=some b->¬T b) (y:Sl (λb=>o' b=0/\w0.heap.size<=b) w' 22 1 c (vl.length+1) (vl++[u]))
  (F:∃n,n<=2000000/\Sl (λb=>o' b=1/\w0.heap.size<=b) w' 32 1 u n (List.replicate n (JR vl.length))) {m':Nat} (G:m<=m') (H:vl.length+1<=m'):LW K w0 w' gw o' E ps aD c (vl++[u]) m':=by
 have I:=h.kept.size;have d:∀b,b<w.heap.size->o b≠2->o' b=o b:=λb a t=>by rw[D b a,Ai t]
 refine⟨q,⟨(h.es.kept j x).1,λb a=>⟨(d b (h.es.lt a) (by rw[(h.es.2 b a).1];decide)).trans (h.es.2 b a).1,(h.es.2 b a).2⟩⟩,by rw[Ao];exact y,?_,h.len,?_,?_,⟨(d gw h.row.lt (by rw[h.gw.1];decide)).trans h.gw.1,h.gw.2⟩,by rw[Ao];have:=h.nl;simp;omega,by have:=h.ne;omega⟩
 ·intro i v f;rcases Be i vl.length with hi|hi
  ·rw[AV hi]at f;obtain⟨n,J,k⟩:=h.lists i v f;refine⟨n,J,(k.kept j (λb a r=>?_)).1,λb a=>⟨(d b (k.lt a) (by rw[(k.2 b a).1];decide)).trans (k.2 b a).1,(k.2 b a).2⟩⟩;have C:=(s b r (k.lt a)).2;have t:=(k.2 b a).1;omega
  ·have z:=(Aj.1 f).1;simp at z;obtain rfl:i=vl.length:=by omega
   simp at f;subst f;exact F
 ·intro i e p A L M;obtain⟨C,t,N,c2,c3,c4,c5,Q⟩:=h.qg i e p A L M;refine⟨(C.kept j (λb a g r=>by have O:=(s b r g).2;have P:=a.1.1;omega)).mono (λb a=>⟨⟨(d b a.2 (by have:=a.1.1;omega)).trans a.1.1,a.1.2⟩,An a.2 j.size⟩),
   (t.kept j (λb a g r=>by have O:=(s b r g).2;have P:=a.1.1;omega)).mono (λb _ a=>⟨⟨(d b a.2 (by have:=a.1.1;omega)).trans a.1.1,a.1.2⟩,An a.2 j.size⟩),N,by omega,c3,by omega,c5,by omega⟩
 ·refine h.kept.trans (j.mono λb a=>?_);rcases Be b w.heap.size with g|B
  ·exact(s b a g).1
  ·exact Ad I B
end
theorem uv {α:Type}(a:α) (xs:List α) {k:Nat}(b:k<xs.length):(List.replicate k a++xs.drop k).set k a=List.replicate (k+1) a++xs.drop (k+1):=by rw[M4 _ _ (by simp),CN,Pe,DK b,PP,W9,AK];rfl
theorem pD:(prog.info? 32).map (λi=>(i.zero,i.size,i.bytes))=some (some (.int .u64 0),1,8):=by kernel_rfl
theorem kV:(prog.info? 22).map (λi=>(i.zero,i.size,i.bytes))=some (some (.slice none 0 0),1,24):=by kernel_rfl
theorem js {n:Nat}(a:n<=2000000):IntKind.u64.wrap (9223372036854775808+(n:Int))=9223372036854775808+(n:Int):=by unfold IntKind.wrap;simp[IntKind.signed,IntKind.bits];omega
section
variable {K:Nat->Prop}{w0 w:World}{gw:Nat}{o:Nat->Nat}{E:List EX}{ps:List (Nat×Nat)}{aD ba v:Value}{vl:List Value}{m:Nat}{l:List Int}
def Agz (K:Nat->Prop) (w0:World) (gw:Nat) (E:List EX) (ps:List (Nat×Nat)) (aD:Value) (vl:List Value) (m:Nat) (y:Ending) (w':World):Prop:=
 y= .returned (.tuple #[])/\∃o' a b,LW K w0 w' gw o' E ps aD a (vl++[b]) m
theorem OQ (h:LW K w0 w gw o E ps aD ba vl m) {m':Nat}(cZ:m<=m') (da:vl.length+1<=m') (hm:m'<=2000000) (hv:Sl (λb=>o b=2/\w0.heap.size<=b) w 32 1 v l.length (l.map Kp)) (hl:l.length<=1999990):
  Calls prog 61 #[.pointer (some ⟨gw,0,none⟩),v] w (Agz K w0 gw E ps aD vl m'):=by
 obtain⟨i0,db,dc,dh,di⟩:=Bg pD;obtain⟨k0,dj,dm,dr,dt⟩:=Bg kV;obtain⟨c1,rl,gQ⟩:=zp3 (h.row.cell 1) h.row.lt h.nl;obtain⟨F,G,rfl⟩:=h.ls.bz;obtain⟨av,W,rfl⟩:=hv.bz;have gX:=js (n:=vl.length) (by omega);simp at c1;have bi:∀b,(Value.slice av l.length W).ownBlock=some b->b≠gw:=λb a e=>hv.bD h.row (by decide) (e▸a);have bj:(l.map Kp).length=l.length:=by simp
 have bn:∀k,k<l.length->∃y,(l.map Kp)[k]?=some (.int .u64 y):=λk hk=>⟨l[k],by rw[At,Ae hk];rfl⟩;generalize dv:l.map Kp=xs at*;obtain⟨H,HV,s,bo,dy⟩:=zq5 h hv bi bj bn;clear h hv bi dv bj bn;go_enter func61,ntmps61;go_wp2_with fail
 go_loopg [16] l.length (λgg dz wr=>∃k:Nat,k<=l.length/\l.length-k<=gg/\dz= .int .i64 k/\Ac (λb=>(Value.slice av l.length W).ownBlock=some b) w wr/\Sl (λb=>o b=2/\w0.heap.size<=b) wr 32 1 (.slice av l.length W) l.length (List.replicate k (JR vl.length)++xs.drop k))
 case atStart=>exact⟨0,AQ _,by omega,rfl,Ac.refl _ _,HV.out⟩
 case round=>
  obtain⟨k,hk,hg,rfl,j,D⟩:=hrel;by_cases d:k<l.length
  ·obtain⟨gv,gZ,ev,_,r1,r2,r3⟩:=D.form (by omega);injection ev with ev _ dB;subst ev dB;obtain⟨y,hy⟩:=dy.out k d;have x0:=D.1.cellAt k (by omega);rw[BE (by simp),CN,Pe,Ln,Mi,hy]at x0;obtain⟨cs,bp⟩:=D.row (g:=gv) rfl;have xf:=bp.frozen k;have X:=D.1.stored k (JR vl.length);rw[uv _ _ (by rw[bo.out];exact d)]at X;have bq:=D.2;have br:Ac (λb=>(Value.slice (some ⟨gv,0,none⟩) l.length W).ownBlock=some b) w (wr.setCell ⟨gv,k,none⟩ (JR vl.length)):=j.setCell (p:=⟨gv,k,none⟩) rfl _;have I:=Aa (And.intro X.1 (And.intro bq br));unfold maxLen at r2;unfold JR at I;clear D j bp X bq br hy;go_wp2;go_roundg (l.length-(k+1))
   case measure=>omega
   case rel=>exact⟨k+1,by omega,by omega,by go_num,I.out.2.2,I.out.1,I.out.2.1⟩
  ·have eg:k=l.length:=by omega
   rw[eg]at D;have bt:xs.drop l.length=[]:=by rw[←bo.out];exact mD
   rw[bt,AM]at D;have wl:=j.size;have eF:=(j.cell (p:=⟨gw,1,none⟩) (λa=>s.out _ a rfl)).trans c1;have x:=H.out.row.kept j (λa=>s.out _ a rfl);have ka:Ac (λb=>wr.heap.size<=b) wr (wr.alloc (.cells #[JR vl.length,JR vl.length] 32)):=(Ac.refl _ wr).alloc (Ab _) _;have bu:Sl (λb=>(o b=2/\w0.heap.size<=b)\/w.heap.size<=b) (wr.alloc (.cells #[JR vl.length,JR vl.length] 32)) 32 1 (.slice av l.length W) l.length (List.replicate l.length (JR vl.length)):=(D.later ka (λb a=>a)).mono (λb a=>.inl a);have bx:(λb=>(o b=2/\w0.heap.size<=b)\/w.heap.size<=b) (wr.alloc (.cells #[JR vl.length,JR vl.length] 32)).heap.size:=.inr (Ad wl ka.size);have qc:=C7 wr [JR vl.length,JR vl.length] 32;have m0:l.length+2<=maxLen:=by unfold maxLen;omega
   have m1:(l.length+2)*8<=140737488355328:=by omega
   obtain⟨P,Y,bC,bE,QC,z⟩:=zq6 x j bu bx qc ka;have eG:=x.lt;unfold JR at bC bE QC z;clear D j x ka bu bx qc bt;have Q:Sl (λb=>o b=0/\w0.heap.size<=b) (wr.alloc (.cells #[.int .u64 (9223372036854775808+(vl.length:Int)),.int .u64 (9223372036854775808+(vl.length:Int))] 32)) 22 1 (.slice F vl.length G) vl.length vl:=(H.out.ls.kept Y.out (λb a f=>H.out.ls.eR HV.out (by decide) f a)).later z.out (λb a=>a);obtain⟨R,eS⟩:=zq2 Q (λb (a:(Value.slice F vl.length G).ownBlock=some b) (f:(Value.slice av l.length W).ownBlock=some b)=>H.out.ls.eR HV.out (by decide) f a);have m2:vl.length+1<=maxLen:=by unfold maxLen;omega
   have m3:(vl.length+1)*24<=140737488355328:=by omega
   clear Q;go_wp2_with (first
    |(at_builtin;refine Dy Ew db dc dh di rfl (by decide) bC.out bE.out rfl _ _ rfl rfl ⟨wr.heap.size,0,none⟩ 2 2 [.int .u64 (9223372036854775808+(vl.length:Int)),.int .u64 (9223372036854775808+(vl.length:Int))] rfl rfl QC.out (by intro u hu;simp at hu;subst hu;rfl) m0 m1 (Cg _) ?_;intro i c w3 bH t A;have y1:=(t.cell (p:=⟨gw,1,none⟩) (λf=>f.elim (λe=>s.out _ e rfl) (λq=>by have:=z.out.size;simp only at q;omega))).trans ((z.out.cell (p:=⟨gw,1,none⟩) (by simp only;omega)).trans eF);have S:=R.out.kept t (λb a f=>f.elim (λe=>eS.out b a e) (λq=>by have:=R.out.lt a;omega));have kb:Ac (λb=>w3.heap.size<=b) w3 (w3.alloc (.cells #[.slice (some ⟨i,0,none⟩) (l.length+2) c] 22)):=(Ac.refl _ w3).alloc (Ab _) _;have bI:=Aa ((S.later kb (λb a=>a)).mono (S':=λb=>(o b=0/\w0.heap.size<=b)\/w.heap.size<=b) (λb a=>.inl a));have U:(o (w3.alloc (.cells #[.slice (some ⟨i,0,none⟩) (l.length+2) c] 22)).heap.size=0/\w0.heap.size<=(w3.alloc (.cells #[.slice (some ⟨i,0,none⟩) (l.length+2) c] 22)).heap.size)\/w.heap.size<=(w3.alloc (.cells #[.slice (some ⟨i,0,none⟩) (l.length+2) c] 22)).heap.size:=.inr (Ad (Ad (Ad wl z.out.size) t.size) kb.size);have cy:=Aa U;have eT:=Aa (C7 w3 [.slice (some ⟨i,0,none⟩) (l.length+2) c] 22);have J:=Aa kb;have eU:=Aa bH;have L:=Aa t;have eV:=Aa A;have eW:gw<w3.heap.size:=An eG (Ad z.out.size t.size);clear bH t A S kb U)
    |(at_builtin;go_must (refine Dy underlying90 dj dm dr dt rfl (by decide) bI.out cy.out rfl _ _ rfl rfl ⟨w3.heap.size,0,none⟩ 1 1 [.slice (some ⟨i,0,none⟩) (l.length+2) c] rfl rfl eT.out (by intro u hu;simp at hu;subst hu;rfl) m2 m3 (Cg _) ?_;intro M r Z cz N B;have y4:=(N.cell (p:=⟨gw,1,none⟩) (λf=>f.elim (λe=>H.out.ls.bD H.out.row (by decide) e) (λq=>by have:=J.out.size;simp only at q;omega))).trans ((J.out.cell (p:=⟨gw,1,none⟩) (by simp only;omega)).trans y1);have be:=Aa cz;have C:=Aa N;have eX:=Aa B;have y5:Z.frozen? ⟨gw,1,none⟩=false:=(N.frozen (p:=⟨gw,1,none⟩) (λf=>f.elim (λe=>H.out.ls.bD H.out.row (by decide) e) (λq=>by have:=J.out.size;simp only at q;omega))).trans ((J.out.frozen (p:=⟨gw,1,none⟩) (by simp only;omega)).trans ((L.out.frozen (p:=⟨gw,1,none⟩) (λf=>f.elim (λe=>s.out _ e rfl) (λq=>by have:=z.out.size;simp only at q;omega))).trans ((z.out.frozen (p:=⟨gw,1,none⟩) (by simp only;omega)).trans (P.out.frozen 1))));clear cz N B)))
   go_wp2;go_end0;have eY:(Value.slice (some (⟨i,0,none⟩:Addr)) (l.length+2) c).ownBlock=some i:=rfl;have ie:=be.out;have O:=H.out.es;have ft:gw<Z.heap.size:=An eW (Ad J.out.size C.out.size);have s1:w.heap.size<=wr.heap.size:=Y.out.size;obtain⟨s2,s3,s4,s5,v3⟩:=zp5 z.out.size L.out.size J.out.size C.out.size (eU.out.later J.out (λb a=>a));have v4:=v3.kept C.out (λb a f=>by
    rcases f with f|f
    ·exact bI.out.eR v3 (by decide) a f
    ·have:=v3.lt a;omega)
   have fa:M≠i:=λe=>be.out.eR v4 (by decide) eY (by rw[e];rfl);have fb:M≠gw:=by
    intro e;rcases eX.out with e4|e4
    ·exact H.out.ls.bD H.out.row (by decide) (e▸e4)
    ·omega
   have fc:i≠gw:=by
    intro e;rcases eV.out with e3|e3
    ·exact s.out i e3 e
    ·omega
   let T:Nat->Prop:=λb=>(Value.slice av l.length W).ownBlock=some b\/(Value.slice F vl.length G).ownBlock=some b\/b=gw\/w.heap.size<=b
   have kT:Ac T w Z:=(((((Y.out.mono (λb a=>.inl a)).trans (z.out.mono (λb a=>.inr (.inr (.inr (by omega)))))).trans (L.out.mono (λb a=>a.elim .inl (λq=>.inr (.inr (.inr (by omega))))))).trans (J.out.mono (λb a=>.inr (.inr (.inr (by omega)))))).trans (C.out.mono (λb a=>a.elim (λh1=>.inr (.inl h1)) (λq=>.inr (.inr (.inr (by omega)))))));have kF:Ac T w (Z.setCell ⟨gw,1,none⟩ (.slice (some ⟨M,0,none⟩) (vl.length+1) r)):=kT.setCell (p:=⟨gw,1,none⟩) (.inr (.inr (.inl rfl))) _;have r4:AE Z gw 92 [aD,.slice F vl.length G,.bool false]:=by
    refine(((P.out.kept z.out (by omega)).kept L.out (λf=>?_)).kept J.out (by omega)).kept C.out (λf=>?_)
    ·rcases f with e|e
     ·exact s.out _ e rfl
     ·omega
    ·rcases f with e|e
     ·exact H.out.ls.bD H.out.row (by decide) e
     ·omega
   refine⟨rfl,λb=>if b<w.heap.size then(if o b=2 then 1 else o b)else if b=i then 1 else 0,.slice (some ⟨M,0,none⟩) (vl.length+1) r,.slice (some ⟨i,0,none⟩) (l.length+2) c,?_⟩;refine H.out.nM kF (λb a d=>?_) (λb a=>Al a) (r4.bF 1 _) (λb a V=>?_) ?_ ⟨l.length+2,by omega,?_⟩ cZ da
   ·rcases a with a|a|a|a
    ·exact⟨(HV.out.2 b a).2,.inr (HV.out.2 b a).1⟩
    ·exact⟨(H.out.ls.2 b a).2,.inl (H.out.ls.2 b a).1⟩
    ·subst a;exact⟨H.out.gw.2,.inl H.out.gw.1⟩
    ·omega
   ·rcases V with V|V|V|V
    ·exact HV.out.eR O (by decide) a V
    ·exact H.out.ls.eR O (by decide) a V
    ·subst V;exact O.bD H.out.row (by decide) a
    ·have:=O.lt a;omega
   ·have hq:=be.out.kept (Ac.one Z ⟨gw,1,none⟩ (.slice (some ⟨M,0,none⟩) (vl.length+1) r)) (λb a e=>by
     injection a with a;exact fb (a.trans e))
    refine⟨hq.1,λb a=>?_⟩;have q:=hq.2 b a;injection a with a;subst a;have fd:=H.out.kept.size;by_cases d:M<w.heap.size
    ·have h3:o M=0/\w0.heap.size<=M:=q.elim id (λh=>absurd d (CJ.2 h));simp only;rw[Al d,h3.1];exact⟨by decide,h3.2⟩
    ·simp only;rw[Ai d,Ai fa];exact⟨rfl,by omega⟩
   ·have hq:=v4.kept (Ac.one Z ⟨gw,1,none⟩ (.slice (some ⟨M,0,none⟩) (vl.length+1) r)) (λb a e=>by
     injection a with a;exact fc (a.trans e))
    have hc:List.replicate l.length (Value.int IntKind.u64 (9223372036854775808+(vl.length:Int)))++[.int .u64 (9223372036854775808+(vl.length:Int)),.int .u64 (9223372036854775808+(vl.length:Int))]=List.replicate (l.length+2) (JR vl.length):=by unfold JR;rw[show l.length+2=l.length+1+1 from rfl,W9,W9,AK];rfl
    rw[hc]at hq;refine⟨hq.1,λb a=>?_⟩;have q:=hq.2 b a;injection a with a;subst a;have fd:=H.out.kept.size;by_cases d:i<w.heap.size
    ·have h3:o i=2/\w0.heap.size<=i:=q.elim id (λh=>absurd d (CJ.2 h));simp only;rw[Al d,h3.1];exact⟨rfl,h3.2⟩
    ·refine⟨?_,by omega⟩;show(if i<w.heap.size then(if o i=2 then 1 else o i)else if i=i then 1 else 0)=1;rw[Ai d,Al rfl]
end
section
variable {K:Nat->Prop}{w0 w w':World}{gw:Nat}{o:Nat->Nat}{E:List EX}{ps:List (Nat×Nat)}{aD ba:Value}{vl:List Value}{m:Nat}
theorem LW.load (h:LW K w0 w gw o E ps aD ba vl m) {g:Value}{n1 n3 ge gs:Nat}{p:Ax}(q:Ac (λb=>aD.ownBlock=some b\/b=gw\/w.heap.size<=b) w w') (Q:w.heap.size<=n1) (R:n1<=n3)
  (u:AE w' gw 92 [g,ba,.bool false])
  (x:Sl (λb=>(o b=0/\w0.heap.size<=b/\b<w.heap.size)\/n3<=b) w' 160 2 g (ps.length+1) (ps.flatMap Ng++Ng (ge,gs)))
  (G:GR (λb=>w.heap.size<=b/\b<n1) w' ge (EX.new p)) (H:MR (λb=>n1<=b/\b<n3) w' gs (EX.new p)):∃o',LW K w0 w' gw o' (E++[EX.new p]) (ps++[(ge,gs)]) g ba vl (m+1):=by
 have S:=h.kept.size
 let o':Nat->Nat:=λb=>if b<w.heap.size then o b else if b<n1 then 3+2*E.length else if b<n3 then 4+2*E.length else 0
 have d:∀b,b<w.heap.size->o' b=o b:=λb a=>Al a;have C:∀b,w.heap.size<=b->b<n1->o' b=3+2*E.length:=λb a r=>by show(if _ then _ else _)=_;rw[Ai (by omega),Al r]
 have y:∀b,n1<=b->b<n3->o' b=4+2*E.length:=λb a r=>by show(if _ then _ else _)=_;rw[Ai (by omega),Ai (by omega),Al r]
 have D:∀b,n3<=b->o' b=0:=λb a=>by show(if _ then _ else _)=_;rw[Ai (by omega),Ai (by omega),Ai (by omega)]
 have z:∀b,(aD.ownBlock=some b\/b=gw\/w.heap.size<=b)->b<w.heap.size->o b=0/\w0.heap.size<=b:=by
  intro b a c;rcases a with a|a|a
  ·exact h.es.2 b a
  ·subst a;exact h.gw
  ·omega
 refine⟨o',u,?_,?_,?_,by simp[h.len],?_,?_,⟨(d gw h.row.lt).trans h.gw.1,h.gw.2⟩,by have:=h.nl;omega,by have:=h.ne;simp;omega⟩
 ·rw[Ao,Kr];refine⟨by simpa using x.1,λb a=>?_⟩;rcases x.2 b a with⟨t,A,I⟩|t
  ·exact⟨(d b I).trans t,A⟩
  ·exact⟨D b t,by omega⟩
 ·refine⟨(h.ls.kept q (λb a f=>?_)).1,λb a=>⟨(d b (h.ls.lt a)).trans (h.ls.2 b a).1,(h.ls.2 b a).2⟩⟩;rcases f with f|f|f
  ·exact h.ls.eR h.es (by decide) f a
  ·subst f;exact h.ls.bD h.row (by decide) a
  ·have:=h.ls.lt a;omega
 ·intro i v J;obtain⟨n,L,l⟩:=h.lists i v J;refine⟨n,L,(l.kept q (λb a f=>?_)).1,λb a=>⟨(d b (l.lt a)).trans (l.2 b a).1,(l.2 b a).2⟩⟩;have t:=(z b f (l.lt a)).1;have A:=(l.2 b a).1;omega
 ·intro i e M F j k;rcases Be i E.length with hi|hi
  ·rw[AV hi]at j;rw[AV (by rw[h.len];exact hi)]at k;obtain⟨r1,N,O,c2,c3,c4,c5,T⟩:=h.qg i e M F j k;refine⟨(r1.kept q (λb a c f=>by have t:=(z b f c).1;have A:=a.1.1;omega)).mono (λb a=>⟨⟨(d b a.2).trans a.1.1,a.1.2⟩,An a.2 q.size⟩),
    (N.kept q (λb a c f=>by have t:=(z b f c).1;have A:=a.1.1;omega)).mono (λb _ a=>⟨⟨(d b a.2).trans a.1.1,a.1.2⟩,An a.2 q.size⟩),O,by omega,c3,by omega,c5,by omega⟩
  ·have l:=(Aj.1 j).1;simp at l;obtain rfl:i=E.length:=by omega
   simp at j;rw[←h.len]at k;simp at k;subst j k;refine⟨?_,?_,by simp[EX.new,PV];omega⟩
   ·exact G.shrink.mono (λb a=>⟨⟨C b a.1.1 a.1.2,by omega⟩,a.2⟩)
   ·exact H.mono (λb c a=>⟨⟨y b a.1 a.2,by omega⟩,c⟩)
 ·refine h.kept.trans (q.mono λb a=>?_);rcases Be b w.heap.size with c|P
  ·exact(z b a c).2
  ·omega
end
theorem pH:(prog.info? 160).map (λi=>(i.zero,i.size,i.bytes))=some (some (.agg #[.pointer none,.pointer none]),2,16):=by kernel_rfl
section
variable {K:Nat->Prop}{w0 w:World}{gw:Nat}{o:Nat->Nat}{E:List EX}{ps:List (Nat×Nat)}{aD ba:Value}{vl:List Value}{m:Nat}{s:Ah}{B:Nat}{gx:Nat×Nat}{ea:Nat->Addr}
def rM (K:Nat->Prop) (w0:World) (gw:Nat) (E:List EX) (ps:List (Nat×Nat)) (ba:Value) (vl:List Value) (m:Nat) (s:Ah) (y:Ending) (w':World):Prop:=
 y= .returned (.bool true)/\match read s with
  | .error _=>∃o' a,LW K w0 w' gw o' E ps a ba vl (m+1)
  | .ok p=>∃o' a ge gs,LW K w0 w' gw o' (E++[EX.new p]) (ps++[(ge,gs)]) a ba vl (m+1)
theorem kG (n:UF B ea w) (p:JI B ea w) (q:MQ w gx) (h:LW K w0 w gw o E ps aD ba vl m) {k pos:Nat}(i:read s= .error (k,pos)):
  Calls prog 56 #[.pointer (some ⟨gw,0,none⟩),vs s] w (rM K w0 gw E ps ba vl m s):=by
 obtain⟨z,A⟩:=ax i;have r:¬((k:Int)=0):=by omega
 have a:=aP n p s;obtain⟨t,u,j,H⟩:=zq4 a (λw1 (v:Ac (λb=>w.heap.size<=b) w w1)=>Xv (q.kept v) s) i h;clear a n p q i h;go_enter func56,ntmps56;go_wp2_with fail;refine t.out.mono ?_;rintro y w1 ⟨d,e⟩;rw[j.out]at e;subst e;have c:=Aa d;clear d;go_wp2_with fail;refine(u.out _ c.out).mono ?_;rintro y C ⟨f,g⟩;rw[j.out]at g;subst g;have l:=Aa f;clear f;go_wp2;go_ret;refine⟨rfl,?_⟩;rw[j.out];exact⟨o,aD,(H.out.later (c.out.trans (l.out.mono (λb x=>Ad c.out.size x)))).up (Ca _)⟩
theorem pa (hE:UF B ea w) (hO:JI B ea w) (hW:MQ w gx) (h:LW K w0 w gw o E ps aD ba vl m) (hm:m<=1999999) {p:Ax}(U:read s= .ok p):
  Calls prog 56 #[.pointer (some ⟨gw,0,none⟩),vs s] w (rM K w0 gw E ps ba vl m s):=by
 have hp:=ez U;obtain⟨i0,V,X,Y,Z⟩:=Bg pH;have d:=aP hE hO s;obtain⟨HL,HR,HX⟩:=zq3 d (λw1 (hk:Ac (λb=>w.heap.size<=b) w w1)=>Xv (hW.kept hk) s) U;obtain⟨c0,rl,da⟩:=zp3 (h.row.cell 0) h.row.lt h.ne;have db:ps.length<=m:=by have:=h.len;have:=h.ne;omega
 obtain⟨f,g,rfl⟩:=h.es.bz;simp at c0;obtain⟨H,HP⟩:=zq2 h hp;clear d hE hO hW U h hp;go_enter func56,ntmps56;go_wp2_with fail;refine HL.out.mono ?_;rintro y w1 ⟨G,I⟩;rw[HX.out]at I;obtain⟨ge,rfl,J⟩:=I;obtain⟨c,bg⟩:=zq2 G J;clear G J;go_wp2_with fail;refine(HR.out _ c.out).mono ?_;rintro y x ⟨l,L⟩;rw[HX.out]at L;obtain⟨gp,rfl,F⟩:=L;obtain⟨bh,n,dh⟩:=zq3 (λW (hk:Ac (λb=>x.heap.size<=b) x W)=>oI (F.kept hk (λb a M z=>by omega)) HP.out) l F;have c2:x.cell? ⟨gw,0,none⟩=some (.slice f ps.length g):=((l.cell (p:=⟨gw,0,none⟩) (by have:=c.out.size;simp only;omega)).trans (c.out.cell (p:=⟨gw,0,none⟩) (by simp only;omega))).trans c0;have di:gw<x.heap.size:=by have:=c.out.size;have:=l.size;omega
 clear l F;go_wp2_with fail;have m0:ps.length+1<=maxLen:=by unfold maxLen;omega
 have m1:(ps.length+1)*16<=140737488355328:=by omega
 go_region_law (first
  |(go_simp;go_at_call 96;refine(bh.out _ ?_).mono ?_;(first|exact zAr.drew|exact Ac.refl _ _);rintro y w3 ⟨gs,rfl,N,O⟩;have S:Ac (λb=>x.heap.size<=b) x w3:=((Ac.refl (λb=>x.heap.size<=b) x).drew).trans (N.mono (λb a=>a));have c3:=(S.cell (p:=⟨gw,0,none⟩) (by simp only;omega)).trans c2;have i:Ac (λb=>w.heap.size<=b) w w3:=(c.out.trans (n.out.mono (λb a=>Ad c.out.size a))).trans (S.mono (λb a=>Ad (Ad c.out.size n.out.size) a));have T:Ac (λb=>w3.heap.size<=b) w3 (w3.alloc (.cells #[.pointer (some ⟨ge,0,none⟩),.pointer (some ⟨gs,0,none⟩)] 160)):=(Ac.refl _ w3).alloc (Ab _) _;have A:Sl (λb=>(o b=0/\w0.heap.size<=b/\b<w.heap.size)\/w3.heap.size<=b) (w3.alloc (.cells #[.pointer (some ⟨ge,0,none⟩),.pointer (some ⟨gs,0,none⟩)] 160)) 160 2 (.slice f ps.length g) ps.length (ps.flatMap Ng):=⟨((H.out.es.later i (λb a=>a)).later T (λb a=>a)).1,λb a=>.inl ⟨(H.out.es.2 b a).1,(H.out.es.2 b a).2,H.out.es.lt a⟩⟩;have C:(λb=>(o b=0/\w0.heap.size<=b/\b<w.heap.size)\/w3.heap.size<=b) (w3.alloc (.cells #[.pointer (some ⟨ge,0,none⟩),.pointer (some ⟨gs,0,none⟩)] 160)).heap.size:=.inr T.size;have bi:=Aa A;have bj:=Aa C;have QC:=Aa (C7 w3 [.pointer (some ⟨ge,0,none⟩),.pointer (some ⟨gs,0,none⟩)] 160);have q:=Aa T;have P:=Aa i;have K3:=Aa S;have bn:=Aa O;have dt:gw<w3.heap.size:=An rl i.size;have bo:=(i.frozen (p:=⟨gw,0,none⟩) (by simp only;omega)).trans (H.out.row.frozen 0);clear N S i T A C O)
  |(refine EI underlying89 V X Y Z rfl (by decide) bi.out bj.out rfl _ _ (by rfl) (by rfl) ⟨w3.heap.size,0,none⟩ 1 1 [.pointer (some ⟨ge,0,none⟩),.pointer (some ⟨gs,0,none⟩)] (by rfl) (by rfl) QC.out (by intro u hu;simp at hu;rcases hu with rfl|rfl<;>rfl) m0 m1 (Cg _) ?_;intro g4 D w4 r t j;have e1:=(t.cell (p:=⟨gw,0,none⟩) (λQ=>Q.elim (λe=>H.out.es.bD H.out.row (by decide) e) (λv=>by have:=q.out.size;simp only at v;omega))).trans ((q.out.cell (p:=⟨gw,0,none⟩) (by simp only;omega)).trans c3);have e2:=(t.frozen (p:=⟨gw,0,none⟩) (λQ=>Q.elim (λe=>H.out.es.bD H.out.row (by decide) e) (λv=>by have:=q.out.size;simp only at v;omega))).trans ((q.out.frozen (p:=⟨gw,0,none⟩) (by simp only;omega)).trans bo);have br:=Aa r;have k:=Aa t;have bt:=Aa j;clear r t j))
 all_goals
  go_wp2;go_ret;refine⟨rfl,?_⟩;rw[HX.out];obtain⟨s1,s2,s3,s4,s5⟩:=zp5 c.out.size n.out.size K3.out.size q.out.size k.out.size;have R:∀b,(Value.slice f ps.length g).ownBlock=some b->b<w.heap.size:=λb a=>H.out.es.lt a;have r4:AE w4 gw 92 [.slice f ps.length g,ba,.bool false]:=((H.out.row.kept P.out (by omega)).kept q.out (by omega)).kept k.out (λQ=>Q.elim (λe=>H.out.es.bD H.out.row (by decide) e) (λv=>by omega));have bu:g4≠gw:=by
   intro e;rcases bt.out with e4|e4
   ·exact H.out.es.bD H.out.row (by decide) (e▸e4)
   ·omega
  have kO:=Ac.one w4 ⟨gw,0,none⟩ (.slice (some ⟨g4,0,none⟩) (ps.length+1) D);have kF:Ac (λb=>(Value.slice f ps.length g).ownBlock=some b\/b=gw\/w.heap.size<=b) w (w4.setCell ⟨gw,0,none⟩ (.slice (some ⟨g4,0,none⟩) (ps.length+1) D)):=
   ((((P.out.mono (λb a=>.inr (.inr a))).trans (q.out.mono (λb a=>.inr (.inr (by omega))))).trans (k.out.mono (λb a=>a.elim .inl (λv=>.inr (.inr (by omega)))))).setCell (p:=⟨gw,0,none⟩) (.inr (.inl rfl)) _)
  have bC:=((((bg.out.kept n.out (λb a _ z=>by omega)).kept K3.out (λb a _ z=>by omega)).kept q.out (λb a _ z=>by omega)).kept k.out (λb a _ z=>z.elim (λe=>by have:=R b e;omega) (λv=>by omega))).kept kO (λb a _ e=>by simp only at e;omega);have bE:=bn.out.mono (S':=λb=>w1.heap.size<=b/\b<w3.heap.size) (λb M a=>⟨a.elim id (λv=>by simp at v;omega),M⟩);have bG:=((bE.kept q.out (λb a _ z=>by omega)).kept k.out (λb a _ z=>z.elim (λe=>by have:=R b e;omega) (λv=>by omega))).kept kO (λb a _ e=>by simp only at e;omega);have r:=(br.out.kept kO (λb a e=>by
   injection a with a;exact bu (a.trans e)))
  obtain⟨o',hq⟩:=H.out.load (n1:=w1.heap.size) (n3:=w3.heap.size) (ge:=ge) (gs:=gs) (p:=p) kF s1 (by omega) (r4.bF 0 _) r bC bG;exact⟨o',_,ge,gs,hq⟩
theorem kH (a:UF B ea w) (b:JI B ea w) (c:MQ w gx) (h:LW K w0 w gw o E ps aD ba vl m) (e:m<=1999999) (s:Ah):
  Calls prog 56 #[.pointer (some ⟨gw,0,none⟩),vs s] w (rM K w0 gw E ps ba vl m s):=by
 cases d:read s with
 |error x=>obtain⟨k,pos⟩:=x;exact kG a b c h d
 |ok p=>exact pa a b c h e d
end
structure W7 where
 kind:Int
 a:Int
 key:Int
 s:Ah
def i7 (x:W7):List Value:=[.int .i64 x.kind,.int .i64 x.a,.int .u64 x.key,vs x.s]
structure yX (x:W7):Prop where
 k1: -9223372036854775808<=x.kind
 k2:x.kind<=9223372036854775807
 a1: -9223372036854775808<=x.a
 a2:x.a<=9223372036854775807
 sl:x.s.length<=140737488351232
def Kd (w:World) (v:Value) (l:List W7):Prop:=
 ∃a c,v= .slice a l.length c/\l.length<=4000000000000/\(∀x∈l,yX x)/\∀(k:Nat) x,l[k]?=some x->∃g b,a=some ⟨g,b,none⟩/\g<w.heap.size/\∀j,j<4->w.cell? ⟨g,b+k*4+j,none⟩=(i7 x)[j]?
theorem Kd.later {w w':World}{v:Value}{l:List W7}(h:Kd w v l) (e:Ac (λb=>w.heap.size<=b) w w'):Kd w' v l:=by obtain⟨a,c,f,i,m,n⟩:=h;refine⟨a,c,f,i,m,λk x o=>?_⟩;obtain⟨g,d,q,r,s⟩:=n k x o;exact⟨g,d,q,An r e.size,λj t=>(e.cell (p:=⟨g,d+k*4+j,none⟩) (by simp only;omega)).trans (s j t)⟩
theorem Kd.at_ {w:World}{a:Option Addr}{c:Nat}{l:List W7}(h:Kd w (.slice a l.length c) l) {k:Nat}{x:W7}(f:l[k]?=some x):∃g b,a=some ⟨g,b,none⟩/\g<w.heap.size/\w.cell? ⟨g,b+k*4,none⟩=some (.int .i64 x.kind)/\w.cell? ⟨g,b+k*4+1,none⟩=some (.int .i64 x.a)/\w.cell? ⟨g,b+k*4+2,none⟩=some (.int .u64 x.key)/\w.cell? ⟨g,b+k*4+3,none⟩=some (vs x.s)/\yX x:=by obtain⟨o,p,e,q,i,j⟩:=h;injection e with e _ _;obtain⟨g,b,m,n,d⟩:=j k x f;exact⟨g,b,e.trans m,n,d 0 (by omega),d 1 (by omega),d 2 (by omega),d 3 (by omega),i x (Aw f)⟩
section
variable {w:World}{v:Value}{l:List W7}
def Ags (w:World) (l:List W7) (y:Ending) (w':World):Prop:=∃b,y= .returned (.bool b)/\(b=true->l.length<=1048576)/\Ac (λb=>w.heap.size<=b) w w'
theorem Xq (h:Kd w v l):Calls prog 16 #[v] w (Ags w l):=by
 obtain⟨a,c,rfl,B,j,_⟩:=id h;have H:=Aa h;clear h j;go_enter func16,ntmps16;go_wp2_with fail
 go_loopg [10,3] l.length (λp m q wr=>∃(k:Nat) (t:Int),k<=l.length/\l.length-k<=p/\m= .int .i64 k/\q= .int .i64 t/\(l.length:Int)<=t/\t<=4000000000000/\Ac (λb=>w.heap.size<=b) w wr)
 case atStart=>exact⟨0,l.length,AQ _,by omega,rfl,rfl,by omega,by omega,Ac.refl _ _⟩
 case round=>
  obtain⟨k,t,C,D,rfl,rfl,r,u,e⟩:=hrel;have d:=Aa e;by_cases n:k<l.length
  ·obtain⟨x,o⟩:∃x,l[k]?=some x:=⟨_,Ae n⟩;obtain⟨g,y,rfl,E,F,G,I,J,f⟩:=(H.out.later e).at_ o;have z:=f.sl;have A:=Ay x.s;clear o e f;unfold vs at*;by_cases i:t+(x.s.length:Int)>1048576
   ·have e1:decide (t+(x.s.length:Int)>1048576)=true:=DX i;go_wp2;go_ret;exact⟨false,rfl,(λf=>absurd f AY),d.out.trans (((Ac.refl _ wr).alloc (Ab _) _).mono (λb f=>Ad d.out.size f))⟩
   ·have e1:decide (t+(x.s.length:Int)>1048576)=false:=Ck i;go_wp2;go_roundg (l.length-(k+1))
    case measure=>omega
    case rel=>exact⟨k+1,_,by omega,by omega,by go_num,rfl,by omega,by omega,d.out.trans (((Ac.refl _ wr).alloc (Ab _) _).mono (λb f=>Ad d.out.size f))⟩
  ·clear e;go_wp2;go_ret;refine⟨_,rfl,λh=>?_,d.out⟩;have:=E9 h;omega
end
structure cU (B:Nat) (ea:Nat->Addr) (gx:Nat×Nat) (w0:World):Prop where
 env:UF B ea w0
 obj:JI B ea w0
 words:MQ w0 gx
theorem cU.later {B:Nat}{ea:Nat->Addr}{gx:Nat×Nat}{w w':World}(h:cU B ea gx w) (a:Ac (λb=>w.heap.size<=b) w w'):cU B ea gx w':=
 ⟨h.env.kept a (λb c=>Ad h.env.size c),h.obj.kept a (λb c=>Ad h.env.size c),h.words.kept a⟩
def Tj (w0:World) (gw:Nat) (m:Nat) (y:Ending) (w':World):Prop:=
 y= .returned (.bool true)/\∃o' e c a b d,LW (λ_=>True) w0 w' gw o' e c a b d (m+1)
def oS (x:W7):Value:=.agg #[.int .i64 x.kind,.int .i64 x.a,.int .u64 x.key,vs x.s]
section
variable {w0 w:World}{gw:Nat}{o:Nat->Nat}{E:List EX}{ps:List (Nat×Nat)}{aD ba:Value}{vl:List Value}{m:Nat}{B:Nat}{gx:Nat×Nat}{ea:Nat->Addr}{x:W7}
theorem jN (f:cU B ea gx w0) (h:LW (λ_=>True) w0 w gw o E ps aD ba vl m) (n:m<=1999999) (d:x.kind=1):
  Calls prog 30 #[.pointer (some ⟨gw,0,none⟩),oS x] w (Tj w0 gw m):=by
 have q:=Aa (λW (d:Ac (λb=>w.heap.size<=b) w W)=>kH (K:=λ_=>True) (gw:=gw) (f.env.kept (h.kept.trans (d.mono (λb c=>Ad h.kept.size c))) (λb c=>Ad f.env.size c)) (f.obj.kept (h.kept.trans (d.mono (λb c=>Ad h.kept.size c))) (λb c=>Ad f.env.size c)) (f.words.kept (h.kept.trans (d.mono (λb c=>Ad h.kept.size c)))) (h.later d) n x.s);obtain⟨kd,a,key,s⟩:=x;change kd=1 at d;subst d;clear f h;unfold oS;go_enter nk,gD;go_wp2_with fail;refine(q.out _ ?_).mono ?_
 ·exact zAr.alloc (Ab _) _
 rintro y w1 ⟨rfl,k⟩;have r:=Aa k;clear k;go_wp2;go_ret;have i:=r.out;cases l:read s with
 |error e=>rw[l]at i;obtain⟨o',g,j⟩:=i;exact⟨rfl,o',_,_,_,_,_,j⟩
 |ok p=>rw[l]at i;obtain⟨o',g,ge,gs,j⟩:=i;exact⟨rfl,o',_,_,_,_,_,j⟩
end
section
variable {w:World}
theorem LW.start (w:World):LW (λ_=>True) w (w.alloc (.cells #[.slice none 0 0,.slice none 0 0,.bool false] 92)) w.heap.size (λ_=>0) [] [] (.slice none 0 0) (.slice none 0 0) [] 0:=by refine⟨AE.new w 92 [.slice none 0 0,.slice none 0 0,.bool false],Sl.hQ _ _ _ _,Sl.hQ _ _ _ _,λi v h=>by simp at h,rfl,λi e p _ h=>by simp at h,(Ac.refl _ w).alloc (Ab _) _,⟨rfl,Ab _⟩,Ab _,Ab _⟩
end
section
variable {w:World}{v:Value}{l:List W7}{only:Int}
theorem ZO (h:Kd w v l) (Y:l.length<=1048576) (O:0<only)
  (d:∀(W:World) (gw:Nat) (o:Nat->Nat) (E:List EX) (n:List (Nat×Nat)) (f i:Value) (p:List Value) (m:Nat) (x:W7),LW (λ_=>True) w W gw o E n f i p m->m<=1999999->yX x->¬Je x.kind>Je only->
   Calls prog 30 #[.pointer (some ⟨gw,0,none⟩),oS x] W (Tj w gw m)):
  Calls prog 17 #[v,.int .i64 only] w λy w'=>y= .returned (.int .i64 (-1))/\Ac (λb=>w.heap.size<=b) w w':=by
 obtain⟨a,c,rfl,P,B,_⟩:=id h;have e1:decide (only>0)=true:=DX O;have Z:decide (only=0)=false:=Ck (by omega);have e3:decide (only= -1)=false:=Ck (by omega);have K:=LW.start w;obtain⟨H,Q,R⟩:=zq3 h d K;clear h d B K;go_enter func17,ntmps17;go_wp2_with fail
 go_loopg [12] l.length (λS C wr=>∃(k:Nat) (o:Nat->Nat) (E:List EX) (n:List (Nat×Nat)) (f i:Value) (p:List Value),k<=l.length/\l.length-k<=S/\C= .int .i64 k/\LW (λ_=>True) w wr w.heap.size o E n f i p k)
 case atStart=>exact⟨0,_,_,_,_,_,_,AQ _,by omega,rfl,R.out⟩
 case round=>
  obtain⟨k,o,E,n,f,i,p,z,hg,rfl,A⟩:=hrel;by_cases D:k<l.length
  ·obtain⟨x,L⟩:∃x,l[k]?=some x:=⟨_,Ae D⟩;obtain⟨g,T,rfl,q1,q2,q3,q4,q5,M⟩:=(H.out.later A.kept).at_ L;have j:=λW (z:Ac (λb=>wr.heap.size<=b) wr W)=>A.later z;have F:k<=1999999:=by omega
   obtain⟨q,U⟩:=zq2 j M;clear L A M j;by_cases r:Je x.kind>Je only
   ·have V:decide (Je x.kind>Je only)=true:=DX r;unfold vs at*;go_wp2_with (first|(go_at_call 29;refine(Xp _).mono ?_;rintro e w' ⟨rfl,rfl⟩));go_roundg (l.length-(k+1))
    case measure=>omega
    case rel=>exact⟨k+1,o,E,n,f,i,p,by omega,by omega,by go_num,(q.out _ (zAr.alloc (Ab _) _)).up (Ca _)⟩
   ·have V:decide (Je x.kind>Je only)=false:=Ck r;have N:=Aa (λW z=>Q.out W _ _ _ _ _ _ _ _ x (q.out W z) F U.out (by omega));unfold oS at N;unfold vs at*;go_wp2_with (first|(go_at_call 29;refine(Xp _).mono ?_;rintro e w' ⟨rfl,rfl⟩));refine(N.out _ ?_).mono ?_
    ·exact zAr.alloc (Ab _) _
    rintro y w1 ⟨rfl,o',X,G,s,t,I,u⟩;have J:=Aa u;clear u;go_wp2;go_roundg (l.length-(k+1))
    case measure=>omega
    case rel=>exact⟨k+1,o',X,G,s,t,I,by omega,by omega,by go_num,J.out⟩
  ·go_wp2;go_ret;exact⟨rfl,A.kept⟩
end
section
variable {w0 w:World}{gw:Nat}{o:Nat->Nat}{E:List EX}{ps:List (Nat×Nat)}{aD ba:Value}{vl:List Value}{m:Nat}{x:W7}
theorem dO (h:LW (λ_=>True) w0 w gw o E ps aD ba vl m) (b:ps.length=0) (d:x.kind≠1):
  Calls prog 30 #[.pointer (some ⟨gw,0,none⟩),oS x] w (Tj w0 gw m):=by
 obtain⟨kd,a,key,s⟩:=x;change kd≠1 at d;change ps.length=0 at b;have c:=h.row.cell 0;have g:=h.row.lt;obtain⟨e,f,rfl⟩:=h.es.bz;simp at c;rw[b]at c;have H:=Aa h;clear h;unfold oS;go_enter nk,gD;go_wp2;go_ret;exact⟨rfl,o,E,ps,_,ba,vl,(H.out.later (zAr.alloc (Ab _) _)).up (Ca _)⟩
end
section
variable {w0 w w':World}{gw:Nat}{o:Nat->Nat}{E:List EX}{ps:List (Nat×Nat)}{aD ba:Value}{vl:List Value}{m:Nat}
theorem LW.fresh (h:LW (λ_=>True) w0 w gw o E ps aD ba vl m) (d:Ac (λb=>w.heap.size<=b) w w'):
  LW (λ_=>True) w0 w' gw (λb=>if b<w.heap.size then o b else 2) E ps aD ba vl m:=
 h.move d (o':=λb=>if b<w.heap.size then o b else 2) (λb a=>Al a) (λb a c=>absurd a (Iy.2 c)) (λ_ h=>h)
theorem LW.hand (h:LW (λ_=>True) w0 w gw o E ps aD ba vl m) {v:Value}{t n:Nat}{l:List Value}(c:Sl (λb=>w.heap.size<=b) w' t 1 v n l):
  Sl (λb=>(λb=>if b<w.heap.size then o b else 2) b=2/\w0.heap.size<=b) w' t 1 v n l:=
 c.mono λb a=>⟨Ai (CJ.2 a),Ad h.kept.size a⟩
theorem LW.dv (h:LW (λ_=>True) w0 w gw o E ps aD ba vl m) {i:Nat}{e e':EX}{p:Nat×Nat}(u:E[i]?=some e) (x:ps[i]?=some p) {T:Nat->Prop}(y:Ac T w w')
  (z:∀b,T b->b<w.heap.size->w0.heap.size<=b/\(o b=3+2*i\/o b=4+2*i)) (P:Nat->Bool) {v:Value} (A:∀b,v.ownBlock=some b->w.heap.size<=b/\P b=true)
  (B:GR (λb=>((o b=3+2*i/\w0.heap.size<=b/\b<w.heap.size)\/(w.heap.size<=b/\P b=true))/\v.ownBlock≠some b) w' p.1 e')
  (C:MR (λb=>(o b=4+2*i/\w0.heap.size<=b/\b<w.heap.size)\/(w.heap.size<=b/\P b=false)) w' p.2 e') (D:PV e'.n (m+1)):
  LW (λ_=>True) w0 w' gw (λb=>if b<w.heap.size then o b else if v.ownBlock=some b then 2 else if P b=true then 3+2*i else 4+2*i) (E.set i e') ps aD ba vl (m+1):=by
 have f:LW (λj=>j≠i) w0 w' gw (λb=>if b<w.heap.size then o b else if v.ownBlock=some b then 2 else if P b=true then 3+2*i else 4+2*i) E ps aD ba vl (m+1):=
  (LW.move (K':=λj=>j≠i) h y (λb k=>Al k) (λb k g=>by
   obtain⟨a,c⟩:=z b k g;exact⟨a,by omega,by omega,λj q=>by omega⟩) (λ_ _=>trivial)).up (Ca _)
 have F:=h.kept.size;refine⟨f.row,f.es,f.ls,f.lists,by rw[A9];exact f.len,λj e1 G _ d l=>?_,f.kept,f.gw,f.nl,by rw[A9];exact f.ne⟩;by_cases q:j=i
 ·subst q;have H:j<E.length:=(Aj.1 u).1;rw[CF H]at d;injection d with d;subst d;obtain rfl:=Cn (x.symm.trans l);refine⟨B.shrink.mono λb k=>?_,C.mono λb g k=>?_,D⟩
  ·obtain⟨⟨I,J⟩,t⟩:=k;rcases I with⟨a,s,c⟩|⟨c,r⟩
   ·exact⟨⟨(Al c).trans a,s⟩,t⟩
   ·exact⟨⟨(Ai (CJ.2 c)).trans ((Ai J).trans (Al r)),by omega⟩,t⟩
  ·rcases k with⟨a,s,c⟩|⟨c,r⟩
   ·exact⟨⟨(Al c).trans a,s⟩,g⟩
   ·exact⟨⟨(Ai (CJ.2 c)).trans ((Ai (λe=>by have:=(A b e).2;rw[r]at this;cases this)).trans (Ai (by rw[r];decide))),by omega⟩,g⟩
 ·rw[BT (J6 q)]at d;exact f.qg j e1 G q d l
theorem LW.nN (h:LW (λ_=>True) w0 w gw o E ps aD ba vl m) {i:Nat}{P:Nat->Bool}{v:Value}{t n:Nat}{l:List Value}(a:Sl (λb=>w.heap.size<=b) w' t 1 v n l):
  Sl (λb=>(λb=>if b<w.heap.size then o b else if v.ownBlock=some b then 2 else if P b=true then 3+2*i else 4+2*i) b=2/\w0.heap.size<=b) w' t 1 v n l:=
 ⟨a.1,λb c=>⟨(Ai (CJ.2 (a.2 b c))).trans (Al c),Ad h.kept.size (a.2 b c)⟩⟩
theorem LW.qD (h:LW (λ_=>True) w0 w gw o E ps aD ba vl m) {i:Nat}{p:Nat×Nat}(a:ps[i]?=some p):
  ∃e,E[i]?=some e/\GR (λb=>(o b=3+2*i/\w0.heap.size<=b)/\b<w.heap.size) w p.1 e/\MR (λb=>(o b=4+2*i/\w0.heap.size<=b)/\b<w.heap.size) w p.2 e/\PV e.n m:=by
 have c:i<E.length:=by rw[←h.len];exact(Aj.1 a).1
 exact⟨_,Ae c,h.qg i _ p trivial (Ae c) a⟩
end
theorem PV.access {e e1:EX}{m:Nat}{key:Int}{hit:Bool}{gone:List Int}(c:Ej e.p) (d:PV e.n m) (h:e.access key= .ok hit gone e1):PV e1.n (m+1)/\gone.length<=1750000/\e1.p=e.p:=by
 unfold EX.access at h;simp only at h;cases a:exec e.p key (CZ e.p (Ek e.s key)) ⟨e.s,[]⟩with
 |error k=>rw[a]at h;cases h
 |ok r=>
  rw[a]at h;simp only at h;injection h with f g i;have b:=Tc c a;subst f g i;exact⟨d.up _ b,b,rfl⟩
end Go.Proofs.YtepoejiigmhlbaaGreatDoor.Ev
