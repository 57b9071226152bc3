/- Lemmas for a law's walk. Conditions: none. -/
import Derived.Test.YtodkkholbjeioaaGreatDoorZu14
set_option linter.all false
set_option maxRecDepth 100000
set_option maxHeartbeats 8000000
namespace Go.Proofs.YtodkkholbjeioaaGreatDoor.Ev
open _root_.Go.Proofs.Tryz
open Go Go.RowKit
def UX (w:World) (s:Ah) (e:Ending) (w':World):Prop:=
 Ac (λb=>w.heap.size<=b) w w'/\match read s with
  | .error (k,pos)=>e= .returned (.tuple #[.pointer none,.int .i64 k,.int .i64 pos])
  | .ok p=>∃ge,e= .returned (.tuple #[.pointer (some ⟨ge,0,none⟩),.int .i64 0,.int .i64 0])/\GT (λb=>w.heap.size<=b/\b<w'.heap.size) w' ge (EX.new p)
theorem sF.later {B:Nat}{w w':World}{gp c:Nat}{e:Value}{p:Ax}(h:sF B w gp c e p) {T:Nat->Prop}(a:Ac T w w') (f:∀b,T b->w.heap.size<=b):sF B w' gp c e p:=by
 have d:∀b,b<w.heap.size->¬T b:=λb l g=>by have:=f b g;omega
 obtain⟨M,i,_⟩:=h.rules;exact⟨h.row.kept a (d _ h.row.lt),h.decls.later a f,h.rules.kept (a.block c (d _ i.lt)) (λk cs m j=>a.block k (d k j.lt)),h.jo,h.nD⟩
theorem JQ.later {S T:Nat->Prop}{w w':World}{c gp d e a:Nat}{f:Value}{p:Ax}(h:JQ S w c p gp d e a f) (g:Ac T w w') (i:∀b,T b->w.heap.size<=b):JQ S w' c p gp d e a f:=
 h.kept g (λb _ k j=>by have:=i b j;omega)
theorem JQ.alloc {S:Nat->Prop}{w:World}{c gp d e a:Nat}{f:Value}{p:Ax}(h:JQ S w c p gp d e a f) (o:Obj):JQ S (w.alloc o) c p gp d e a f:=
 h.later ((Ac.refl (λb=>w.heap.size<=b) w).alloc (Ab _) o) (λb g=>g)
theorem oY {p:Ax}(d:Em p):G4 p (EX.new p).s:=by
 refine⟨CO,CO,λk l f e g=>?_,λk x h=>?_⟩
 ·have a:(List.replicate p.decls.length ([]:List Gp))[k]?=some l:=f;rw[By]at a;split at a
  ·injection a with a;subst a;cases g
  ·cases a
 ·have b:(List.replicate p.decls.length (0:Int))[k]?=some x:=h;rw[By]at b;split at b
  ·rename_i i;injection b with b;subst b;refine⟨Int.le_refl _,?_⟩;have c:=Wr (l:=p.decls) (q:=(k:Int)) ⟨by omega,by omega⟩;rw[As]at c;have:=(d.decls.each _ (Aw c)).lo;omega
  ·cases b
theorem xg {p:Ax}(j:Nat) (x:Int):¬NK (EX.new p).s j x:=by
 rintro⟨l,b,c⟩;have a:(List.replicate p.decls.length ([]:List Gp))[j]?=some l:=b;rw[By]at a;split at a
 ·injection a with a;subst a;cases c
 ·cases a
theorem mq {w W:World}{p:Ax}{n1 f n3 g gs i gp l m a n:Nat}{o e q r t:Value}(k:Em p) (P:JQ (λb=>w.heap.size<=b/\b<n1) W g p gp l m a o)
  (c:AF W gs 92 [.pointer (some ⟨i,0,none⟩),e]) (V:Sl (λb=>w.heap.size<=b/\(b<f\/n3<=b)) W 3 1 e p.decls.length (List.replicate p.decls.length (.int .i64 0)))
  (v:BL (λb=>f<=b/\b<n3) W i (Am.new p.decls.length) q r t n) (y:n1<=f) (H:w.heap.size<=f) (z:f<=n3) (A:n3<=gs):
  GT (λb=>w.heap.size<=b/\b<W.heap.size+1) (W.alloc (.cells #[.pointer (some ⟨g,0,none⟩),.pointer (some ⟨gs,0,none⟩),.int .i64 0,.int .i64 0,.int .i64 0] 79)) W.heap.size (EX.new p):=by
 have C:w.heap.size<=gs:=by omega
 have D:=c.lt;have e1:(EX.new p).s.vars.length=p.decls.length:=CO;have E:(EX.new p).s.vars.map JF=List.replicate p.decls.length (.int .i64 0):=by show(List.replicate p.decls.length (0:Int)).map JF=_;rw[Qf];rfl
 refine⟨g,gs,i,gp,l,m,a,o,e,(λb=>f<=b/\b<n3),Am.new p.decls.length,List.replicate p.decls.length [],AF.new W _ _,(P.alloc _).mono (λb d u=>⟨⟨u.1,?_⟩,λh=>by have:=u.2;have:=h.1;omega⟩),c.alloc _,?_,
  ⟨q,r,t,n,v.alloc _⟩,CE.new _ k.decls.len,oY k,k,λj x F=>absurd F (xg j x),λb d=>⟨by have:=d.1;omega,by have:=d.2;omega⟩,⟨⟨?_,by omega⟩,λh=>?_⟩,⟨⟨C,by omega⟩,λh=>by have:=h.2;omega⟩⟩
 ·simp at d;omega
 ·rw[e1,E];have G:=V.shrink.alloc (.cells #[.pointer (some ⟨g,0,none⟩),.pointer (some ⟨gs,0,none⟩),.int .i64 0,.int .i64 0,.int .i64 0] 79);exact G.mono (λb d=>⟨⟨d.1.1,by have:=d.2;omega⟩,λh=>by have:=d.1.2;have:=h.1;have:=h.2;omega⟩)
 ·omega
 ·have:=h.2;omega
theorem VV {w w1 W:World}{s:Ah}{p:Ax}{n1 c n3 l gs m gp r t a u ge:Nat}{v d x y z:Value}{E:List Value}(n:read s= .ok p) (A:E=List.replicate p.decls.length (.int .i64 0)) (o:Ac (λb=>w.heap.size<=b) w w1) (q:Ac (λb=>w1.heap.size<=b) w1 W)
  (P:JQ (λb=>w.heap.size<=b/\b<n1) W l p gp r t a v)
  (e:AF W gs 92 [.pointer (some ⟨m,0,none⟩),d]) (V:Sl (λb=>w.heap.size<=b/\(b<c\/n3<=b)) W 3 1 d p.decls.length E)
  (C:BL (λb=>c<=b/\b<n3) W m (Am.new p.decls.length) x y z u) (g:n1<=c) (D:w.heap.size<=c) (i:c<=n3) (j:n3<=gs) (k:ge=W.heap.size):
  UX w s (.returned (.tuple #[.pointer (some ⟨ge,0,none⟩),.int .i64 0,.int .i64 0])) (W.alloc (.cells #[.pointer (some ⟨l,0,none⟩),.pointer (some ⟨gs,0,none⟩),.int .i64 0,.int .i64 0,.int .i64 0] 79)):=by
 subst A k;refine⟨o.trans ((q.alloc q.size _).mono (λb f=>Ad o.size f)),?_⟩;rw[n];refine⟨_,rfl,?_⟩;have h:=mq (eV n) P e V C g D i j;exact h.mono (λb f=>⟨f.1,by simp;exact f.2⟩)
section
variable {B:Nat}{ea:Nat->Addr}{w:World}{s:Ah}
attribute [local go_sem ↓] Go.wp_at_zero Go.wp_at_succ
theorem pM (u:U6 B ea w) (A:JS B ea w) {k pos:Nat}(x:read s= .error (k,pos)):Calls prog 29 #[vs s] w (UX w s):=by
 obtain⟨C,D⟩:=aV x;have c:=aW u s;obtain⟨M,E,N,F⟩:=zq4 c u A x;clear c u A x;go_enter func29,ntmps29;go_wp2_with fail;refine M.out.mono ?_;rintro e w1 ⟨g,G⟩;rw[F.out]at G;obtain⟨gf,rfl,d,O⟩:=G;have H:=E.out.size;have l:=E.out.kept g (λb a=>Ad H a);have i:=N.out.kept g (λb a=>Ad H a);have I:=d.lt;have q:=Aa5 ⟨gf,0,none⟩ ⟨w1.heap.size,0,none⟩ (.pointer none) (w1.alloc (.cells #[.pointer none] 125))
  ((((Ac.refl (λb=>w1.heap.size<=b) w1).alloc (Ab _) (.cells #[.pointer none] 125)).cell (p:=⟨2,0,none⟩) (by have:=i.oq;have:=l.size;simp only;omega)).trans i.rH) (by simp) (by simp)
 obtain⟨P,J,r,y,Q⟩:=zq5 q g d l i;clear q g d l i;go_wp2_with fail;refine P.out.mono ?_;rintro e f ⟨rfl,m⟩;have o:Ac (λb=>w1.heap.size<=b) w1 f:=by
  rw[m]
  repeat' first|with_reducible exact Ac.refl _ _|with_reducible refine Ac.setCell ?_ (by simp) _|with_reducible refine Ac.alloc ?_ (by simp<;>omega) _
 have K:f.cell? ⟨w1.heap.size,0,none⟩=some (.pointer (some ⟨gf,0,none⟩)):=by
  rw[m];rw[World.cell?_setCell_same]
  case h=>exact(((((AF.new w1 125 [.pointer none]).alloc _).alloc _).alloc _).alloc _).cell 0
 have R:f.cell? ⟨gf,1,none⟩=some (.int .i64 pos):=(o.cell (p:=⟨gf,1,none⟩) (by simp only;omega)).trans (r.out.cell 1);have j:∀W,Ac (λb=>f.heap.size<=b) f W->Calls prog 38 #[.iface 125 (.pointer (some ⟨gf,0,none⟩))] W (sN W k):=λW S=>by have z:Ac (λb=>w1.heap.size<=b) w1 W:=o.trans (S.mono (λb a=>Ad o.size a));have e1:=y.out.kept z (λb a=>Ad y.out.size a);exact VM e1 C D (bD (Q.out.kept z (λb a=>Ad y.out.size a)) e1.size C D (r.out.kept z (by omega)))
 obtain⟨T,L⟩:=zq2 j o;have V:w1.heap.size<f.heap.size:=CU f _ K;have X:=o.size;clear m j o;go_wp2_with fail
 go_region_held3 (λw'=>w'.cell? ⟨w1.heap.size,0,none⟩=some (.pointer (some ⟨gf,0,none⟩))/\w'.cell? ⟨gf,1,none⟩=some (.int .i64 pos)/\Ac (λb=>f.heap.size<=b) f w')
  ((repeat' apply And.intro)<;>(first
   |assumption
   |exact(Ac.cell n (by simp only;omega)).trans K
   |exact(Ac.cell n (by simp only;omega)).trans R
   |(with_reducible exact zAr.drew)
   |go_keep
   ))
  (first
   |(go_at_call 38;refine(T.out _ ?_).mono ?_;(first|exact zAr.drew);rintro e w3 ⟨rfl,t⟩;have n:Ac (λb=>f.heap.size<=b) f w3:=(zAr.drew).trans (t.mono (λb a=>a));clear t))
 all_goals
  go_wp2;refine AB (v:=.tuple #[.pointer none,.int .i64 k,.int .i64 pos]) (by simp[results,Xz,go_sem]) rfl ?_;refine⟨?_,?_⟩
  ·have U:=n.mono (λb a=>Ad L.out.size a);exact J.out.trans ((L.out.trans U).mono (λb a=>Ad J.out.size a))
  ·rw[F.out]
theorem vD (he:U6 B ea w) {p:Ax}(hr:read s= .ok p):Calls prog 29 #[vs s] w (UX w s):=by
 have hp:=eV hr;have h8:=hp.decls.len;have m:=aW he s;obtain⟨i0,J,K,L,N⟩:=Bg L0;have bN:∀W:World,(Instr.makeSlice 46 (.int .i64 (p.decls.length:Int)) (.int .i64 (p.decls.length:Int))).run prog W=
   .ok (.slice (some ⟨W.heap.size,0,none⟩) p.decls.length p.decls.length) (W.alloc (.cells (List.replicate p.decls.length (Value.int .i64 0)).toArray 3)):=by
  intro W;have h:=WZ (P:=prog) W 46 3 i0 _ Fg J K .i64 .i64 (p.decls.length:Int) (p.decls.length:Int) (by omega) (by omega) (by rw[N];omega) (by omega);rw[L,As]at h;have e:(Value.int .i64 0).cells=#[Value.int .i64 0]:=rfl;rw[e,GQ,GC]at h;exact h
 obtain⟨HR,HX,HP⟩:=zq3 m hr hp;clear m he hr hp J K L N;generalize hE:(List.replicate p.decls.length (Value.int .i64 0))=E at bN;have A:=Aa hE;clear hE;go_enter func29,ntmps29;go_wp2_with fail;refine HR.out.mono ?_;rintro e w1 ⟨x,hm⟩;rw[HX.out]at hm;obtain⟨gp,bm,vd,rfl,g⟩:=hm;obtain⟨ad,cd,rfl⟩:∃a c,vd= .slice a p.decls.length c:=g.decls.shape;have p0:=g.row.cell 0;simp at p0;have O:∀W,Ac (λb=>w1.heap.size<=b) w1 W->Calls prog 50 #[.pointer (some ⟨gp,0,none⟩)] W λe w'=>
   ∃Q bc f,e= .returned (.pointer (some ⟨Q,0,none⟩))/\Ac (λb=>W.heap.size<=b) W w'/\JQ (λb=>w.heap.size<=b/\b<w'.heap.size) w' Q p gp bm bc f (.slice ad p.decls.length cd):=λW hk=>by
  have hW:=g.later hk (λb d=>d);have bO:w.heap.size<=W.heap.size:=Ad x.size hk.size;refine(zW10 hW HP.out).mono ?_;rintro e w' ⟨Q,bc,f,h1,h2,h3⟩;have j:=hW.later h2 (λb d=>d);obtain⟨M,m1,_⟩:=j.rules;exact⟨Q,bc,f,h1,h2,h3.dd (λb h4 h5=>⟨Ad bO h5,h4⟩),j.row,j.decls.shrink.mono (λb d=>⟨d.1,d.2⟩),FT.dd j.rules (λk h4 h5=>⟨h5,h4⟩),⟨j.jo,j.row.lt⟩,⟨j.nD,m1.lt⟩⟩
 have u:∀W:World,Calls prog 51 #[.int .i64 (p.decls.length:Int)] W λe w'=>
   ∃R,e= .returned (.pointer (some ⟨R,0,none⟩))/\Ac (λb=>W.heap.size<=b) W w'/\∃C D F G,BL (λb=>W.heap.size<=b/\b<w'.heap.size) w' R (Am.new p.decls.length) C D F G:=λW=>by
  refine(vB (S:=λb=>W.heap.size<=b) (λk hk=>hk) p.decls.length (by omega)).mono ?_;rintro e w' ⟨R,h1,h2,C,D,F,G,h3⟩;exact⟨R,h1,h2,C,D,F,G,h3.shrink⟩
 obtain⟨bT,T,H⟩:=zq3 O u x;have dF:=g.row.lt;clear O u x g;go_wp2_with fail
 go_region_held3 (λw'=>Ac (λb=>w1.heap.size<=b) w1 w')
  (first
   |assumption
   |(with_reducible exact zAr.drew)
   |exact(zAr.drew).alloc (Ab _) _
   |exact o.alloc z2 _
   |exact l.alloc I _
   |exact(l.alloc I _).alloc (by simp;omega) _
   |exact((l.alloc I _).alloc (by simp;omega) _).alloc (by simp;omega) _)
  (first
   |(go_at_call 50;refine(bT.out _ ?_).mono ?_;(first|exact zAr.drew|exact(zAr.drew).alloc (Ab _) _);rintro e w2 ⟨Q,bc,f,rfl,q,U⟩;have o:Ac (λb=>w1.heap.size<=b) w1 w2:=(by first|exact(zAr.drew).trans (q.mono (λb d=>d))|exact(((Ac.refl (λb=>w1.heap.size<=b) w1).drew).alloc (Ab _) _).trans (q.mono (λb d=>by simp at d;omega)));have z2:=o.size;have r:=Aa q;have y:=Aa U;clear q U)
   |(go_at_call 51;refine(T.out _).mono ?_;rintro e w3 ⟨R,rfl,t,V⟩;have l:Ac (λb=>w1.heap.size<=b) w1 w3:=(by first|exact o.trans (t.mono (λb d=>Ad z2 d))|exact(o.alloc z2 _).trans (t.mono (λb d=>by simp at d;omega)));have I:=l.size;have i:=Aa t;have z:=Aa V;clear t V))
 all_goals go_wp2
 ·obtain⟨C,D,F,G,X⟩:=z.out;obtain⟨s1,Y,Z⟩:=zp3 H.out.size r.out.size i.out.size;have n:E.length=p.decls.length*1:=by rw[←A.out];simp
  simp at Y Z;refine AB (v:=.tuple #[.pointer (some ⟨w3.heap.size+1+1,0,none⟩),.int .i64 0,.int .i64 0]) (by simp[results,Xz,go_sem]) rfl ?_;exact VV HX.out A.out.symm H.out ((l.alloc I _).alloc (by simp;omega) _) (((y.out.later i.out (λb d=>by simpa using d)).alloc _).alloc _) (AF.fN _ _ (by simp))
   ((Sl.fO (AF.new _ _ _) ⟨by omega,.inr (Ab _)⟩ n (by unfold maxLen;omega)).alloc _) ((X.alloc _).alloc _) (by simp) (by first|omega|(simp;omega)) (by first|omega|(simp;omega)) (by simp) (by simp)
 ·obtain⟨C,D,F,G,X⟩:=z.out;obtain⟨s1,Y,Z⟩:=zp3 H.out.size r.out.size i.out.size;have n:E.length=p.decls.length*1:=by rw[←A.out];simp
  simp at Y Z;refine AB (v:=.tuple #[.pointer (some ⟨w3.heap.size+1,0,none⟩),.int .i64 0,.int .i64 0]) (by simp[results,Xz,go_sem]) rfl ?_;exact VV HX.out A.out.symm H.out (l.alloc I _) (((y.out.alloc _).later i.out (λb d=>by simpa using d)).alloc _) (AF.fN _ _ (by simp))
   (((Sl.fO (AF.new _ _ _) ⟨by omega,.inl (by simp)⟩ n (by unfold maxLen;omega)).later i.out (λb d=>d)).alloc _) (X.alloc _) (by simp) (by first|omega|(simp;omega)) (by first|omega|(simp;omega)) (by simp) (by simp)
 ·obtain⟨C,D,F,G,X⟩:=z.out;obtain⟨s1,Y,Z⟩:=zp3 H.out.size r.out.size i.out.size;have n:E.length=p.decls.length*1:=by rw[←A.out];simp
  simp at Y Z;refine AB (v:=.tuple #[.pointer (some ⟨w3.heap.size+1,0,none⟩),.int .i64 0,.int .i64 0]) (by simp[results,Xz,go_sem]) rfl ?_;exact VV HX.out A.out.symm H.out (l.alloc I _) ((y.out.later i.out (λb d=>by simpa using d)).alloc _) (AF.fN _ _ (by simp))
   (((((Sl.fO (AF.new _ _ _) ⟨by first|omega|(simp;omega),.inl (by first|omega|(simp;omega))⟩ n (by unfold maxLen;omega)).of_heap (w':=(w1.alloc (.cells E.toArray 3)).drew) rfl).later r.out (λb d=>d)).later i.out (λb d=>d)).alloc _) (X.alloc _) (by simp) (by first|omega|(simp;omega)) (by first|omega|(simp;omega)) (by simp) (by simp)
theorem bt (a:U6 B ea w) (c:JS B ea w) (s:Ah):Calls prog 29 #[vs s] w (UX w s):=by
 cases b:read s with
 |error x=>exact pM a c (k:=x.1) (pos:=x.2) b
 |ok p=>exact vD a b
end
theorem gP {p:Ax}{key:Int}{v:VS}{i:Gm}(a:Yi i=true) (r:Except Nat DQ):EB p key v i≠some (.inr r):=by
 intro h;cases i<;>simp only[Yi]at a<;>first|cases a|skip
 all_goals
  simp only[EB]at h
  first
   |(split at h<;>simp at h)
   |simp at h
theorem Aa4 {i:Gm}(a:Yi i=true):9<=i.op/\i.op<=16:=by cases i<;>first|(simp[Gm.op];done)|(simp[Yi]at a;done)
theorem VP {l:List Int}{c:Nat}{n:Int}(h:∀m∈l,0<=m/\m<=50) (b:0<=n/\n<=50):∀m∈l.set c n,0<=m/\m<=50:=by
 intro m d;rcases EJ d with a|a
 ·exact h m a
 ·exact a▸b
theorem vk (y:D4):y.op<=8:=by
 cases y with
 |put q t=>cases t<;>simp[D4.op]
 |shift a b t=>cases t<;>simp[D4.op]
 |_=>simp[D4.op]
section
variable {B:Nat}{ea:Nat->Addr}{w0 w:World}{x:RV}{p:Ax}{key ev:Int}{code:List Gm}{gl cap:Nat}{res:Except Nat DQ}
theorem eG (d:Sl (λb=>b<B) w 172 3 (.slice (some ⟨gl,0,none⟩) code.length cap) code.length (code.flatMap Cz)) {pc:Nat}{i:Gm}(h:code[pc]?=some i):
  w.cell? ⟨gl,pc*3,none⟩=some (.int .u8 i.op)/\w.cell? ⟨gl,pc*3+1,none⟩=some (.int .i64 i.a)/\w.cell? ⟨gl,pc*3+2,none⟩=some (.int .i64 i.b)/\gl<w.heap.size/\pc<code.length/\code.length<=cap/\cap<=maxLen:=by
 have c:=λj k=>d.at_ (f:=Cz) (λ_=>rfl) h (j:=j) k;have l:=(Aj.1 h).1;obtain⟨g,r,e,_,m,n,o⟩:=d.form (by omega);injection e with e1 _ q;injection e1 with e1;injection e1 with e1;subst e1 q;exact⟨c 0 (by omega),c 1 (by omega),c 2 (by omega),o,l,m,n⟩
theorem pb (dG:∀c n,Gm.count c n∈code->0<=n/\n<=50) (hp:Em p) (he:TU B ea w0) (hc:Sl (λb=>b<B) w0 172 3 (.slice (some ⟨gl,0,none⟩) code.length cap) code.length (code.flatMap Cz))
  {T:Nat->Prop} {A:Am} {U:List (List Nat)} {s:St} {k0 bc:Nat} {M:G5} (d:Ve p key code k0 ⟨0,[],false,List.replicate x.lp 0,⟨s,[]⟩⟩=some res) (hm:BR w0 bc .i64 M) (hM:FX M ev=some (.slice (some ⟨gl,0,none⟩) code.length cap))
  (m:uh B w0 x.gg x.gp x.vd x.qx (.map (some bc)) x.lp p) (dH:zB B w0 x.gs x.ga x.mu T A s.vars) (hA:CE A U s.q) (hS:G4 p s) (hB:B<=w0.heap.size) (fK:x.lp<=490000)
  (x1:x.gr=w0.heap.size+1) (x2:x.lV= .slice (some ⟨w0.heap.size,0,none⟩) x.lp x.lp) (x3:x.qz= .map (some bc)):
  Calls prog 37 #[.pointer (some ⟨x.gg,0,none⟩),.pointer (some ⟨x.gs,0,none⟩),.int .i64 ev,.int .u64 key] w0 (io B ea w0 x.gs p res):=by
 have hJ:=Cr.first (key:=key) m dH hB fK;have bZ:Ac (λb=>B<=b) w0 ((w0.alloc (.cells (List.replicate x.lp (Value.int .i64 0)).toArray 3)).alloc (.cells #[.pointer (some ⟨x.gg,0,none⟩),.pointer (some ⟨x.gs,0,none⟩),.int .u64 key,.slice none 0 0,.bool false,.slice (some ⟨w0.heap.size,0,none⟩) x.lp x.lp,.slice none 0 0] 169)):=
  ((Ac.refl _ w0).alloc hB _).alloc (Ad hB (by simp)) _
 have ex:(⟨w0.heap.size+1,x.gg,x.gp,x.gs,x.ga,x.vd,x.qx,.map (some bc),x.lp,.slice none 0 0,.slice (some ⟨w0.heap.size,0,none⟩) x.lp x.lp,.slice none 0 0,x.mu⟩:RV)={x with nw:=.slice none 0 0,iT:=.slice none 0 0}:=by rw[←x1,←x2,←x3]
 rw[ex]at hJ;have c1:=m.prog.cell 1;have c2:=m.prog.cell 2;have hz:∀w:World,(zeroValue 165).run prog w= .ok (.slice none 0 0) w:=λw=>by kernel_rfl
 have L:=hm.lookup (P:=prog) gU Db hz ev true;rw[hM]at L;obtain⟨i0,dK,dL,dN,dO⟩:=Bg L0;have fM:∀W:World,(Instr.makeSlice 46 (.int .i64 (x.lp:Int)) (.int .i64 (x.lp:Int))).run prog W=
   .ok (.slice (some ⟨W.heap.size,0,none⟩) x.lp x.lp) (W.alloc (.cells (List.replicate x.lp (Value.int .i64 0)).toArray 3)):=by
  intro W;have h:=WZ (P:=prog) W 46 3 i0 _ Fg dK dL .i64 .i64 (x.lp:Int) (x.lp:Int) (by omega) (by omega) (by rw[dO];omega) (by omega);rw[dN,As]at h;have e:(Value.int .i64 0).cells=#[Value.int .i64 0]:=rfl;rw[e,GQ,GC]at h;exact h
 generalize hE:List.replicate x.lp (Value.int .i64 0)=E at fM hJ bZ;obtain⟨HJ,ci,fN,fO,fP,fR⟩:=zq6 hJ d hA hS bZ x1;clear hJ d hA hS bZ ex x1 x2 x3 hE dK dL dN dO hM hm m dH hB;simp at c1 c2 L;go_enter func37,ntmps37;go_wp2;refine OR 0 (Aof B ea w0 x p ev key code gl cap res) rfl ?_ ?_
 ·intro V;have HP:=Aa V;clear V;apply wp_seq_k;intro K0 dP;have fS:=Aa dP;clear dP;go_wp2;refine fS.out _ _ ?_;apply wp_seq_k;intro K1 dQ;have fT:=Aa dQ;clear dQ;go_wp2;refine fT.out _ _ ?_;apply wp_seq_k;intro K2 dR;have N:=Aa dR;clear dR;go_wp2;refine N.out _ _ ?_;apply wp_seq_k;intro K3 dS;have fU:=Aa dS;clear dS;go_wp2;refine fU.out _ _ ?_;refine wp_seq (wp_label ?_);refine HP.out k0 _ _ ⟨⟨0,[],false,List.replicate x.lp 0,⟨s,[]⟩⟩,.slice none 0 0,.slice none 0 0,T,A,U,Ln _ (λu=>Vw x.gg x.gs x.gr gl code.length cap 0 ev key u) (by rw[fR.out];rfl),ci.out,HJ.out,fN.out,fO.out,AM _,?_,fP.out⟩;intro n hn;have:=List.eq_of_mem_replicate hn;omega
 ·rintro k a w1 ⟨v,st,ou,T,A,U,⟨u,rfl⟩,d,hr,hA,hS,L,dU,hk⟩;cases k with
  |zero=>cases d
  |succ k=>
   unfold Ve at d;cases hi:code[v.pc]? with
   |none=>rw[hi]at d;cases d
   |some i=>
    rw[hi]at d;simp only at d;have cj:=hc.kept hk (λb hb jG=>by have h1:=hc.2 b hb;simp only at h1;omega);have dW:=he.kept hk (λb hb=>hb);obtain⟨S,s1,s2,jR,kG,lm,gH⟩:=eG cj hi;obtain⟨HC,HE,z,HA,HS,HK,F,HB⟩:=zq8 cj dW hr hA hS hk dU hr.base;have r1:x.gr<w1.heap.size:=hr.row.lt;have q1:¬x.gr=w1.heap.size:=by omega
    have q2:¬gl=w1.heap.size:=by omega
    unfold maxLen at gH;clear cj dW hr hA hS hk dU;have HI:=Aa hi;clear hi;unfold Vw;by_cases l:Yi i=true
    ·cases hv:EB p key v i with
     |none=>rw[hv]at d;cases d
     |some y=>
      cases y with
      |inr r=>exact absurd hv (gP l r)
      |inl v'=>
       rw[hv]at d;simp only at d;have m:=z.out.grown ((Ac.refl _ w1).alloc (Ab _) (.cells (Cz i).toArray 172)) z.out.base;obtain⟨f,bX,fc,bY,fd⟩:=xt m hp HA.out HS.out L l hv;obtain⟨o9,gI⟩:=Aa4 l;unfold Cz at f m;obtain⟨o,ho⟩:∃o:Int,o=i.op:=⟨_,rfl⟩;rw[←ho]at f S m;have e9:9<=o:=by omega
       have lT:o<=16:=by omega
       have ik:(o==21)=false:=by simp;omega
       have iu:(o==17)=false:=by simp;omega
       have iw:(o==18)=false:=by simp;omega
       have ix:(o==19)=false:=by simp;omega
       have iy:(o==20)=false:=by simp;omega
       obtain⟨G,g,iz,fx,t,iA⟩:=zq6 f d bX fc fd bY;clear f d bX fc bY fd m ho o9 gI hv l L;generalize i.a=ia at*;generalize i.b=ib at*;go_wp2_with (go_at_call 63;refine G.out.mono ?_;rintro e w2 ⟨rfl,J,u2,X⟩;have N:=Aa J;have cu:=Aa X;clear J X)
       go_step3
       refine⟨rfl,k,Ef k,v',u2,ou,T,A,U,?_,g.out,cu.out,by rw[fx.out];exact HA.out,by rw[fx.out];exact HS.out,t.out,by rw[iA.out];exact F.out,(HK.out.alloc HB.out _).trans N.out⟩;rw[iz.out];exact Ln _ _ rfl
    ·cases i with
     |fin=>
      simp only[EB]at d;injection d with d;subst d;have c6:=z.out.row.cell 6;simp at c6;have bT:w1.cell? ⟨gl,v.pc*3,none⟩=some (.int .u8 21):=S;have bU:w1.cell? ⟨gl,v.pc*3+1,none⟩=some (.int .i64 0):=s1;have bV:w1.cell? ⟨gl,v.pc*3+2,none⟩=some (.int .i64 0):=s2;clear S s1 s2 L l;go_wp2;go_ret2;obtain⟨vl,vf,vq,bm,l7⟩:=z.out.ar;have hg:=z.out.grown ((Ac.refl _ w1).alloc (Ab _) (.cells #[.int .u8 21,.int .i64 0,.int .i64 0] 172)) z.out.base;exact⟨HK.out.alloc HB.out _,ou,x.ga,x.mu,T,A,U,rfl,hg.state,HA.out,HS.out,hg.out,λb hb=>⟨hg.s3 b hb,λe=>hg.out.bK hg.bS (by decide) (e▸hb),λe=>hg.vars.fH hg.out (by decide) b e hb⟩⟩
     |jump a=>
      simp only[EB]at d;have bT:w1.cell? ⟨gl,v.pc*3,none⟩=some (.int .u8 17):=S;have bU:w1.cell? ⟨gl,v.pc*3+1,none⟩=some (.int .i64 a):=s1;have bV:w1.cell? ⟨gl,v.pc*3+2,none⟩=some (.int .i64 0):=s2;obtain⟨g,t⟩:=zq2 d L;clear S s1 s2 L l d;go_wp2
      go_step3
      exact⟨rfl,k,Ef k,{v with pc:=a},st,ou,T,A,U,Ln _ _ rfl,g.out,(z.out.grown ((Ac.refl _ w1).alloc (Ab _) _) z.out.base).at_ a,HA.out,HS.out,t.out,F.out,HK.out.alloc HB.out _⟩
     |skip a=>
      simp only[EB]at d;have bT:w1.cell? ⟨gl,v.pc*3,none⟩=some (.int .u8 18):=S;have bU:w1.cell? ⟨gl,v.pc*3+1,none⟩=some (.int .i64 a):=s1;have bV:w1.cell? ⟨gl,v.pc*3+2,none⟩=some (.int .i64 0):=s2;have c4:=z.out.row.cell 4;have t:=Aa L;clear S s1 s2 L l;cases hy:v.yes with
      |true=>
       rw[Al hy]at d;simp at c4;rw[hy]at c4;have g:=Aa d;clear d hy;go_wp2
       go_step3
       exact⟨rfl,k,Ef k,{v with pc:=v.pc+1},st,ou,T,A,U,Ln _ _ rfl,g.out,(z.out.grown ((Ac.refl _ w1).alloc (Ab _) _) z.out.base).at_ _,HA.out,HS.out,t.out,F.out,HK.out.alloc HB.out _⟩
      |false=>
       rw[Ai (by rw[hy];decide)]at d;simp at c4;rw[hy]at c4;have g:=Aa d;clear d hy;go_wp2
       go_step3
       exact⟨rfl,k,Ef k,{v with pc:=a},st,ou,T,A,U,Ln _ _ rfl,g.out,(z.out.grown ((Ac.refl _ w1).alloc (Ab _) _) z.out.base).at_ _,HA.out,HS.out,t.out,F.out,HK.out.alloc HB.out _⟩
     |count c n=>
      simp only[EB]at d;by_cases O:c<v.loops.length
      ·rw[Al O]at d;simp only at d;obtain⟨Q,cv,H,_,iC,cy,iD⟩:=z.out.loops.form (by omega);have bT:w1.cell? ⟨gl,v.pc*3,none⟩=some (.int .u8 19):=S;have bU:w1.cell? ⟨gl,v.pc*3+1,none⟩=some (.int .i64 c):=s1;have bV:w1.cell? ⟨gl,v.pc*3+2,none⟩=some (.int .i64 n):=s2;have c5:=z.out.row.cell 5;simp at c5;rw[show x.lV=_ from H]at c5;have C:=z.out.loops;rw[show({x with nw:=st,iT:=ou}:RV).lV=_ from H]at C;have cc:∃y,w1.cell? ⟨Q,c,none⟩=some y:=by have h2:=C.1.cellAt c (by simpa using O);rw[At,Ae O]at h2;exact⟨_,h2⟩
       obtain⟨y,cc⟩:=cc;have cf:∀j,w1.frozen? ⟨Q,j,none⟩=false:=λj=>C.1.frozenAt j;have q3:¬Q=w1.heap.size:=by omega
       have K:=λnq=>(z.out.grown (w':=(w1.alloc (.cells #[.int .u8 19,.int .i64 c,.int .i64 n] 172)).drewN nq) (((Ac.refl _ w1).alloc (Ab _) _).drewN nq) z.out.base).lX H c n;have Y:B<=Q:=C.2 Q rfl;obtain⟨g,t,Z,cz⟩:=zq4 d L K Y;generalize v.loops.length=LL at*;unfold maxLen at cy;clear S s1 s2 L l d H C K Y;go_wp2;refine G9 9 (by kernel_rfl) (by kernel_rfl) ?_;simp only[Au,AI,Av,AK]
       repeat (go_big_quiet_step (fail))
       refine It ?_;intro nq;go_wp2
       go_step3
       exact⟨rfl,k,Ef k,{v with pc:=v.pc+1,loops:=v.loops.set c n},st,ou,T,A,U,Ln _ _ rfl,g.out,(Z.out nq).at_ _,HA.out,HS.out,t.out,VP F.out (dG c n (Aw HI.out)),((HK.out.alloc HB.out _).drewN nq).setCell (p:=⟨Q,c,none⟩) cz.out _⟩
      ·rw[Ai O]at d;cases d
     |again c a=>
      simp only[EB]at d;cases R:v.loops[c]? with
      |none=>rw[R]at d;cases d
      |some n=>
       rw[R]at d;simp only at d;have O:c<v.loops.length:=(Aj.1 R).1;obtain⟨mc,jm⟩:=F.out n (Aw R);obtain⟨Q,cv,H,_,iC,cy,iD⟩:=z.out.loops.form (by omega);have bT:w1.cell? ⟨gl,v.pc*3,none⟩=some (.int .u8 20):=S;have bU:w1.cell? ⟨gl,v.pc*3+1,none⟩=some (.int .i64 c):=s1;have bV:w1.cell? ⟨gl,v.pc*3+2,none⟩=some (.int .i64 a):=s2;have c5:=z.out.row.cell 5;simp at c5;rw[show x.lV=_ from H]at c5;have C:=z.out.loops;rw[show({x with nw:=st,iT:=ou}:RV).lV=_ from H]at C;have cc:w1.cell? ⟨Q,c,none⟩=some (.int .i64 n):=by have h2:=C.1.cellAt c (by simpa using O);rw[At,R]at h2;exact h2
       have cf:∀j,w1.frozen? ⟨Q,j,none⟩=false:=λj=>C.1.frozenAt j;have q3:¬Q=w1.heap.size:=by omega
       have cB:=λnq=>z.out.grown (w':=(w1.alloc (.cells #[.int .u8 20,.int .i64 c,.int .i64 a] 172)).drewN nq) (((Ac.refl _ w1).alloc (Ab _) _).drewN nq) z.out.base;have K:=λnq=>(cB nq).lX H c (n-1);have Y:B<=Q:=C.2 Q rfl;obtain⟨g,t,Z,iF,cz⟩:=zq5 d L K cB Y;generalize iG:v.loops.length=LL at*;unfold maxLen at cy;clear iG;clear S s1 s2 L l d H C K cB Y R;by_cases hz:n=0
       ·subst hz;have d:=g.out;rw[Al rfl]at d;simp only at d;have D:=Aa d;clear d;go_wp2;go_quiet (fail);go_wp2
        go_step3
        exact⟨rfl,k,Ef k,{v with pc:=a},st,ou,T,A,U,Ln _ _ rfl,D.out,(iF.out nq).at_ _,HA.out,HS.out,t.out,F.out,(HK.out.alloc HB.out _).drewN nq⟩
       ·have d:=g.out;rw[Ai hz]at d;simp only at d;have D:=Aa d;have z1:(n==0)=false:=by simpa using hz
        have z2:decide (n=0)=false:=by simpa using hz
        have mg:IntKind.i64.wrap (n-1)=n-1:=CV _ (by omega);clear d;go_wp2;go_quiet (fail);go_wp2;refine G9 10 (by kernel_rfl) (by kernel_rfl) ?_;simp only[Au,AI,Av,AK]
        repeat (go_big_quiet_step (fail))
        refine It ?_;intro mh;go_wp2
        go_step3
        exact⟨rfl,k,Ef k,{v with pc:=v.pc+1,loops:=v.loops.set c (n-1)},st,ou,T,A,U,Ln _ _ rfl,D.out,(Z.out _).at_ _,HA.out,HS.out,t.out,VP F.out (by omega),((HK.out.alloc HB.out _).drewN _).setCell (p:=⟨Q,c,none⟩) cz.out _⟩
     |bN y=>
      simp only[EB]at d;by_cases be:Ki p.decls y/\v.r.gone.length<Do
      ·rw[Al be]at d;have m:=z.out.grown ((Ac.refl _ w1).alloc (Ab _) (.cells (Cz (.bN y)).toArray 172)) z.out.base;have bW:=HE.out.kept ((Ac.refl (λb=>B<=b) w1).alloc z.out.base (.cells (Cz (.bN y)).toArray 172)) (λb hb=>hb);have f:=wS m bW hp HA.out HS.out be.2 be.1;have o8:=vk y;unfold Cz at f m bW;obtain⟨o,ho⟩:∃o:Int,o=(Gm.bN y).op:=⟨_,rfl⟩;have e8:o<=8:=by rw[ho];show((y.op:Nat):Int)<=8;omega
       rw[←ho]at f S m bW;have ik:(o==21)=false:=by simp;omega
       have iu:(o==17)=false:=by simp;omega
       have iw:(o==18)=false:=by simp;omega
       have ix:(o==19)=false:=by simp;omega
       have iy:(o==20)=false:=by simp;omega
       obtain⟨g,G,t,fB⟩:=zq4 d f L ((HK.out.alloc HB.out (.cells #[.int .u8 o,.int .i64 (Gm.bN y).a,.int .i64 (Gm.bN y).b] 172)));clear d f m bW ho o8 be l L;generalize (Gm.bN y).a=ia at*;generalize (Gm.bN y).b=ib at*;cases hx:bN p key y v.r with
       |error ke=>
        have d:=g.out;rw[hx]at d;simp only at d;injection d with d;subst d;have f:=G.out;rw[hx]at f;have I:=Aa f;clear f hx;go_wp2_with (go_at_call 64;refine I.out.mono ?_;rintro e w2 ⟨J,fC⟩;have iH:e= .returned (.iface 304 (.pointer (some (ea ke)))):=fC;subst iH;have N:=Aa J;clear J fC);go_ret2;exact⟨fB.out.trans N.out,rfl⟩
       |ok r'=>
        have d:=g.out;rw[hx]at d;simp only at d;have f:=G.out;rw[hx]at f;obtain⟨I,D⟩:=zq2 f d;clear f hx d;go_wp2_with (go_at_call 64;refine I.out.mono ?_;rintro e w2 ⟨J,rfl,X⟩;have N:=Aa J;have cu:=Aa X;clear J X)
        go_step3
        obtain⟨iI,u2,A',i8,r1,r2,r3⟩:=cu.out;exact⟨rfl,k,Ef k,{v with pc:=v.pc+1,r:=r'},st,u2,iI,A',i8,Ln _ _ rfl,D.out,r1.at_ _,r2,r3,t.out,F.out,fB.out.trans N.out⟩
      ·rw[Ai be]at d;cases d
     |_=>exact absurd rfl l
def Abe (w0:World) (e:Ending) (w':World):Prop:=e= .returned (.tuple #[.slice none 0 0,.nilIface])/\w'=w0
theorem pa {d gs e j:Nat}{l:Value}{M:G5}(f:BR w0 e .i64 M) (g:FX M ev=none) (c:AF w0 d 75 [l,.map (some e),.int .i64 j]):
  Calls prog 37 #[.pointer (some ⟨d,0,none⟩),.pointer (some ⟨gs,0,none⟩),.int .i64 ev,.int .u64 key] w0 (Abe w0):=by
 have m:=c.cell 1;have n:∀w:World,(zeroValue 165).run prog w= .ok (.slice none 0 0) w:=λw=>by kernel_rfl
 have i:=f.lookup (P:=prog) gU Db n ev true;rw[g]at i;clear f g c;simp at m i;go_enter func37,ntmps37;go_wp2;refine OR 0 (λ_ _ _=>False) rfl ?_ ?_
 ·intro b;clear b;go_wp2;go_ret2;exact⟨rfl,rfl⟩
 ·intro k a w h;exact h.elim
theorem uT {o gp gs r t f:Nat}{C i h:Value}{M:G5}{D:Nat->Prop}{A:Am}{E:List (List Nat)}{s:St}(m:Em p) (J:TU B ea w0) (j:uh B w0 o gp C i (.map (some t)) f p) (k:zB B w0 gs r h D A s.vars) (F:CE A E s.q) (G:G4 p s)
  (K:B<=w0.heap.size) (u:f<=490000) (H:BR w0 t .i64 M)
  (n:match Bj p.rules ev with|some _=>∃v,FX M ev=some v/\WA (λb=>b<B) w0 p.rules f ev v|none=>FX M ev=none):
  Calls prog 37 #[.pointer (some ⟨o,0,none⟩),.pointer (some ⟨gs,0,none⟩),.int .i64 ev,.int .u64 key] w0 (io B ea w0 gs p (exec p key (C0 p ev) ⟨s,[]⟩)):=by
 cases a:Bj p.rules ev with
 |none=>
  rw[a]at n;have e:exec p key (C0 p ev) ⟨s,[]⟩= .ok ⟨s,[]⟩:=by unfold C0;rw[a];rfl
  rw[e];refine(pa H n j.prog).mono ?_;rintro e w' ⟨rfl,rfl⟩;exact⟨Ac.refl _ _,_,r,h,D,A,E,rfl,k,F,G,⟨Cn _ _ _ _,λg L=>by cases L⟩,λb N=>by cases N⟩
 |some b=>
  rw[a]at n;obtain⟨v,O,Q,c,d,I,y⟩:=n;rw[a]at d;injection d with d;subst d;have e:C0 p ev=b:=by unfold C0;rw[a];rfl
  rw[e];have l:0<(O6 c b).length:=by unfold O6;simp
  obtain⟨gl,cap,rfl,_⟩:=I.form l;obtain⟨R,z⟩:=pe (key:=key) b c (iS m a) s (List.replicate f 0) (by simpa using y) (Ad (To m a) (by unfold Do;omega));have P:=m.rules.each _ (Kv a);exact pb (x:=⟨w0.heap.size+1,o,gp,gs,r,C,i,.map (some t),f,.slice none 0 0,.slice (some ⟨w0.heap.size,0,none⟩) f f,.slice none 0 0,h⟩) (code:=O6 c b) (eN P.w) m J I z H O j k F G K u rfl rfl rfl
end
theorem bg {α:Type}{f:α->List Value}(a:∀x,∀u∈f x,u.oneCell'=true) (l:List α):∀u∈l.flatMap f,u.oneCell'=true:=by intro u b;obtain⟨x,_,c⟩:=ni.1 b;exact a x u c
structure Clo (w:World) (A:Am) (wx:World) (gb bm:Nat) (vl vf vq:Value):Prop where
 row:AF wx gb 161 [vl,vf,vq,.map (some bm)]
 l:Sl (λb=>w.heap.size<=b) wx 163 5 vl A.l.length (A.l.flatMap D8)
 f:Sl (λb=>w.heap.size<=b) wx 3 1 vf A.free.length (A.free.map L8)
 q:Sl (λb=>w.heap.size<=b) wx 185 3 vq A.qs.length (A.qs.flatMap EP)
 m:BR wx bm .u64 []
 g0:w.heap.size<=gb
 m0:w.heap.size<=bm
 kept:Ac (λb=>w.heap.size<=b) w wx
theorem mD {w W:World}{A:Am}{d bm:Nat}{vl vf vq:Value}(a:d=W.heap.size) (e:BR W bm .u64 []) (f:Sl (λb=>w.heap.size<=b) W 163 5 vl A.l.length (A.l.flatMap D8))
  (h:Sl (λb=>w.heap.size<=b) W 3 1 vf A.free.length (A.free.map L8)) (i:Sl (λb=>w.heap.size<=b) W 185 3 vq A.qs.length (A.qs.flatMap EP)) (j:w.heap.size<=bm)
  (c:Ac (λb=>w.heap.size<=b) w W):Clo w A (W.alloc (.cells #[vl,vf,vq,.map (some bm)] 161)) d bm vl vf vq:=by
 subst a;exact⟨AF.new W _ _,f.alloc _,h.alloc _,i.alloc _,e.alloc _,c.size,j,c.alloc c.size _⟩
theorem BR.later {w w':World}{T:Nat->Prop}{b:Nat}{k:IntKind}{M:G5}(h:BR w b k M) (a:Ac T w w') (c:∀b,T b->w.heap.size<=b):BR w' b k M:=h.kept a (λd=>by have:=h.lt;have:=c _ d;omega)
structure Apw (w:World) (A:Am) (bm r:Nat) (wr:World) (gb bb:Nat) (vl vf vq:Value) (sk:List Int):Prop where
 qR:JP wr r bm .u64 (Ga A.at_) sk
 nd:sk.Nodup
 sub:∀k∈sk,k∈(Ga A.at_).map (·.1)
 row:AF wr gb 161 [vl,vf,vq,.map (some bb)]
 l:Sl (λb=>w.heap.size<=b) wr 163 5 vl A.l.length (A.l.flatMap D8)
 f:Sl (λb=>w.heap.size<=b) wr 3 1 vf A.free.length (A.free.map L8)
 q:Sl (λb=>w.heap.size<=b) wr 185 3 vq A.qs.length (A.qs.flatMap EP)
 m:BR wr bb .u64 (Ga (sk.reverse.map λk=>(k,(A.idx k).getD 0)))
 g0:w.heap.size<=gb
 m0:w.heap.size<=bb
 kept:Ac (λb=>w.heap.size<=b) w wr
theorem mt {A:Am}{k:Int}{v:Value}(b:(A.at_.map (·.1)).Nodup) (h:(k,v)∈Ga A.at_):v= .int .i64 (((A.idx k).getD 0:Nat):Int):=by
 unfold Ga at h;obtain⟨x,a,e⟩:=AE.1 h;injection e with e1 d;subst e1 d;have:A.idx x.1=some x.2:=by
  unfold Am.idx;generalize A.at_=l at b a
  induction l with
  |nil=>cases a
  |cons y l f=>
   rw[BS,BC]at b;rcases AA.1 a with rfl|a
   ·simp
   ·have c:¬y.1=x.1:=λe=>b.1 (e▸AE.2 ⟨x,a,rfl⟩);rw[EA (by simpa using c)];exact f b.2 a
 rw[this];rfl
theorem vT {A:Am}{k:Int}:(A.idx k).isSome=true↔k∈(Ga A.at_).map (·.1):=by
 unfold Am.idx Ga;rw[Option.isSome_map,List.find?_isSome,IK];constructor
 ·rintro⟨x,a,h⟩;exact AE.2 ⟨x,a,by simpa using h⟩
 ·intro h;obtain⟨x,a,h⟩:=AE.1 h;exact⟨x,a,by simpa using h⟩
theorem li {l:List Int}(h:l.Nodup):l.reverse.Nodup:=by
 induction l with
 |nil=>exact XE
 |cons x l f=>
  rw[BC]at h;rw[it,Cp];refine⟨f h.2,by simp,λa c b d e=>?_⟩;rw[Ec]at d;rw[e,d,nh]at c;exact h.1 c
theorem Uu {l:List Int}{f:Int->Nat}{k:Int}(h:k∉l):FX (Ga (l.map λk=>(k,f k))) k=none:=by rw[QK,N7,Ai h];rfl
theorem fY (l:List Int) (f:Int->Nat) (k:Int):Ga ((l++[k]).map λk=>(k,f k))=Ga (l.map λk=>(k,f k))++[(k,.int .i64 (f k:Nat))]:=by unfold Ga;rw[Cb,Cb];rfl
section
variable {S:Nat->Prop}{w:World}{g bm:Nat}{A:Am}{vl vf vq:Value}
attribute [local go_sem ↓] Go.wp_at_zero Go.wp_at_succ
theorem gT (h:BL S w g A vl vf vq bm) (l1:A.l.length<=1000000) (l2:A.free.length<=1000000) (l3:A.qs.length<=1000000) (be:(A.at_.map (·.1)).Nodup):Calls prog 62 #[.pointer (some ⟨g,0,none⟩)] w λe w'=>
  ∃g' r,e= .returned (.pointer (some ⟨g',0,none⟩))/\Ac (λb=>w.heap.size<=b) w w'/\(∃vl vf vq bm,BL (λb=>w.heap.size<=b) w' g' (A.jD r) vl vf vq bm)/\r.Nodup/\∀k,k∈r↔(A.idx k).isSome=true:=by
 obtain⟨iw,c0,c1,c2,c3,r1⟩:=zp6 (@nF prog) (h.row.cell 0) (h.row.cell 1) (h.row.cell 2) (h.row.cell 3) h.row.lt;obtain⟨al,cl,rfl⟩:∃a c,vl= .slice a A.l.length c:=h.l.shape;obtain⟨af,cf,rfl⟩:∃a c,vf= .slice a A.free.length c:=h.f.shape;obtain⟨aq,cq,rfl⟩:∃a c,vq= .slice a A.qs.length c:=h.q.shape;obtain⟨i0,cZ,da,dd,dF⟩:=Bg bG;obtain⟨j0,dG,dH,dI,dJ⟩:=Bg L0;obtain⟨k0,dK,dL,dN,dO⟩:=Bg bH;obtain⟨s1,s2,s3⟩:=zp3 h.l.src h.f.src h.q.src;have o1:∀u∈A.l.flatMap D8,u.oneCell'=true:=bg (λx u T=>by simp[D8]at T;rcases T with rfl|rfl|rfl|rfl|rfl<;>rfl) _;have o2:∀u∈A.free.map L8,u.oneCell'=true:=by intro u T;obtain⟨x,_,rfl⟩:=AE.1 T;rfl
 have o3:∀u∈A.qs.flatMap EP,u.oneCell'=true:=bg (λx u T=>by simp[EP]at T;rcases T with rfl|rfl|rfl<;>rfl) _;obtain⟨b1,b2,b3⟩:=zp3 h.l.iu h.f.iu h.q.iu;obtain⟨HH,S1,S2,S3,O1,O2,O3,B1⟩:=zq8 h s1 s2 s3 o1 o2 o3 b1;obtain⟨B2,B3⟩:=zq2 b2 b3;have m1:A.l.length<=maxLen:=by unfold maxLen;omega
 have m2:A.free.length<=maxLen:=by unfold maxLen;omega
 have m3:A.qs.length<=maxLen:=by unfold maxLen;omega
 have n1:A.l.length*40<=140737488355328:=by omega
 have n2:A.free.length*8<=140737488355328:=by omega
 have n3:A.qs.length*24<=140737488355328:=by omega
 clear h s1 s2 s3 o1 o2 o3 b1 b2 b3;simp at c0 c1 c2 c3;go_enter func62,ntmps62;go_wp2_with fail;go_upto_region 2 with fail;go_cut [3] (λs3 wx=>∃Z bm vl vf vq,s3= .pointer (some ⟨Z,0,none⟩)/\Clo w A wx Z bm vl vf vq)
 case first=>
  as_aux_lemma=>
  go_region_held3 (λw'=>w'.cell? ⟨g,0,none⟩=some (.slice al A.l.length cl)/\w'.cell? ⟨g,1,none⟩=some (.slice af A.free.length cf)/\w'.cell? ⟨g,2,none⟩=some (.slice aq A.qs.length cq)/\Ac (λb=>w.heap.size<=b) w w')
   ((repeat' apply And.intro)<;>(first
    |assumption
    |exact(Ac.cell d (by simp only;omega)).trans c0
    |exact(Ac.cell d (by simp only;omega)).trans c1
    |exact(Ac.cell d (by simp only;omega)).trans c2
    |exact(Ac.cell i (by simp only;omega)).trans c0
    |exact(Ac.cell i (by simp only;omega)).trans c1
    |exact(Ac.cell i (by simp only;omega)).trans c2
    |exact(Ac.cell s (by simp only;omega)).trans c0
    |exact(Ac.cell s (by simp only;omega)).trans c1
    |exact(Ac.cell s (by simp only;omega)).trans c2
    |(with_reducible exact zAr.drew)
    |(refine Ac.drew ?_;assumption)
    |exact zAr.drew.alloc (Ab _) _
    |exact d.alloc z1 _
    |exact i.alloc z2 _
    |exact s.alloc z3 _
    |exact(s.alloc z3 _).alloc (by simp;omega) _
    |go_keep
    ))
   (first
    |(refine LB (w0:=w) (N:=w.heap.size) ?_ (Ab _) S1.out B1.out underlying157 cZ da dd dF rfl (by decide) O1.out m1 n1 (by rfl) _ _ (by rfl) (by rfl) (by rfl) ?_;(first|exact zAr.drew|exact d|exact i|exact zAr.drew.alloc (Ab _) _|exact d.alloc d.size _|exact i.alloc i.size _|assumption);intro a1 e1 w1 bL bM d;have z1:=d.size;have dR:=Aa bL;have dS:=Aa bM;clear bL bM)
    |(refine LB (w0:=w) (N:=w.heap.size) ?_ (Ab _) S2.out B2.out Fg dG dH dI dJ rfl (by decide) O2.out m2 n2 (by rfl) _ _ (by rfl) (by rfl) (by rfl) ?_;(first|exact zAr.drew|exact d|exact i|exact zAr.drew.alloc (Ab _) _|exact d.alloc d.size _|exact i.alloc i.size _|assumption);intro a2 e2 w2 bN bO i;have z2:=i.size;have dU:=Aa bN;have bP:=Aa bO;clear bN bO)
    |(refine LB (w0:=w) (N:=w.heap.size) ?_ (Ab _) S3.out B3.out underlying158 dK dL dN dO rfl (by decide) O3.out m3 n3 (by rfl) _ _ (by rfl) (by rfl) (by rfl) ?_;(first|exact zAr.drew|exact d|exact i|exact zAr.drew.alloc (Ab _) _|exact d.alloc d.size _|exact i.alloc i.size _|assumption);intro a3 e3 w3 bQ bR s;have z3:=s.size;have dV:=Aa bQ;have U:=Aa bR;clear bQ bR))
  all_goals
   go_wp2;go_meet;refine⟨_,_,_,_,_,rfl,mD (by simp) ?_ ?_ ?_ ?_ ?_ ?_⟩
   ·repeat' first|with_reducible exact BR.fN _ rfl|with_reducible refine BR.later ?_ U.out (λb j=>by simpa using j)|with_reducible refine BR.later ?_ bP.out (λb j=>by simpa using j)|with_reducible refine BR.later ?_ dS.out (λb j=>by simpa using j)|with_reducible refine BR.drew ?_|with_reducible refine BR.alloc ?_ _
   ·repeat' first|exact dR.out.mono (λb j=>(by first|omega|(simp at j;omega)))|with_reducible refine Sl.later ?_ U.out (λb j=>j)|with_reducible refine Sl.later ?_ bP.out (λb j=>j)|with_reducible refine Sl.alloc ?_ _
   ·repeat' first|exact dU.out.mono (λb j=>(by first|omega|(simp at j;omega)))|with_reducible refine Sl.later ?_ U.out (λb j=>j)|with_reducible refine Sl.alloc ?_ _
   ·repeat' first|exact dV.out.mono (λb j=>(by first|omega|(simp at j;omega)))|with_reducible refine Sl.alloc ?_ _
   ·first|exact Ab _|omega
   ·first|exact s|exact s.alloc z3 _
 case rest=>
  obtain⟨Z,D,bS,bT,bU,rfl,B⟩:=hcut;have bV:BR wc bm .u64 (Ga A.at_):=HH.out.m.kept B.kept (by have:=HH.out.m.lt;omega);obtain⟨E,F,M⟩:=bV.range (P:=prog) Lx;have d3:wc.cell? ⟨g,3,none⟩=some (.map (some bm)):=(B.kept.cell (p:=⟨g,3,none⟩) (by simp only;omega)).trans c3;obtain⟨HC,HR,dX⟩:=zq3 B M be;clear B M be bV c0 c1 c2 c3;go_wp2_with fail
  go_loopg [] A.at_.length (λkk wr=>∃r,A.at_.length-r.length<=kk/\Apw w A bm wc.heap.size wr Z D bS bT bU r)
  case atStart=>
   have C:=HC.out;have hk:Ac (λb=>w.heap.size<=b) w (wc.alloc (.mapIter (some bm) E #[] E)):=C.kept.alloc C.kept.size _;exact⟨[],by simp,HR.out,XE,(λk hk=>absurd hk nc),C.row.alloc _,C.l.alloc _,C.f.alloc _,C.q.alloc _,C.m.alloc _,C.g0,C.m0,hk⟩
  case round=>
   obtain⟨r,jn,o⟩:=hrel;have gI:r.length<=A.at_.length:=by have h1:=Pd r _ o.nd o.sub;unfold Ga at h1;simpa using h1
   rcases o.qR.next (P:=prog) 0 with⟨O,F⟩|⟨y,hy,J,w',F,V,G,fd⟩
   ·have Q:=Aa o;have bY:=Aa O;clear o O;go_wp2_with fail;go_ret;have L:=Q.out;refine⟨Z,r.reverse,rfl,L.kept,⟨bS,bT,bU,D,L.row,L.l,L.f,L.q,L.m,L.g0,L.m0⟩,li L.nd,λk=>?_⟩;rw[vT,nh];refine⟨L.sub k,λhk=>?_⟩;obtain⟨x,hx,e⟩:=AE.1 hk;exact e▸bY.out x hx
   ·obtain⟨k,v⟩:=y;simp only at J F V fd;have hv:=mt dX.out hy;subst hv;have W:k∈(Ga A.at_).map (·.1):=AE.2 ⟨_,hy,rfl⟩;have fx:(k::r).length<=A.at_.length:=by have h1:=Pd (k::r) _ (BC.2 ⟨J,o.nd⟩) (λx hx=>(AA.1 hx).elim (λe=>e▸W) (o.sub x));unfold Ga at h1;simpa using h1
    have fy:Z≠wc.heap.size:=o.qR.bK o.row;have ci:D≠wc.heap.size:=by rintro rfl;obtain⟨es,c,sb,_,_,_,_,_,h6,_⟩:=o.qR;obtain⟨jC,c',h7,_⟩:=o.m;rw[h6]at h7;cases h7
    have fB:D≠bm:=by have:=HH.out.m.lt;have:=HC.out.m0;omega
    have K:∀{e:TypeId} {size n:Nat} {v:Value} {xs:List Value},Sl (λb=>w.heap.size<=b) wr e size v n xs->Sl (λb=>w.heap.size<=b) w' e size v n xs:=λh=>h.kept G (λb j e=>by
     obtain⟨cs,X⟩:=h.row j;exact o.qR.bK X e)
    have z:=o.row.kept G fy;have cj:=o.m.kept G ci;have fC:=z.cell 3;obtain⟨Q,fD,fE,cu,fF,R,cw,fG⟩:=zq8 o V G J W z cj (K o.l);obtain⟨fH,fJ⟩:=zq2 (K o.f) (K o.q);clear o V G J W z cj K hy;simp at fC;go_wp2_with (at_mapUpdate;go_must (refine Hv Lx Jl cw.out rfl _ _ _ rfl rfl k rfl _ rfl ?_;intro w6 H cy;have fK:=Aa H;have I:=Aa cy;clear H cy));have fL:FX (Ga (r.reverse.map λk=>(k,(A.idx k).getD 0))) k=none:=Uu (λh=>cu.out (nh.1 h));have H:=fK.out;rw[VO _ fL]at H;go_roundg (A.at_.length-(r.length+1))
    case measure=>have:(k::r).length=r.length+1:=rfl;omega
    case rel=>
     have cz:∀x t cs,AF w' x t cs->¬x=D:=λx t cs hr e=>cw.out.bK hr e.symm;have Y:∀{e:TypeId} {size n:Nat} {v:Value} {xs:List Value},Sl (λb=>w.heap.size<=b) w' e size v n xs->Sl (λb=>w.heap.size<=b) w6 e size v n xs:=λh=>h.kept I.out (λb j e=>by
      obtain⟨cs,X⟩:=h.row j;exact cz _ _ _ X e)
     refine⟨k::r,by simp,fD.out.iE (I.out.block _ (λe=>ci e.symm)) (I.out.block _ (λe=>fB e.symm)),BC.2 ⟨cu.out,Q.out.nd⟩,λx hx=>(AA.1 hx).elim (λe=>e▸fF.out) (Q.out.sub x),
      R.out.kept I.out (cz _ _ _ R.out),Y fG.out,Y fH.out,Y fJ.out,?_,Q.out.g0,Q.out.m0,?_⟩
     ·rw[it,fY];exact H
     ·exact(Q.out.kept.trans (fE.out.mono (λb j=>by rw[j];exact HC.out.kept.size))).trans (I.out.mono (λb j=>by rw[j];exact Q.out.m0))
end
section
variable {S SA:Nat->Prop}{w:World}{gs ga:Nat}{A:Am}{mu:Value}{vars:List Int}{ns:List (List Nat)}{qs:List (List Gp)}
attribute [local go_sem ↓] Go.wp_at_zero Go.wp_at_succ
def Apv (w:World) (vars:List Int) (ns:List (List Nat)) (qs:List (List Gp)) (e:Ending) (w':World):Prop:=
 ∃a d c f g,e= .returned (.pointer (some ⟨a,0,none⟩))/\Ac (λb=>w.heap.size<=b) w w'/\zB w.heap.size w' a d c f g vars/\CE g ns qs
theorem Vs (h:∃t v y z,BL SA w ga A t v y z) (l:AF w gs 92 [.pointer (some ⟨ga,0,none⟩),mu]) (B:Sl S w 3 1 mu vars.length (vars.map JF)) (n:CE A ns qs) (X:vars.length<=1000):
  Calls prog 36 #[.pointer (some ⟨gs,0,none⟩)] w (Apv w vars ns qs):=by
 obtain⟨t,v,y,z,h⟩:=h;obtain⟨E,F,r1,k⟩:=zp4 (l.cell 0) (l.cell 1) l.lt n.ok;obtain⟨Y,Z,rfl⟩:∃a c,mu= .slice a vars.length c:=B.shape;obtain⟨j0,G,H,I,J⟩:=Bg L0;have Q:=B.src;have o2:∀u∈vars.map JF,u.oneCell'=true:=by intro u hu;obtain⟨x,_,rfl⟩:=AE.1 hu;rfl
 have R:=B.iu;have g:∀W,Ac (λb=>w.heap.size<=b) w W->Calls prog 62 #[.pointer (some ⟨ga,0,none⟩)] W λe w'=>
   ∃m C,e= .returned (.pointer (some ⟨m,0,none⟩))/\Ac (λb=>W.heap.size<=b) W w'/\(∃t v y z,BL (λb=>W.heap.size<=b) w' m C t v y z)/\CE C ns qs:=λW hk=>by
  have hW:=(h.shrink).kept hk (λb d=>by have:=d.2;omega);refine(gT hW k.l2 k.nA (by have:=n.q8;omega) n.qP).mono ?_;rintro e w' ⟨m,sk,K,T,h3,h4,h5⟩;exact⟨m,A.jD sk,K,T,h3,n.jD h5 h4⟩
 obtain⟨HC,S2,O2,B2⟩:=zq4 g Q o2 R;have m2:vars.length<=maxLen:=by unfold maxLen;omega
 have n2:vars.length*8<=140737488355328:=by omega
 clear h l B n k Q o2 R g;simp at E F;go_enter func36,ntmps36;go_wp2_with fail
 go_region_held3 (λw'=>w'.cell? ⟨gs,0,none⟩=some (.pointer (some ⟨ga,0,none⟩))/\w'.cell? ⟨gs,1,none⟩=some (.slice Y vars.length Z)/\Ac (λb=>w.heap.size<=b) w w')
  ((repeat' apply And.intro)<;>(first
   |assumption
   |exact(Ac.cell i (by simp only;omega)).trans E
   |exact(Ac.cell i (by simp only;omega)).trans F
   |exact(Ac.cell f (by simp only;omega)).trans E
   |exact(Ac.cell f (by simp only;omega)).trans F
   |(with_reducible exact zAr.drew)
   |exact i.alloc U _
   |exact f.alloc D _
   |go_keep
   ))
  (first
   |(refine LB (w0:=w) (N:=w.heap.size) ?_ (Ab _) S2.out B2.out Fg G H I J rfl (by decide) O2.out m2 n2 (by rfl) _ _ (by rfl) (by rfl) (by rfl) ?_;(first|exact zAr.drew|exact i);intro a2 e2 w2 o p f;have D:=f.size;have q:=Aa o;have L:=Aa p;clear o p)
   |(go_at_call 62;refine(HC.out _ ?_).mono ?_;(first|exact zAr.drew|exact f);rintro e w1 ⟨m,C,rfl,j,r,s⟩;have i:Ac (λb=>w.heap.size<=b) w w1:=(by first|exact(zAr.drew).trans (j.mono (λb d=>d))|exact f.trans (j.mono (λb d=>Ad D d)));have U:=i.size;have M:=Aa j;have O:=Aa r;have P:=Aa s;clear j r s))
 all_goals
  go_wp2;go_ret
 ·obtain⟨xl,xf,xq,xm,ha⟩:=O.out;have V:=L.out;have k1:=M.out.size;have k2:=V.size;refine⟨_,m,.slice a2 vars.length e2,(λb=>w.heap.size<=b/\b<w1.heap.size),C,rfl,f.alloc D _,⟨AF.new w2 _ _,(q.out.mono (λb d=>Ad U d)).alloc _,⟨xl,xf,xq,xm,?_⟩,D,λb d=>⟨d.1,?_⟩,λd=>?_,λb d l=>?_⟩,P.out⟩
  ·exact((ha.shrink.kept V (λb d=>by have:=d.2;omega)).alloc _).mono (λb d=>d)
  ·have:=d.2;simp;omega
  ·have:=d.2;omega
  ·have K:=q.out.2 b d;have T:=l.2;simp only at K;omega
end
end Go.Proofs.YtodkkholbjeioaaGreatDoor.Ev
namespace Go.Proofs.YtodkkholbjeioaaGreatDoor.Ev
open _root_.Go.Proofs.Tryz
def FE (r:Except Nat DQ):Prop:=
 match r with
 | .error k=>k=Ul\/k=Ma
 | .ok _=>True
theorem Wt (l:List Bi) (c:Gp) (a b:Int) (t:Bool) (r:DQ):FE (JK l c a b t r):=by
 unfold JK;split
 ·exact .inl rfl
 ·exact trivial
theorem vu (p:Ax) (key:Int) (x:D4) (r:DQ):FE (bN p key x r):=by
 cases x with
 |put q t=>
  unfold bN;simp only;split
  ·exact Wt _ _ _ _ _ _
  ·exact Wt _ _ _ _ _ _
 |cu q=>
  unfold bN;simp only;split
  ·exact .inr rfl
  ·exact trivial
 |dV q=>
  unfold bN;simp only;split
  ·exact .inr rfl
  ·exact trivial
 |shift q b t=>
  unfold bN;simp only;split
  ·exact .inr rfl
  ·exact Wt _ _ _ _ _ _
 |inc v=>exact trivial
 |dec v=>exact trivial
 |drop=>
  unfold bN;simp only;split<;>exact trivial
 |bump=>
  unfold bN;simp only;split<;>exact trivial
theorem i7 {c:St->Bool}{f:DQ->Except Nat DQ}(a:∀r,FE (f r)):∀(n:Nat) (r:DQ),FE (Gt c f n r)
 |0,r=>trivial
 |n+1,r=>by
  unfold Gt;split
  ·cases h:f r with
   |ok r'=>exact i7 a n r'
   |error k=>have:=a r;rw[h]at this;exact this
  ·exact trivial
theorem Oa (p:Ax) (key:Int):∀(b:Az) (r:DQ),FE (exec p key b r)
 | .nil,r=>trivial
 | .bN x b,r=>by
  unfold exec;cases h:bN p key x r with
  |ok r'=>exact Oa p key b r'
  |error k=>have:=vu p key x r;rw[h]at this;exact this
 | .ite c t o e b,r=>by
  unfold exec;have a:FE (if BF p.decls key r.s c then exec p key t r else if o then exec p key e r else .ok r):=by
   split
   ·exact Oa p key t r
   ·split
    ·exact Oa p key e r
    ·exact trivial
  cases h:(if BF p.decls key r.s c then exec p key t r else if o then exec p key e r else .ok r)with
  |ok r'=>exact Oa p key b r'
  |error k=>rw[h]at a;exact a
 | .rep n c x b,r=>by
  unfold exec;have a:=i7 (c:=λs=>BF p.decls key s c) (f:=exec p key x) (λr=>Oa p key x r) n.toNat r;cases h:Gt (λs=>BF p.decls key s c) (exec p key x) n.toNat r with
  |ok r'=>exact Oa p key b r'
  |error k=>rw[h]at a;exact a
theorem SB {p:Ax}{key:Int}{b:Az}{r:DQ}{k:Nat}(h:exec p key b r= .error k):1<=k/\k<=12:=by have:=Oa p key b r;rw[h]at this;rcases this with rfl|rfl<;>exact⟨by decide,by decide⟩
theorem NN {p:Ax}{s:St}(a:G4 p s) (key:Int):En s key= -1\/Ix p.decls.length (En s key):=by
 unfold En;cases b:s.find key with
 |none=>exact .inl rfl
 |some x=>
  obtain⟨k,i⟩:=x;obtain⟨l,h,_⟩:=Wl b;have:=(Aj.1 h).1;rw[a.q]at this;exact .inr ⟨by simp,by simp;exact this⟩
def place (l:List Int) (key:Int):Option Nat:=l.findIdx? (λk=>k==key)
def z (l:List Int):List Gp:=l.map λk=>⟨k,0⟩
theorem mX (e:EX) (key:Int) (r:DQ) (h:exec e.p key (C0 e.p (En e.s key)) ⟨e.s,[]⟩= .ok r):
  e.access key= .ok (AY e.p.decls (En e.s key)) r.gone ⟨e.p,r.s,Qw e.n (AY e.p.decls (En e.s key)) r.gone.length⟩:=by
 unfold EX.access;simp only[h];rfl
end Go.Proofs.YtodkkholbjeioaaGreatDoor.Ev
namespace Go.Proofs.YtodkkholbjeioaaGreatDoor.Ev
open _root_.Go.Proofs.Tryz
open Go Go.RowKit
theorem U6.qq {B:Nat}{ea:Nat->Addr}{w:World}(h:U6 B ea w) {a:Nat}(b:B<=a):TU a ea w:=
 ⟨h.err 11 (by omega) (by omega),h.err 12 (by omega) (by omega),An (h.lt 11 (by omega) (by omega)) b,An (h.lt 12 (by omega) (by omega)) b⟩
def ip (S:Nat->Prop) (w:World) (ge:Nat) (r:Ans) (p:Ax) (a:EX) (e:Ending) (w':World):Prop:=
 Ac (λb=>b=ge\/w.heap.size<=b) w w'/\match r with
  | .err k=>e= .returned (.tuple #[.bool false,.slice none 0 0,.int .i64 k])/\GT S w' ge a
  | .ok hit gone e1=>∃v,e= .returned (.tuple #[.bool hit,v,.int .i64 0])/\Sl (λb=>w.heap.size<=b) w' 25 1 v gone.length (gone.map KE)/\
    GT (λb=>(S b\/w.heap.size<=b)/\v.ownBlock≠some b) w' ge e1
def Qj (c:Km) (m:Nat):Prop:=0<=c.fx/\c.fx<=m/\0<=c.dH/\c.dH<=m/\0<=c.cw/\c.cw<=1750000*(m:Int)
theorem Qj.up {c:Km}{m:Nat}(h:Qj c m) (hit:Bool) {n:Nat}(i:n<=1750000):Qj (Qw c hit n) (m+1):=by obtain⟨a,b,j,d,f,g⟩:=h;unfold Qj Qw;cases hit<;>simp<;>omega
theorem TD {p:Ax}(a:Em p) {key k:Int}{s:St}{r:DQ}(h:exec p key (C0 p k) ⟨s,[]⟩= .ok r):r.gone.length<=1750000:=by
 have c:=EE (C0 p k) _ _ h;have f:(C0 p k).bY<=1750000:=by
  unfold C0;cases d:Bj p.rules k with
  |none=>exact AM _
  |some b=>exact To a d
 simp at c;omega
section
variable {B:Nat}{ea:Nat->Addr}{S:Nat->Prop}{w:World}{ge:Nat}{e:EX}
theorem Zz {P gs ga gp Q T i z G:Nat}{U V o r:Value}{W C:Nat->Prop}{A X:Am}{ns H:List (List Nat)}{D w':World}{e1:EX}{l:List Int}
  (h:Ab6 S w ge e P gs ga gp Q T i U V W A ns) (Y:Ac (λb=>w.heap.size<=b) w D) (f:zB w.heap.size D z G o C X e1.s.vars) (hA:CE X H e1.s.q) (hS:G4 e.p e1.s)
  (hv:Sl (λb=>w.heap.size<=b) D 25 1 r l.length (l.map KE)) (u:∀b,r.ownBlock=some b->¬C b/\b≠z/\o.ownBlock≠some b) (R:e1.p=e.p)
  (I:∀(j:Nat) x,NK e1.s j x->(Aq e.p.decls (j:Int)).kind≠2) (g:Ac (λb=>b=ge) D w')
  (J:AF w' ge 79 [.pointer (some ⟨P,0,none⟩),.pointer (some ⟨z,0,none⟩),.int .i64 e1.n.fx,.int .i64 e1.n.dH,.int .i64 e1.n.cw]):
  Ac (λb=>b=ge\/w.heap.size<=b) w w'/\Sl (λb=>w.heap.size<=b) w' 25 1 r l.length (l.map KE)/\GT (λb=>(S b\/w.heap.size<=b)/\r.ownBlock≠some b) w' ge e1:=by
 have bU:=h.row.lt;have K:∀b,r.ownBlock=some b->w.heap.size<=b:=λb d=>hv.2 b d;have y:AF D ge 79 _:=h.row.kept Y (by omega);have m:=(h.prog.mono (S':=λb=>(S b/\¬W b)/\b<w.heap.size) (λb d F=>⟨F,d⟩)).kept Y (λb d _=>by have:=d.2;omega);have bM:¬(S ge/\False):=λh=>h.2;obtain⟨vl,vf,vq,Z,ha⟩:=f.ar;have n1:∀{t:TypeId} {size n:Nat} {v:Value} {xs:List Value} {N:Nat->Prop},Sl N D t size v n xs->t≠79->Sl N w' t size v n xs:=λF ht=>F.kept g (λb d e=>F.bK y ht (e▸d));refine⟨(Y.mono (λb d=>.inr d)).trans (g.mono (λb d=>.inl d)),n1 hv (by decide),P,z,G,gp,Q,T,i,U,o,C,X,H,J,?_,f.bS.kept g (f.bS.cZ y (by decide)),?_,⟨vl,vf,vq,Z,ha.kept g (λb d e=>by have:=(f.sa b d).1;omega)⟩,hA,by rw[R];exact hS,by rw[R];exact h.pw,by rw[R];exact I,λb d=>?_,⟨⟨.inl h.se.1,λd=>by have:=K _ d;omega⟩,λd=>by have:=(f.sa _ d).1;omega⟩,⟨⟨.inr f.nJ,λd=>(u _ d).2.1 rfl⟩,f.ss⟩⟩
 ·rw[R];have bI:JQ (λb=>(S b/\¬W b)/\b<w.heap.size) w' P e.p gp Q T i U:=by
   have E:∀{t:TypeId} {cs:List Value} {b:Nat},AF D b t cs->t≠79->¬b=ge:=λhr ht e=>hr.cZ y ht e;obtain⟨M,m1,m2⟩:=m.code.map;obtain⟨Mr,r1,r2,r3⟩:=m.rules;refine⟨⟨m.code.row.kept g (E m.code.row (by decide)),⟨M,m1.kept g (λe=>m1.bK y e),λk=>?_⟩,m.code.lo,m.code.sg,m.code.sm⟩,m.bQ.kept g (E m.bQ (by decide)),n1 m.decls (by decide),m.rules.kept (g.block Q (λe=>r1.bK y e)) (λk cs hN hr=>g.block k (E hr (by decide))),m.sp,m.sb⟩;have:=m2 k;cases L:Bj e.p.rules k with
   |none=>rw[L]at this;exact this
   |some b=>
    rw[L]at this;obtain⟨v,a,b',c,d1,d2,d3⟩:=this;exact⟨v,a,b',c,d1,n1 d2 (by decide),d3⟩
  exact bI.mono (λb _ d=>⟨⟨.inl d.1.1,λO=>by have:=K _ O;have:=d.2;omega⟩,λF=>by have:=(f.sa b F).1;have:=d.2;omega⟩)
 ·exact⟨(n1 f.vars (by decide)).1,λb d=>⟨⟨.inr (f.vars.2 b d),λO=>(u b O).2.2 d⟩,f.s4 b d⟩⟩
 ·exact⟨.inr (f.sa b d).1,λO=>(u b O).1 d⟩
end
def LS (w:World) (v:Value) (l:List Int):Prop:=
 (v= .slice none 0 0/\l=[])\/∃g a c,v= .slice (some ⟨g,a,none⟩) l.length c/\l.length<=c/\c<=maxLen/\g<w.heap.size/\∀(i:Nat) x,l[i]?=some x->w.cell? ⟨g,a+i,none⟩=some (KE x)
section
variable {w w':World}{v:Value}{l:List Int}
theorem Sl.ls {S:Nat->Prop}(h:Sl S w 25 1 v l.length (l.map KE)):LS w v l:=by
 rcases h.1.2 with⟨d,e⟩|⟨g,a,f,rfl,_,m,j,b,_⟩
 ·exact .inl ⟨by rw[d],LP.1 e⟩
 ·refine .inr ⟨g,0,a,rfl,j,b,h.lt rfl,λi x c=>?_⟩;have k:i<l.length:=(Aj.1 c).1;have:=h.1.cellAt i (by simpa using k);rw[DK];refine this.trans ?_;rw[At,c];rfl
theorem LS.shape (h:LS w v l):∃a c,v= .slice a l.length c:=by
 rcases h with⟨rfl,rfl⟩|⟨g,b,c,rfl,_⟩
 ·exact⟨none,0,rfl⟩
 ·exact⟨_,_,rfl⟩
theorem LS.at_ {a:Option Addr}{c:Nat}(h:LS w (.slice a l.length c) l) {k:Nat}{x:Int}(d:l[k]?=some x):∃g b,a=some ⟨g,b,none⟩/\w.cell? ⟨g,b+k,none⟩=some (.int .u64 x)/\l.length<=c/\c<=maxLen:=by
 rcases h with⟨_,rfl⟩|⟨g,b,n,e,f,i,o,j⟩
 ·simp at d
 ·injection e with e1 p m;subst e1 m;exact⟨g,b,rfl,j k x d,f,i⟩
end
def X9 (c n:Int):Int:=if c<0 then(-(c+1)).tmod n else c.tmod n
section
variable {w:World}
theorem X8 (c:Int) {n:Nat}(a:0<n):∃k:Nat,X9 c n=(k:Int)/\k<n:=by
 unfold X9;split
 ·rename_i h;rw[FY (by omega)];exact⟨((-(c+1))%(n:Int)).toNat,by rw[Int.toNat_of_nonneg (U1 _ (by omega))],by have:=Int.emod_lt_of_pos (-(c+1)) (b:=(n:Int)) (by omega);have:=U1 (-(c+1)) (b:=(n:Int)) (by omega);omega⟩
 ·rename_i h;rw[FY (by omega)];exact⟨(c%(n:Int)).toNat,by rw[Int.toNat_of_nonneg (U1 _ (by omega))],by have:=Int.emod_lt_of_pos c (b:=(n:Int)) (by omega);have:=U1 c (b:=(n:Int)) (by omega);omega⟩
theorem Yf (c:Int) (n:Nat) (d: -9223372036854775808<=c) (f:c<=9223372036854775807) (g:0<n) (b:n<=1000000000):Calls prog 15 #[.int .i64 c,.int .i64 n] w λe w'=>e= .returned (.int .i64 (X9 c n))/\w'=w:=by
 have h:((n:Int)==0)=false:=by simp;omega
 have e1:decide ((n:Int)=0)=false:=by simp;omega
 unfold X9;by_cases a:c<0
 ·rw[Al a];go_enter func15,ntmps15;go_wp2;go_ret;exact⟨by rw[Int.neg_tmod];rfl,rfl⟩
 ·rw[Ai a,FY (by omega)];go_enter func15,ntmps15;go_wp2;go_ret;exact⟨rfl,rfl⟩
theorem ja (w:World) (a b:Nat):(w.drewN a).drewN b=w.drewN (a+b):=by simp[World.drewN,E5]
def Aiy (w:World) (b:Bool) (e:Ending) (w':World):Prop:=e= .returned (.bool b)/\∃n,w'=w.drewN n
theorem PQ {u v:Value}{a b:List Int}(s:LS w u a) (t:LS w v b) (W:a.length<=1000000000) (L:b.length<=1000000000):Calls prog 20 #[u,v] w (Aiy w (a==b)):=by
 obtain⟨X,Y,rfl⟩:=s.shape;obtain⟨Z,cb,rfl⟩:=t.shape;obtain⟨M,N⟩:=zq2 s t;clear s t;by_cases d:a.length=b.length
 ·have q:=Aa d;rw[←d];clear d;go_enter func20,ntmps20;go_wp2
  go_loopg [13,5] a.length (λO z _ wr=>∃k:Nat,k<=a.length/\a.length-k<=O/\z= .int .i64 k/\(∃n,wr=w.drewN n)/\∀(j:Nat) x y,j<k->a[j]?=some x->b[j]?=some y->x=y)
  case atStart=>exact⟨0,AM _,by omega,rfl,⟨0,rfl⟩,λj x y I=>absurd I (UZ _)⟩
  case round=>
   obtain⟨k,hk,hg,rfl,⟨n,rfl⟩,f⟩:=hrel;have g:=Aa f;clear f;by_cases A:k<a.length
   ·obtain⟨x,B⟩:∃x,a[k]?=some x:=⟨_,Ae A⟩;obtain⟨y,C⟩:∃y,b[k]?=some y:=⟨_,Ae (by have:=q.out;omega)⟩;obtain⟨ga,oa,rfl,P,h1,Q⟩:=M.out.at_ B;obtain⟨gb,ob,rfl,R,S,T⟩:=N.out.at_ C;unfold maxLen at Q T;rw[←q.out]at S;obtain⟨D,J⟩:=zq2 B C;clear B C;by_cases e:x=y
    ·have e1:(x==y)=true:=by simpa using e
     have K:decide (x=y)=true:=by simpa using e
     have E:=Aa e;clear e;go_wp2;go_quiet (fail);go_wp2;go_roundg (a.length-(k+1))
     case measure=>omega
     case rel=>
      refine⟨k+1,by omega,by omega,by go_num,⟨n+nq,by first|rfl|exact ja w n nq⟩,λj x' U I h m=>?_⟩;by_cases V:j=k
      ·subst V;rw[D.out]at h;rw[J.out]at m;injection h with h;injection m with m;rw[←h,←m];exact E.out
      ·exact g.out j x' U (by omega) h m
    ·have e1:(x==y)=false:=by simpa using e
     have K:decide (x=y)=false:=by simpa using e
     have o:(a==b)=false:=by rw[BJ];intro c;rw[c]at D;have:=D.out.symm.trans J.out;injection this with this;exact e this
     obtain⟨E,F⟩:=zq2 e o;clear e o;go_wp2;go_quiet (fail);go_wp2;go_ret;exact⟨by first|rfl|(rw[F.out];rfl),n+nq,by first|rfl|exact ja w n nq⟩
   ·have G:k=a.length:=by omega
    have c:(a==b)=true:=by
     rw[Qb];refine Fj λi=>?_;rcases Be i a.length with r|r
     ·have p:i<b.length:=by have:=q.out;omega
      rw[Ae r,Ae p];exact AH some (g.out i _ _ (by omega) (Ae r) (Ae p))
     ·rw[Bl r,Bl (by have:=q.out;omega)]
    have H:=Aa c;clear c;subst G;go_wp2;go_ret;exact⟨by rw[H.out];rfl,_,rfl⟩
 ·have c:(a==b)=false:=by rw[BJ];intro e;exact d (by rw[e])
  have e1:((a.length:Int)==(b.length:Int))=false:=by simp;omega
  have K:decide ((a.length:Int)=(b.length:Int))=false:=by simp;omega
  rw[c];clear c;go_enter func20,ntmps20;go_wp2;go_ret;exact⟨rfl,0,rfl⟩
def Jn (k:Int):Int:=if k=1 then 1 else if k=2 then 2 else if k=3\/k=4 then 3 else 4
theorem fo (k:Int):k=1\/k=2\/k=3\/k=4\/(¬k=1/\¬k=2/\¬k=3/\¬k=4):=by omega
theorem XU (k:Int):Calls prog 10 #[.int .i64 k] w λe w'=>e= .returned (.int .i64 (Jn k))/\w'=w:=by
 rcases fo k with rfl|rfl|rfl|rfl|⟨a,b,c,d⟩
 ·go_enter XB,UD;go_wp2;go_ret;exact⟨rfl,rfl⟩
 ·go_enter XB,UD;go_wp2;go_ret;exact⟨rfl,rfl⟩
 ·go_enter XB,UD;go_wp2;go_ret;exact⟨rfl,rfl⟩
 ·go_enter XB,UD;go_wp2;go_ret;exact⟨rfl,rfl⟩
 ·have f:Jn k=4:=by unfold Jn;rw[Ai a,Ai b,Ai (by omega)]
  have g:(k==1)=false:=by simpa using a
  have h:(k==2)=false:=by simpa using b
  have i:(k==3)=false:=by simpa using c
  have j:(k==4)=false:=by simpa using d
  have m:decide (k=1)=false:=by simpa using a
  have n:decide (k=2)=false:=by simpa using b
  have o:decide (k=3)=false:=by simpa using c
  have p:decide (k=4)=false:=by simpa using d
  rw[f];clear f;go_enter XB,UD;go_wp2;go_ret;exact⟨rfl,rfl⟩
end
end Go.Proofs.YtodkkholbjeioaaGreatDoor.Ev
