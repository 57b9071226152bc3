/- Lemmas for a law's walk. Conditions: none. -/
import Derived.Test.YtepoejiigmhlbaaGreatDoorZa14
set_option linter.all false
set_option maxRecDepth 100000
set_option maxHeartbeats 8000000
namespace Go.Proofs.YtepoejiigmhlbaaGreatDoor.Ev
open _root_.Go.Proofs.Tryz
open Go Go.RowKit
def Uw (w:World) (s:Ah) (e:Ending) (w':World):Prop:=
 Ac (λb=>w.heap.size<=b) w w'/\match read s with
  | .error (k,pos)=>e= .returned (.tuple #[.pointer none,.int .i64 k,.int .i64 pos])
  | .ok p=>∃ge,e= .returned (.tuple #[.pointer (some ⟨ge,0,none⟩),.int .i64 0,.int .i64 0])/\GR (λb=>w.heap.size<=b/\b<w'.heap.size) w' ge (EX.new p)
theorem rI.later {B:Nat}{w w':World}{gp c:Nat}{e:Value}{p:Ax}(h:rI B w gp c e p) {T:Nat->Prop}(a:Ac T w w') (f:∀b,T b->w.heap.size<=b):rI B w' gp c e p:=by
 have d:∀b,b<w.heap.size->¬T b:=λb l g=>by have:=f b g;omega
 obtain⟨M,i,_⟩:=h.rules;exact⟨h.row.kept a (d _ h.row.lt),h.decls.later a f,h.rules.kept (a.block c (d _ i.lt)) (λk cs m j=>a.block k (d k j.lt)),h.lA,h.mW⟩
theorem JG.later {S T:Nat->Prop}{w w':World}{c gp d e a:Nat}{f:Value}{p:Ax}(h:JG S w c p gp d e a f) (g:Ac T w w') (i:∀b,T b->w.heap.size<=b):JG S w' c p gp d e a f:=
 h.kept g (λb _ k j=>by have:=i b j;omega)
theorem JG.alloc {S:Nat->Prop}{w:World}{c gp d e a:Nat}{f:Value}{p:Ax}(h:JG S w c p gp d e a f) (o:Obj):JG S (w.alloc o) c p gp d e a f:=
 h.later ((Ac.refl (λb=>w.heap.size<=b) w).alloc (Ab _) o) (λb g=>g)
theorem ov {p:Ax}(d:Ej p):GY p (EX.new p).s:=by
 refine⟨CN,CN,λk l f e g=>?_,λk x h=>?_⟩
 ·have a:(List.replicate p.decls.length ([]:List Gm))[k]?=some l:=f;rw[BK]at a;split at a
  ·injection a with a;subst a;cases g
  ·cases a
 ·have b:(List.replicate p.decls.length (0:Int))[k]?=some x:=h;rw[BK]at b;split at b
  ·rename_i i;injection b with b;subst b;refine⟨Int.le_refl _,?_⟩;have c:=VW (l:=p.decls) (q:=(k:Int)) ⟨by omega,by omega⟩;rw[As]at c;have:=(d.decls.each _ (Aw c)).lo;omega
  ·cases b
theorem wD {p:Ax}(j:Nat) (x:Int):¬Np (EX.new p).s j x:=by
 rintro⟨l,b,c⟩;have a:(List.replicate p.decls.length ([]:List Gm))[j]?=some l:=b;rw[BK]at a;split at a
 ·injection a with a;subst a;cases c
 ·cases a
theorem lQ {w W:World}{p:Ax}{n1 f n3 g gs i gp l m a n:Nat}{o e q r t:Value}(k:Ej p) (P:JG (λb=>w.heap.size<=b/\b<n1) W g p gp l m a o)
  (c:AE W gs 71 [.pointer (some ⟨i,0,none⟩),e]) (V:Sl (λb=>w.heap.size<=b/\(b<f\/n3<=b)) W 3 1 e p.decls.length (List.replicate p.decls.length (.int .i64 0)))
  (v:BJ (λb=>f<=b/\b<n3) W i (Am.new p.decls.length) q r t n) (y:n1<=f) (H:w.heap.size<=f) (z:f<=n3) (A:n3<=gs):
  GR (λb=>w.heap.size<=b/\b<W.heap.size+1) (W.alloc (.cells #[.pointer (some ⟨g,0,none⟩),.pointer (some ⟨gs,0,none⟩),.int .i64 0,.int .i64 0,.int .i64 0] 73)) W.heap.size (EX.new p):=by
 have C:w.heap.size<=gs:=by omega
 have D:=c.lt;have e1:(EX.new p).s.vars.length=p.decls.length:=CN;have E:(EX.new p).s.vars.map Jv=List.replicate p.decls.length (.int .i64 0):=by show(List.replicate p.decls.length (0:Int)).map Jv=_;rw[PQ];rfl
 refine⟨g,gs,i,gp,l,m,a,o,e,(λb=>f<=b/\b<n3),Am.new p.decls.length,List.replicate p.decls.length [],AE.new W _ _,(P.alloc _).mono (λb d u=>⟨⟨u.1,?_⟩,λh=>by have:=u.2;have:=h.1;omega⟩),c.alloc _,?_,
  ⟨q,r,t,n,v.alloc _⟩,CD.new _ k.decls.len,ov k,k,λj x F=>absurd F (wD j x),λb d=>⟨by have:=d.1;omega,by have:=d.2;omega⟩,⟨⟨?_,by omega⟩,λh=>?_⟩,⟨⟨C,by omega⟩,λh=>by have:=h.2;omega⟩⟩
 ·simp at d;omega
 ·rw[e1,E];have G:=V.shrink.alloc (.cells #[.pointer (some ⟨g,0,none⟩),.pointer (some ⟨gs,0,none⟩),.int .i64 0,.int .i64 0,.int .i64 0] 73);exact G.mono (λb d=>⟨⟨d.1.1,by have:=d.2;omega⟩,λh=>by have:=d.1.2;have:=h.1;have:=h.2;omega⟩)
 ·omega
 ·have:=h.2;omega
theorem Vo {w w1 W:World}{s:Ah}{p:Ax}{n1 c n3 l gs m gp r t a u ge:Nat}{v d x y z:Value}{E:List Value}(n:read s= .ok p) (A:E=List.replicate p.decls.length (.int .i64 0)) (o:Ac (λb=>w.heap.size<=b) w w1) (q:Ac (λb=>w1.heap.size<=b) w1 W)
  (P:JG (λb=>w.heap.size<=b/\b<n1) W l p gp r t a v)
  (e:AE W gs 71 [.pointer (some ⟨m,0,none⟩),d]) (V:Sl (λb=>w.heap.size<=b/\(b<c\/n3<=b)) W 3 1 d p.decls.length E)
  (C:BJ (λb=>c<=b/\b<n3) W m (Am.new p.decls.length) x y z u) (g:n1<=c) (D:w.heap.size<=c) (i:c<=n3) (j:n3<=gs) (k:ge=W.heap.size):
  Uw w s (.returned (.tuple #[.pointer (some ⟨ge,0,none⟩),.int .i64 0,.int .i64 0])) (W.alloc (.cells #[.pointer (some ⟨l,0,none⟩),.pointer (some ⟨gs,0,none⟩),.int .i64 0,.int .i64 0,.int .i64 0] 73)):=by
 subst A k;refine⟨o.trans ((q.alloc q.size _).mono (λb f=>Ad o.size f)),?_⟩;rw[n];refine⟨_,rfl,?_⟩;have h:=lQ (ez n) P e V C g D i j;exact h.mono (λb f=>⟨f.1,by simp;exact f.2⟩)
section
variable {B:Nat}{ea:Nat->Addr}{w:World}{s:Ah}
attribute [local go_sem ↓] Go.wp_at_zero Go.wp_at_succ
theorem o7 (u:UF B ea w) (A:JI B ea w) {k pos:Nat}(x:read s= .error (k,pos)):Calls prog 7 #[vs s] w (Uw w s):=by
 obtain⟨C,D⟩:=ax x;have c:=ay u s;obtain⟨M,E,N,F⟩:=zq4 c u A x;clear c u A x;go_enter func7,ntmps7;go_wp2_with fail;refine M.out.mono ?_;rintro e w1 ⟨g,G⟩;rw[F.out]at G;obtain⟨gf,rfl,d,O⟩:=G;have H:=E.out.size;have l:=E.out.kept g (λb a=>Ad H a);have i:=N.out.kept g (λb a=>Ad H a);have I:=d.lt;have q:=Aab ⟨gf,0,none⟩ ⟨w1.heap.size,0,none⟩ (.pointer none) (w1.alloc (.cells #[.pointer none] 54))
  ((((Ac.refl (λb=>w1.heap.size<=b) w1).alloc (Ab _) (.cells #[.pointer none] 54)).cell (p:=⟨2,0,none⟩) (by have:=i.p8;have:=l.size;simp only;omega)).trans i.qz) (by simp) (by simp)
 obtain⟨P,J,r,y,Q⟩:=zq5 q g d l i;clear q g d l i;go_wp2_with fail;refine P.out.mono ?_;rintro e f ⟨rfl,m⟩;have o:Ac (λb=>w1.heap.size<=b) w1 f:=by
  rw[m]
  repeat' first|with_reducible exact Ac.refl _ _|with_reducible refine Ac.setCell ?_ (by simp) _|with_reducible refine Ac.alloc ?_ (by simp<;>omega) _
 have K:f.cell? ⟨w1.heap.size,0,none⟩=some (.pointer (some ⟨gf,0,none⟩)):=by
  rw[m];rw[World.cell?_setCell_same]
  case h=>exact(((((AE.new w1 54 [.pointer none]).alloc _).alloc _).alloc _).alloc _).cell 0
 have R:f.cell? ⟨gf,1,none⟩=some (.int .i64 pos):=(o.cell (p:=⟨gf,1,none⟩) (by simp only;omega)).trans (r.out.cell 1);have j:∀W,Ac (λb=>f.heap.size<=b) f W->Calls prog 21 #[.iface 54 (.pointer (some ⟨gf,0,none⟩))] W (rQ W k):=λW S=>by have z:Ac (λb=>w1.heap.size<=b) w1 W:=o.trans (S.mono (λb a=>Ad o.size a));have e1:=y.out.kept z (λb a=>Ad y.out.size a);exact Vh e1 C D (aV (Q.out.kept z (λb a=>Ad y.out.size a)) e1.size C D (r.out.kept z (by omega)))
 obtain⟨T,L⟩:=zq2 j o;have V:w1.heap.size<f.heap.size:=CT f _ K;have X:=o.size;clear m j o;go_wp2_with fail
 go_region_held3 (λw'=>w'.cell? ⟨w1.heap.size,0,none⟩=some (.pointer (some ⟨gf,0,none⟩))/\w'.cell? ⟨gf,1,none⟩=some (.int .i64 pos)/\Ac (λb=>f.heap.size<=b) f w')
  ((repeat' apply And.intro)<;>(first
   |assumption
   |exact(Ac.cell n (by simp only;omega)).trans K
   |exact(Ac.cell n (by simp only;omega)).trans R
   |(with_reducible exact zAr.drew)
   |go_keep
   ))
  (first
   |(go_at_call 21;refine(T.out _ ?_).mono ?_;(first|exact zAr.drew);rintro e w3 ⟨rfl,t⟩;have n:Ac (λb=>f.heap.size<=b) f w3:=(zAr.drew).trans (t.mono (λb a=>a));clear t))
 all_goals
  go_wp2;refine AA (v:=.tuple #[.pointer none,.int .i64 k,.int .i64 pos]) (by simp[results,Zr,go_sem]) rfl ?_;refine⟨?_,?_⟩
  ·have U:=n.mono (λb a=>Ad L.out.size a);exact J.out.trans ((L.out.trans U).mono (λb a=>Ad J.out.size a))
  ·rw[F.out]
theorem uL (he:UF B ea w) {p:Ax}(hr:read s= .ok p):Calls prog 7 #[vs s] w (Uw w s):=by
 have hp:=ez hr;have h8:=hp.decls.len;have m:=ay he s;obtain⟨i0,J,K,L,N⟩:=Bg LM;have bi:∀W:World,(Instr.makeSlice 69 (.int .i64 (p.decls.length:Int)) (.int .i64 (p.decls.length:Int))).run prog W=
   .ok (.slice (some ⟨W.heap.size,0,none⟩) p.decls.length p.decls.length) (W.alloc (.cells (List.replicate p.decls.length (Value.int .i64 0)).toArray 3)):=by
  intro W;have h:=Wr (P:=prog) W 69 3 i0 _ Fa J K .i64 .i64 (p.decls.length:Int) (p.decls.length:Int) (by omega) (by omega) (by rw[N];omega) (by omega);rw[L,As]at h;have e:(Value.int .i64 0).cells=#[Value.int .i64 0]:=rfl;rw[e,GO,GA]at h;exact h
 obtain⟨HR,HX,HP⟩:=zq3 m hr hp;clear m he hr hp J K L N;generalize hE:(List.replicate p.decls.length (Value.int .i64 0))=E at bi;have A:=Aa hE;clear hE;go_enter func7,ntmps7;go_wp2_with fail;refine HR.out.mono ?_;rintro e w1 ⟨x,hm⟩;rw[HX.out]at hm;obtain⟨gp,bm,vd,rfl,g⟩:=hm;obtain⟨ad,cd,rfl⟩:∃a c,vd= .slice a p.decls.length c:=g.decls.shape;have p0:=g.row.cell 0;simp at p0;have O:∀W,Ac (λb=>w1.heap.size<=b) w1 W->Calls prog 22 #[.pointer (some ⟨gp,0,none⟩)] W λe w'=>
   ∃Q bc f,e= .returned (.pointer (some ⟨Q,0,none⟩))/\Ac (λb=>W.heap.size<=b) W w'/\JG (λb=>w.heap.size<=b/\b<w'.heap.size) w' Q p gp bm bc f (.slice ad p.decls.length cd):=λW hk=>by
  have hW:=g.later hk (λb d=>d);have bj:w.heap.size<=W.heap.size:=Ad x.size hk.size;refine(zN hW HP.out).mono ?_;rintro e w' ⟨Q,bc,f,h1,h2,h3⟩;have j:=hW.later h2 (λb d=>d);obtain⟨M,m1,_⟩:=j.rules;exact⟨Q,bc,f,h1,h2,h3.eS (λb h4 h5=>⟨Ad bj h5,h4⟩),j.row,j.decls.shrink.mono (λb d=>⟨d.1,d.2⟩),FP.eS j.rules (λk h4 h5=>⟨h5,h4⟩),⟨j.lA,j.row.lt⟩,⟨j.mW,m1.lt⟩⟩
 have u:∀W:World,Calls prog 23 #[.int .i64 (p.decls.length:Int)] W λe w'=>
   ∃R,e= .returned (.pointer (some ⟨R,0,none⟩))/\Ac (λb=>W.heap.size<=b) W w'/\∃C D F G,BJ (λb=>W.heap.size<=b/\b<w'.heap.size) w' R (Am.new p.decls.length) C D F G:=λW=>by
  refine(uJ (S:=λb=>W.heap.size<=b) (λk hk=>hk) p.decls.length (by omega)).mono ?_;rintro e w' ⟨R,h1,h2,C,D,F,G,h3⟩;exact⟨R,h1,h2,C,D,F,G,h3.shrink⟩
 obtain⟨br,T,H⟩:=zq3 O u x;have cW:=g.row.lt;clear O u x g;go_wp2_with fail
 go_region_held3 (λw'=>Ac (λb=>w1.heap.size<=b) w1 w')
  (first
   |assumption
   |(with_reducible exact zAr.drew)
   |exact(zAr.drew).alloc (Ab _) _
   |exact o.alloc z2 _
   |exact l.alloc I _
   |exact(l.alloc I _).alloc (by simp;omega) _
   |exact((l.alloc I _).alloc (by simp;omega) _).alloc (by simp;omega) _)
  (first
   |(go_at_call 22;refine(br.out _ ?_).mono ?_;(first|exact zAr.drew|exact(zAr.drew).alloc (Ab _) _);rintro e w2 ⟨Q,bc,f,rfl,q,U⟩;have o:Ac (λb=>w1.heap.size<=b) w1 w2:=(by first|exact(zAr.drew).trans (q.mono (λb d=>d))|exact(((Ac.refl (λb=>w1.heap.size<=b) w1).drew).alloc (Ab _) _).trans (q.mono (λb d=>by simp at d;omega)));have z2:=o.size;have r:=Aa q;have y:=Aa U;clear q U)
   |(go_at_call 23;refine(T.out _).mono ?_;rintro e w3 ⟨R,rfl,t,V⟩;have l:Ac (λb=>w1.heap.size<=b) w1 w3:=(by first|exact o.trans (t.mono (λb d=>Ad z2 d))|exact(o.alloc z2 _).trans (t.mono (λb d=>by simp at d;omega)));have I:=l.size;have i:=Aa t;have z:=Aa V;clear t V))
 all_goals go_wp2
 ·obtain⟨C,D,F,G,X⟩:=z.out;obtain⟨s1,Y,Z⟩:=zp3 H.out.size r.out.size i.out.size;have n:E.length=p.decls.length*1:=by rw[←A.out];simp
  simp at Y Z;refine AA (v:=.tuple #[.pointer (some ⟨w3.heap.size+1+1,0,none⟩),.int .i64 0,.int .i64 0]) (by simp[results,Zr,go_sem]) rfl ?_;exact Vo HX.out A.out.symm H.out ((l.alloc I _).alloc (by simp;omega) _) (((y.out.later i.out (λb d=>by simpa using d)).alloc _).alloc _) (AE.fb _ _ (by simp))
   ((Sl.fc (AE.new _ _ _) ⟨by omega,.inr (Ab _)⟩ n (by unfold maxLen;omega)).alloc _) ((X.alloc _).alloc _) (by simp) (by first|omega|(simp;omega)) (by first|omega|(simp;omega)) (by simp) (by simp)
 ·obtain⟨C,D,F,G,X⟩:=z.out;obtain⟨s1,Y,Z⟩:=zp3 H.out.size r.out.size i.out.size;have n:E.length=p.decls.length*1:=by rw[←A.out];simp
  simp at Y Z;refine AA (v:=.tuple #[.pointer (some ⟨w3.heap.size+1,0,none⟩),.int .i64 0,.int .i64 0]) (by simp[results,Zr,go_sem]) rfl ?_;exact Vo HX.out A.out.symm H.out (l.alloc I _) (((y.out.alloc _).later i.out (λb d=>by simpa using d)).alloc _) (AE.fb _ _ (by simp))
   (((Sl.fc (AE.new _ _ _) ⟨by omega,.inl (by simp)⟩ n (by unfold maxLen;omega)).later i.out (λb d=>d)).alloc _) (X.alloc _) (by simp) (by first|omega|(simp;omega)) (by first|omega|(simp;omega)) (by simp) (by simp)
 ·obtain⟨C,D,F,G,X⟩:=z.out;obtain⟨s1,Y,Z⟩:=zp3 H.out.size r.out.size i.out.size;have n:E.length=p.decls.length*1:=by rw[←A.out];simp
  simp at Y Z;refine AA (v:=.tuple #[.pointer (some ⟨w3.heap.size+1,0,none⟩),.int .i64 0,.int .i64 0]) (by simp[results,Zr,go_sem]) rfl ?_;exact Vo HX.out A.out.symm H.out (l.alloc I _) ((y.out.later i.out (λb d=>by simpa using d)).alloc _) (AE.fb _ _ (by simp))
   (((((Sl.fc (AE.new _ _ _) ⟨by first|omega|(simp;omega),.inl (by first|omega|(simp;omega))⟩ n (by unfold maxLen;omega)).of_heap (w':=(w1.alloc (.cells E.toArray 3)).drew) rfl).later r.out (λb d=>d)).later i.out (λb d=>d)).alloc _) (X.alloc _) (by simp) (by first|omega|(simp;omega)) (by first|omega|(simp;omega)) (by simp) (by simp)
theorem aP (a:UF B ea w) (c:JI B ea w) (s:Ah):Calls prog 7 #[vs s] w (Uw w s):=by
 cases b:read s with
 |error x=>exact o7 a c (k:=x.1) (pos:=x.2) b
 |ok p=>exact uL a b
end
theorem fY {p:Ax}{key:Int}{v:VS}{i:Gk}(a:XL i=true) (r:Except Nat DN):Ey p key v i≠some (.inr r):=by
 intro h;cases i<;>simp only[XL]at a<;>first|cases a|skip
 all_goals
  simp only[Ey]at h
  first
   |(split at h<;>simp at h)
   |simp at h
theorem Aaa {i:Gk}(a:XL i=true):9<=i.op/\i.op<=16:=by cases i<;>first|(simp[Gk.op];done)|(simp[XL]at a;done)
theorem Vk {l:List Int}{c:Nat}{n:Int}(h:∀m∈l,0<=m/\m<=50) (b:0<=n/\n<=50):∀m∈l.set c n,0<=m/\m<=50:=by
 intro m d;rcases EG d with a|a
 ·exact h m a
 ·exact a▸b
theorem uA (y:D0):y.op<=8:=by
 cases y with
 |put q t=>cases t<;>simp[D0.op]
 |shift a b t=>cases t<;>simp[D0.op]
 |_=>simp[D0.op]
section
variable {B:Nat}{ea:Nat->Addr}{w0 w:World}{x:RV}{p:Ax}{key ev:Int}{code:List Gk}{gl cap:Nat}{res:Except Nat DN}
theorem dP (d:Sl (λb=>b<B) w 131 3 (.slice (some ⟨gl,0,none⟩) code.length cap) code.length (code.flatMap Cy)) {pc:Nat}{i:Gk}(h:code[pc]?=some i):
  w.cell? ⟨gl,pc*3,none⟩=some (.int .u8 i.op)/\w.cell? ⟨gl,pc*3+1,none⟩=some (.int .i64 i.a)/\w.cell? ⟨gl,pc*3+2,none⟩=some (.int .i64 i.b)/\gl<w.heap.size/\pc<code.length/\code.length<=cap/\cap<=maxLen:=by
 have c:=λj k=>d.at_ (f:=Cy) (λ_=>rfl) h (j:=j) k;have l:=(Aj.1 h).1;obtain⟨g,r,e,_,m,n,o⟩:=d.form (by omega);injection e with e1 _ q;injection e1 with e1;injection e1 with e1;subst e1 q;exact⟨c 0 (by omega),c 1 (by omega),c 2 (by omega),o,l,m,n⟩
theorem oA (cY:∀c n,Gk.count c n∈code->0<=n/\n<=50) (hp:Ej p) (he:Tr B ea w0) (hc:Sl (λb=>b<B) w0 131 3 (.slice (some ⟨gl,0,none⟩) code.length cap) code.length (code.flatMap Cy))
  {T:Nat->Prop} {A:Am} {U:List (List Nat)} {s:St} {k0 bc:Nat} {M:GZ} (d:UN p key code k0 ⟨0,[],false,List.replicate x.lp 0,⟨s,[]⟩⟩=some res) (hm:BQ w0 bc .i64 M) (hM:FV M ev=some (.slice (some ⟨gl,0,none⟩) code.length cap))
  (m:tD B w0 x.gg x.gp x.vd x.qt (.map (some bc)) x.lp p) (cZ:yT B w0 x.gs x.ga x.mQ T A s.vars) (hA:CD A U s.q) (hS:GY p s) (hB:B<=w0.heap.size) (fa:x.lp<=490000)
  (x1:x.gr=w0.heap.size+1) (x2:x.ll= .slice (some ⟨w0.heap.size,0,none⟩) x.lp x.lp) (x3:x.qx= .map (some bc)):
  Calls prog 27 #[.pointer (some ⟨x.gg,0,none⟩),.pointer (some ⟨x.gs,0,none⟩),.int .i64 ev,.int .u64 key] w0 (gS B ea w0 x.gs p res):=by
 have hJ:=Cq.first (key:=key) m cZ hB fa;have bz:Ac (λb=>B<=b) w0 ((w0.alloc (.cells (List.replicate x.lp (Value.int .i64 0)).toArray 3)).alloc (.cells #[.pointer (some ⟨x.gg,0,none⟩),.pointer (some ⟨x.gs,0,none⟩),.int .u64 key,.slice none 0 0,.bool false,.slice (some ⟨w0.heap.size,0,none⟩) x.lp x.lp,.slice none 0 0] 153)):=
  ((Ac.refl _ w0).alloc hB _).alloc (Ad hB (by simp)) _
 have ex:(⟨w0.heap.size+1,x.gg,x.gp,x.gs,x.ga,x.vd,x.qt,.map (some bc),x.lp,.slice none 0 0,.slice (some ⟨w0.heap.size,0,none⟩) x.lp x.lp,.slice none 0 0,x.mQ⟩:RV)={x with nO:=.slice none 0 0,iM:=.slice none 0 0}:=by rw[←x1,←x2,←x3]
 rw[ex]at hJ;have c1:=m.prog.cell 1;have c2:=m.prog.cell 2;have hz:∀w:World,(zeroValue 124).run prog w= .ok (.slice none 0 0) w:=λw=>by kernel_rfl
 have L:=hm.lookup (P:=prog) gy C9 hz ev true;rw[hM]at L;obtain⟨i0,dc,dh,di,dj⟩:=Bg LM;have fc:∀W:World,(Instr.makeSlice 69 (.int .i64 (x.lp:Int)) (.int .i64 (x.lp:Int))).run prog W=
   .ok (.slice (some ⟨W.heap.size,0,none⟩) x.lp x.lp) (W.alloc (.cells (List.replicate x.lp (Value.int .i64 0)).toArray 3)):=by
  intro W;have h:=Wr (P:=prog) W 69 3 i0 _ Fa dc dh .i64 .i64 (x.lp:Int) (x.lp:Int) (by omega) (by omega) (by rw[dj];omega) (by omega);rw[di,As]at h;have e:(Value.int .i64 0).cells=#[Value.int .i64 0]:=rfl;rw[e,GO,GA]at h;exact h
 generalize hE:List.replicate x.lp (Value.int .i64 0)=E at fc hJ bz;obtain⟨HJ,bC,fd,fh,fi,fj⟩:=zq6 hJ d hA hS bz x1;clear hJ d hA hS bz ex x1 x2 x3 hE dc dh di dj hM hm m cZ hB;simp at c1 c2 L;go_enter func27,ntmps27;go_wp2;refine Ox 0 (Anm B ea w0 x p ev key code gl cap res) rfl ?_ ?_
 ·intro V;have HP:=Aa V;clear V;apply wp_seq_k;intro K0 dm;have fm:=Aa dm;clear dm;go_wp2;refine fm.out _ _ ?_;apply wp_seq_k;intro K1 dr;have fo:=Aa dr;clear dr;go_wp2;refine fo.out _ _ ?_;apply wp_seq_k;intro K2 dt;have N:=Aa dt;clear dt;go_wp2;refine N.out _ _ ?_;apply wp_seq_k;intro K3 dv;have fp:=Aa dv;clear dv;go_wp2;refine fp.out _ _ ?_;refine wp_seq (wp_label ?_);refine HP.out k0 _ _ ⟨⟨0,[],false,List.replicate x.lp 0,⟨s,[]⟩⟩,.slice none 0 0,.slice none 0 0,T,A,U,Lc _ (λu=>U2 x.gg x.gs x.gr gl code.length cap 0 ev key u) (by rw[fj.out];rfl),bC.out,HJ.out,fd.out,fh.out,AQ _,?_,fi.out⟩;intro n hn;have:=List.eq_of_mem_replicate hn;omega
 ·rintro k a w1 ⟨v,st,ou,T,A,U,⟨u,rfl⟩,d,hr,hA,hS,L,dy,hk⟩;cases k with
  |zero=>cases d
  |succ k=>
   unfold UN at d;cases hi:code[v.pc]? with
   |none=>rw[hi]at d;cases d
   |some i=>
    rw[hi]at d;simp only at d;have bE:=hc.kept hk (λb hb jk=>by have h1:=hc.2 b hb;simp only at h1;omega);have dA:=he.kept hk (λb hb=>hb);obtain⟨S,s1,s2,jr,jZ,ky,ft⟩:=dP bE hi;obtain⟨HC,HE,z,HA,HS,HK,F,HB⟩:=zq8 bE dA hr hA hS hk dy hr.base;have r1:x.gr<w1.heap.size:=hr.row.lt;have q1:¬x.gr=w1.heap.size:=by omega
    have q2:¬gl=w1.heap.size:=by omega
    unfold maxLen at ft;clear bE dA hr hA hS hk dy;have HI:=Aa hi;clear hi;unfold U2;by_cases l:XL i=true
    ·cases hv:Ey p key v i with
     |none=>rw[hv]at d;cases d
     |some y=>
      cases y with
      |inr r=>exact absurd hv (fY l r)
      |inl v'=>
       rw[hv]at d;simp only at d;have m:=z.out.grown ((Ac.refl _ w1).alloc (Ab _) (.cells (Cy i).toArray 131)) z.out.base;obtain⟨f,bu,eg,bx,eF⟩:=wJ m hp HA.out HS.out L l hv;obtain⟨o9,fP⟩:=Aaa l;unfold Cy at f m;obtain⟨o,ho⟩:∃o:Int,o=i.op:=⟨_,rfl⟩;rw[←ho]at f S m;have e9:9<=o:=by omega
       have lu:o<=16:=by omega
       have fR:(o==21)=false:=by simp;omega
       have gQ:(o==17)=false:=by simp;omega
       have gX:(o==18)=false:=by simp;omega
       have gY:(o==19)=false:=by simp;omega
       have gZ:(o==20)=false:=by simp;omega
       obtain⟨G,g,hH,eG,t,hI⟩:=zq6 f d bu eg eF bx;clear f d bu eg bx eF m ho o9 fP hv l L;generalize i.a=ia at*;generalize i.b=ib at*;go_wp2_with (go_at_call 53;refine G.out.mono ?_;rintro e w2 ⟨rfl,J,u2,X⟩;have N:=Aa J;have bF:=Aa X;clear J X)
       go_step3
       refine⟨rfl,k,Ec k,v',u2,ou,T,A,U,?_,g.out,bF.out,by rw[eG.out];exact HA.out,by rw[eG.out];exact HS.out,t.out,by rw[hI.out];exact F.out,(HK.out.alloc HB.out _).trans N.out⟩;rw[hH.out];exact Lc _ _ rfl
    ·cases i with
     |fin=>
      simp only[Ey]at d;injection d with d;subst d;have c6:=z.out.row.cell 6;simp at c6;have bp:w1.cell? ⟨gl,v.pc*3,none⟩=some (.int .u8 21):=S;have bq:w1.cell? ⟨gl,v.pc*3+1,none⟩=some (.int .i64 0):=s1;have br:w1.cell? ⟨gl,v.pc*3+2,none⟩=some (.int .i64 0):=s2;clear S s1 s2 L l;go_wp2;go_ret2;obtain⟨vl,vf,vq,bm,lA⟩:=z.out.ar;have hg:=z.out.grown ((Ac.refl _ w1).alloc (Ab _) (.cells #[.int .u8 21,.int .i64 0,.int .i64 0] 131)) z.out.base;exact⟨HK.out.alloc HB.out _,ou,x.ga,x.mQ,T,A,U,rfl,hg.state,HA.out,HS.out,hg.out,λb hb=>⟨hg.s3 b hb,λe=>hg.out.bD hg.bg (by decide) (e▸hb),λe=>hg.vars.eZ hg.out (by decide) b e hb⟩⟩
     |jump a=>
      simp only[Ey]at d;have bp:w1.cell? ⟨gl,v.pc*3,none⟩=some (.int .u8 17):=S;have bq:w1.cell? ⟨gl,v.pc*3+1,none⟩=some (.int .i64 a):=s1;have br:w1.cell? ⟨gl,v.pc*3+2,none⟩=some (.int .i64 0):=s2;obtain⟨g,t⟩:=zq2 d L;clear S s1 s2 L l d;go_wp2
      go_step3
      exact⟨rfl,k,Ec k,{v with pc:=a},st,ou,T,A,U,Lc _ _ rfl,g.out,(z.out.grown ((Ac.refl _ w1).alloc (Ab _) _) z.out.base).at_ a,HA.out,HS.out,t.out,F.out,HK.out.alloc HB.out _⟩
     |skip a=>
      simp only[Ey]at d;have bp:w1.cell? ⟨gl,v.pc*3,none⟩=some (.int .u8 18):=S;have bq:w1.cell? ⟨gl,v.pc*3+1,none⟩=some (.int .i64 a):=s1;have br:w1.cell? ⟨gl,v.pc*3+2,none⟩=some (.int .i64 0):=s2;have c4:=z.out.row.cell 4;have t:=Aa L;clear S s1 s2 L l;cases hy:v.yes with
      |true=>
       rw[Al hy]at d;simp at c4;rw[hy]at c4;have g:=Aa d;clear d hy;go_wp2
       go_step3
       exact⟨rfl,k,Ec k,{v with pc:=v.pc+1},st,ou,T,A,U,Lc _ _ rfl,g.out,(z.out.grown ((Ac.refl _ w1).alloc (Ab _) _) z.out.base).at_ _,HA.out,HS.out,t.out,F.out,HK.out.alloc HB.out _⟩
      |false=>
       rw[Ai (by rw[hy];decide)]at d;simp at c4;rw[hy]at c4;have g:=Aa d;clear d hy;go_wp2
       go_step3
       exact⟨rfl,k,Ec k,{v with pc:=a},st,ou,T,A,U,Lc _ _ rfl,g.out,(z.out.grown ((Ac.refl _ w1).alloc (Ab _) _) z.out.base).at_ _,HA.out,HS.out,t.out,F.out,HK.out.alloc HB.out _⟩
     |count c n=>
      simp only[Ey]at d;by_cases O:c<v.loops.length
      ·rw[Al O]at d;simp only at d;obtain⟨Q,cv,H,_,hU,bI,hY⟩:=z.out.loops.form (by omega);have bp:w1.cell? ⟨gl,v.pc*3,none⟩=some (.int .u8 19):=S;have bq:w1.cell? ⟨gl,v.pc*3+1,none⟩=some (.int .i64 c):=s1;have br:w1.cell? ⟨gl,v.pc*3+2,none⟩=some (.int .i64 n):=s2;have c5:=z.out.row.cell 5;simp at c5;rw[show x.ll=_ from H]at c5;have C:=z.out.loops;rw[show({x with nO:=st,iM:=ou}:RV).ll=_ from H]at C;have cc:∃y,w1.cell? ⟨Q,c,none⟩=some y:=by have h2:=C.1.cellAt c (by simpa using O);rw[At,Ae O]at h2;exact⟨_,h2⟩
       obtain⟨y,cc⟩:=cc;have cf:∀j,w1.frozen? ⟨Q,j,none⟩=false:=λj=>C.1.frozenAt j;have q3:¬Q=w1.heap.size:=by omega
       have K:=λnq=>(z.out.grown (w':=(w1.alloc (.cells #[.int .u8 19,.int .i64 c,.int .i64 n] 131)).drewN nq) (((Ac.refl _ w1).alloc (Ab _) _).drewN nq) z.out.base).ln H c n;have Y:B<=Q:=C.2 Q rfl;obtain⟨g,t,Z,cy⟩:=zq4 d L K Y;generalize v.loops.length=LL at*;unfold maxLen at bI;clear S s1 s2 L l d H C K Y;go_wp2;refine G5 9 (by kernel_rfl) (by kernel_rfl) ?_;simp only[Au,AH,Av,AJ]
       repeat (go_big_quiet_step (fail))
       refine Ik ?_;intro nq;go_wp2
       go_step3
       exact⟨rfl,k,Ec k,{v with pc:=v.pc+1,loops:=v.loops.set c n},st,ou,T,A,U,Lc _ _ rfl,g.out,(Z.out nq).at_ _,HA.out,HS.out,t.out,Vk F.out (cY c n (Aw HI.out)),((HK.out.alloc HB.out _).drewN nq).setCell (p:=⟨Q,c,none⟩) cy.out _⟩
      ·rw[Ai O]at d;cases d
     |again c a=>
      simp only[Ey]at d;cases R:v.loops[c]? with
      |none=>rw[R]at d;cases d
      |some n=>
       rw[R]at d;simp only at d;have O:c<v.loops.length:=(Aj.1 R).1;obtain⟨lI,iT⟩:=F.out n (Aw R);obtain⟨Q,cv,H,_,hU,bI,hY⟩:=z.out.loops.form (by omega);have bp:w1.cell? ⟨gl,v.pc*3,none⟩=some (.int .u8 20):=S;have bq:w1.cell? ⟨gl,v.pc*3+1,none⟩=some (.int .i64 c):=s1;have br:w1.cell? ⟨gl,v.pc*3+2,none⟩=some (.int .i64 a):=s2;have c5:=z.out.row.cell 5;simp at c5;rw[show x.ll=_ from H]at c5;have C:=z.out.loops;rw[show({x with nO:=st,iM:=ou}:RV).ll=_ from H]at C;have cc:w1.cell? ⟨Q,c,none⟩=some (.int .i64 n):=by have h2:=C.1.cellAt c (by simpa using O);rw[At,R]at h2;exact h2
       have cf:∀j,w1.frozen? ⟨Q,j,none⟩=false:=λj=>C.1.frozenAt j;have q3:¬Q=w1.heap.size:=by omega
       have cz:=λnq=>z.out.grown (w':=(w1.alloc (.cells #[.int .u8 20,.int .i64 c,.int .i64 a] 131)).drewN nq) (((Ac.refl _ w1).alloc (Ab _) _).drewN nq) z.out.base;have K:=λnq=>(cz nq).ln H c (n-1);have Y:B<=Q:=C.2 Q rfl;obtain⟨g,t,Z,ic,cy⟩:=zq5 d L K cz Y;generalize ie:v.loops.length=LL at*;unfold maxLen at bI;clear ie;clear S s1 s2 L l d H C K cz Y R;by_cases hz:n=0
       ·subst hz;have d:=g.out;rw[Al rfl]at d;simp only at d;have D:=Aa d;clear d;go_wp2;go_quiet (fail);go_wp2
        go_step3
        exact⟨rfl,k,Ec k,{v with pc:=a},st,ou,T,A,U,Lc _ _ rfl,D.out,(ic.out nq).at_ _,HA.out,HS.out,t.out,F.out,(HK.out.alloc HB.out _).drewN nq⟩
       ·have d:=g.out;rw[Ai hz]at d;simp only at d;have D:=Aa d;have z1:(n==0)=false:=by simpa using hz
        have z2:decide (n=0)=false:=by simpa using hz
        have lJ:IntKind.i64.wrap (n-1)=n-1:=CU _ (by omega);clear d;go_wp2;go_quiet (fail);go_wp2;refine G5 10 (by kernel_rfl) (by kernel_rfl) ?_;simp only[Au,AH,Av,AJ]
        repeat (go_big_quiet_step (fail))
        refine Ik ?_;intro lK;go_wp2
        go_step3
        exact⟨rfl,k,Ec k,{v with pc:=v.pc+1,loops:=v.loops.set c (n-1)},st,ou,T,A,U,Lc _ _ rfl,D.out,(Z.out _).at_ _,HA.out,HS.out,t.out,Vk F.out (by omega),((HK.out.alloc HB.out _).drewN _).setCell (p:=⟨Q,c,none⟩) cy.out _⟩
     |bG y=>
      simp only[Ey]at d;by_cases aD:J5 p.decls y/\v.r.gone.length<Dm
      ·rw[Al aD]at d;have m:=z.out.grown ((Ac.refl _ w1).alloc (Ab _) (.cells (Cy (.bG y)).toArray 131)) z.out.base;have bt:=HE.out.kept ((Ac.refl (λb=>B<=b) w1).alloc z.out.base (.cells (Cy (.bG y)).toArray 131)) (λb hb=>hb);have f:=we m bt hp HA.out HS.out aD.2 aD.1;have o8:=uA y;unfold Cy at f m bt;obtain⟨o,ho⟩:∃o:Int,o=(Gk.bG y).op:=⟨_,rfl⟩;have e8:o<=8:=by rw[ho];show((y.op:Nat):Int)<=8;omega
       rw[←ho]at f S m bt;have fR:(o==21)=false:=by simp;omega
       have gQ:(o==17)=false:=by simp;omega
       have gX:(o==18)=false:=by simp;omega
       have gY:(o==19)=false:=by simp;omega
       have gZ:(o==20)=false:=by simp;omega
       obtain⟨g,G,t,eS⟩:=zq4 d f L ((HK.out.alloc HB.out (.cells #[.int .u8 o,.int .i64 (Gk.bG y).a,.int .i64 (Gk.bG y).b] 131)));clear d f m bt ho o8 aD l L;generalize (Gk.bG y).a=ia at*;generalize (Gk.bG y).b=ib at*;cases hx:bG p key y v.r with
       |error ke=>
        have d:=g.out;rw[hx]at d;simp only at d;injection d with d;subst d;have f:=G.out;rw[hx]at f;have I:=Aa f;clear f hx;go_wp2_with (go_at_call 54;refine I.out.mono ?_;rintro e w2 ⟨J,eT⟩;have ig:e= .returned (.iface 307 (.pointer (some (ea ke)))):=eT;subst ig;have N:=Aa J;clear J eT);go_ret2;exact⟨eS.out.trans N.out,rfl⟩
       |ok r'=>
        have d:=g.out;rw[hx]at d;simp only at d;have f:=G.out;rw[hx]at f;obtain⟨I,D⟩:=zq2 f d;clear f hx d;go_wp2_with (go_at_call 54;refine I.out.mono ?_;rintro e w2 ⟨J,rfl,X⟩;have N:=Aa J;have bF:=Aa X;clear J X)
        go_step3
        obtain⟨ii,u2,A',ix,r1,r2,r3⟩:=bF.out;exact⟨rfl,k,Ec k,{v with pc:=v.pc+1,r:=r'},st,u2,ii,A',ix,Lc _ _ rfl,D.out,r1.at_ _,r2,r3,t.out,F.out,eS.out.trans N.out⟩
      ·rw[Ai aD]at d;cases d
     |_=>exact absurd rfl l
def Aaj (w0:World) (e:Ending) (w':World):Prop:=e= .returned (.tuple #[.slice none 0 0,.nilIface])/\w'=w0
theorem oz {d gs e j:Nat}{l:Value}{M:GZ}(f:BQ w0 e .i64 M) (g:FV M ev=none) (c:AE w0 d 76 [l,.map (some e),.int .i64 j]):
  Calls prog 27 #[.pointer (some ⟨d,0,none⟩),.pointer (some ⟨gs,0,none⟩),.int .i64 ev,.int .u64 key] w0 (Aaj w0):=by
 have m:=c.cell 1;have n:∀w:World,(zeroValue 124).run prog w= .ok (.slice none 0 0) w:=λw=>by kernel_rfl
 have i:=f.lookup (P:=prog) gy C9 n ev true;rw[g]at i;clear f g c;simp at m i;go_enter func27,ntmps27;go_wp2;refine Ox 0 (λ_ _ _=>False) rfl ?_ ?_
 ·intro b;clear b;go_wp2;go_ret2;exact⟨rfl,rfl⟩
 ·intro k a w h;exact h.elim
theorem ur {o gp gs r t f:Nat}{C i h:Value}{M:GZ}{D:Nat->Prop}{A:Am}{E:List (List Nat)}{s:St}(m:Ej p) (J:Tr B ea w0) (j:tD B w0 o gp C i (.map (some t)) f p) (k:yT B w0 gs r h D A s.vars) (F:CD A E s.q) (G:GY p s)
  (K:B<=w0.heap.size) (u:f<=490000) (H:BQ w0 t .i64 M)
  (n:match Bj p.rules ev with|some _=>∃v,FV M ev=some v/\V5 (λb=>b<B) w0 p.rules f ev v|none=>FV M ev=none):
  Calls prog 27 #[.pointer (some ⟨o,0,none⟩),.pointer (some ⟨gs,0,none⟩),.int .i64 ev,.int .u64 key] w0 (gS B ea w0 gs p (exec p key (CZ p ev) ⟨s,[]⟩)):=by
 cases a:Bj p.rules ev with
 |none=>
  rw[a]at n;have e:exec p key (CZ p ev) ⟨s,[]⟩= .ok ⟨s,[]⟩:=by unfold CZ;rw[a];rfl
  rw[e];refine(oz H n j.prog).mono ?_;rintro e w' ⟨rfl,rfl⟩;exact⟨Ac.refl _ _,_,r,h,D,A,E,rfl,k,F,G,⟨Cl _ _ _ _,λg L=>by cases L⟩,λb N=>by cases N⟩
 |some b=>
  rw[a]at n;obtain⟨v,O,Q,c,d,I,y⟩:=n;rw[a]at d;injection d with d;subst d;have e:CZ p ev=b:=by unfold CZ;rw[a];rfl
  rw[e];have l:0<(OG c b).length:=by unfold OG;simp
  obtain⟨gl,cap,rfl,_⟩:=I.form l;obtain⟨R,z⟩:=oC (key:=key) b c (iw m a) s (List.replicate f 0) (by simpa using y) (Ad (SR m a) (by unfold Dm;omega));have P:=m.rules.each _ (Kk a);exact oA (x:=⟨w0.heap.size+1,o,gp,gs,r,C,i,.map (some t),f,.slice none 0 0,.slice (some ⟨w0.heap.size,0,none⟩) f f,.slice none 0 0,h⟩) (code:=OG c b) (dV P.w) m J I z H O j k F G K u rfl rfl rfl
end
theorem aG {α:Type}{f:α->List Value}(a:∀x,∀u∈f x,u.oneCell'=true) (l:List α):∀u∈l.flatMap f,u.oneCell'=true:=by intro u b;obtain⟨x,_,c⟩:=mz.1 b;exact a x u c
structure Clo (w:World) (A:Am) (wx:World) (gb bm:Nat) (vl vf vq:Value):Prop where
 row:AE wx gb 136 [vl,vf,vq,.map (some bm)]
 l:Sl (λb=>w.heap.size<=b) wx 148 5 vl A.l.length (A.l.flatMap D4)
 f:Sl (λb=>w.heap.size<=b) wx 3 1 vf A.free.length (A.free.map LR)
 q:Sl (λb=>w.heap.size<=b) wx 174 3 vq A.qs.length (A.qs.flatMap EL)
 m:BQ wx bm .u64 []
 g0:w.heap.size<=gb
 m0:w.heap.size<=bm
 kept:Ac (λb=>w.heap.size<=b) w wx
theorem lZ {w W:World}{A:Am}{d bm:Nat}{vl vf vq:Value}(a:d=W.heap.size) (e:BQ W bm .u64 []) (f:Sl (λb=>w.heap.size<=b) W 148 5 vl A.l.length (A.l.flatMap D4))
  (h:Sl (λb=>w.heap.size<=b) W 3 1 vf A.free.length (A.free.map LR)) (i:Sl (λb=>w.heap.size<=b) W 174 3 vq A.qs.length (A.qs.flatMap EL)) (j:w.heap.size<=bm)
  (c:Ac (λb=>w.heap.size<=b) w W):Clo w A (W.alloc (.cells #[vl,vf,vq,.map (some bm)] 136)) d bm vl vf vq:=by
 subst a;exact⟨AE.new W _ _,f.alloc _,h.alloc _,i.alloc _,e.alloc _,c.size,j,c.alloc c.size _⟩
theorem BQ.later {w w':World}{T:Nat->Prop}{b:Nat}{k:IntKind}{M:GZ}(h:BQ w b k M) (a:Ac T w w') (c:∀b,T b->w.heap.size<=b):BQ w' b k M:=h.kept a (λd=>by have:=h.lt;have:=c _ d;omega)
structure Ao4 (w:World) (A:Am) (bm r:Nat) (wr:World) (gb bb:Nat) (vl vf vq:Value) (sk:List Int):Prop where
 qa:JF wr r bm .u64 (F8 A.at_) sk
 nd:sk.Nodup
 sub:∀k∈sk,k∈(F8 A.at_).map (·.1)
 row:AE wr gb 136 [vl,vf,vq,.map (some bb)]
 l:Sl (λb=>w.heap.size<=b) wr 148 5 vl A.l.length (A.l.flatMap D4)
 f:Sl (λb=>w.heap.size<=b) wr 3 1 vf A.free.length (A.free.map LR)
 q:Sl (λb=>w.heap.size<=b) wr 174 3 vq A.qs.length (A.qs.flatMap EL)
 m:BQ wr bb .u64 (F8 (sk.reverse.map λk=>(k,(A.idx k).getD 0)))
 g0:w.heap.size<=gb
 m0:w.heap.size<=bb
 kept:Ac (λb=>w.heap.size<=b) w wr
theorem lR {A:Am}{k:Int}{v:Value}(b:(A.at_.map (·.1)).Nodup) (h:(k,v)∈F8 A.at_):v= .int .i64 (((A.idx k).getD 0:Nat):Int):=by
 unfold F8 at h;obtain⟨x,a,e⟩:=AD.1 h;injection e with e1 d;subst e1 d;have:A.idx x.1=some x.2:=by
  unfold Am.idx;generalize A.at_=l at b a
  induction l with
  |nil=>cases a
  |cons y l f=>
   rw[BR,By]at b;rcases A3.1 a with rfl|a
   ·simp
   ·have c:¬y.1=x.1:=λe=>b.1 (e▸AD.2 ⟨x,a,rfl⟩);rw[Ex (by simpa using c)];exact f b.2 a
 rw[this];rfl
theorem zU9 {A:Am}{k:Int}:(A.idx k).isSome=true↔k∈(F8 A.at_).map (·.1):=by
 unfold Am.idx F8;rw[Option.isSome_map,List.find?_isSome,Iz];constructor
 ·rintro⟨x,a,h⟩;exact AD.2 ⟨x,a,by simpa using h⟩
 ·intro h;obtain⟨x,a,h⟩:=AD.1 h;exact⟨x,a,by simpa using h⟩
theorem ku {l:List Int}(h:l.Nodup):l.reverse.Nodup:=by
 induction l with
 |nil=>exact Xa
 |cons x l f=>
  rw[By]at h;rw[gW,Co];refine⟨f h.2,by simp,λa c b d e=>?_⟩;rw[D8]at d;rw[e,d,my]at c;exact h.1 c
theorem T3 {l:List Int}{f:Int->Nat}{k:Int}(h:k∉l):FV (F8 (l.map λk=>(k,f k))) k=none:=by rw[Qj,NM,Ai h];rfl
theorem fy (l:List Int) (f:Int->Nat) (k:Int):F8 ((l++[k]).map λk=>(k,f k))=F8 (l.map λk=>(k,f k))++[(k,.int .i64 (f k:Nat))]:=by unfold F8;rw[B9,B9];rfl
section
variable {S:Nat->Prop}{w:World}{g bm:Nat}{A:Am}{vl vf vq:Value}
attribute [local go_sem ↓] Go.wp_at_zero Go.wp_at_succ
theorem gu (h:BJ S w g A vl vf vq bm) (l1:A.l.length<=1000000) (l2:A.free.length<=1000000) (l3:A.qs.length<=1000000) (aD:(A.at_.map (·.1)).Nodup):Calls prog 52 #[.pointer (some ⟨g,0,none⟩)] w λe w'=>
  ∃g' r,e= .returned (.pointer (some ⟨g',0,none⟩))/\Ac (λb=>w.heap.size<=b) w w'/\(∃vl vf vq bm,BJ (λb=>w.heap.size<=b) w' g' (A.iT r) vl vf vq bm)/\r.Nodup/\∀k,k∈r↔(A.idx k).isSome=true:=by
 obtain⟨gQ,c0,c1,c2,c3,r1⟩:=zp6 (@mO prog) (h.row.cell 0) (h.row.cell 1) (h.row.cell 2) (h.row.cell 3) h.row.lt;obtain⟨al,cl,rfl⟩:∃a c,vl= .slice a A.l.length c:=h.l.shape;obtain⟨af,cf,rfl⟩:∃a c,vf= .slice a A.free.length c:=h.f.shape;obtain⟨aq,cq,rfl⟩:∃a c,vq= .slice a A.qs.length c:=h.q.shape;obtain⟨i0,cD,cL,cW,cX⟩:=Bg aY;obtain⟨j0,cY,cZ,da,db⟩:=Bg LM;obtain⟨k0,dc,dh,di,dj⟩:=Bg aZ;obtain⟨s1,s2,s3⟩:=zp3 h.l.src h.f.src h.q.src;have o1:∀u∈A.l.flatMap D4,u.oneCell'=true:=aG (λx u T=>by simp[D4]at T;rcases T with rfl|rfl|rfl|rfl|rfl<;>rfl) _;have o2:∀u∈A.free.map LR,u.oneCell'=true:=by intro u T;obtain⟨x,_,rfl⟩:=AD.1 T;rfl
 have o3:∀u∈A.qs.flatMap EL,u.oneCell'=true:=aG (λx u T=>by simp[EL]at T;rcases T with rfl|rfl|rfl<;>rfl) _;obtain⟨b1,b2,b3⟩:=zp3 h.l.iO h.f.iO h.q.iO;obtain⟨HH,S1,S2,S3,O1,O2,O3,B1⟩:=zq8 h s1 s2 s3 o1 o2 o3 b1;obtain⟨B2,B3⟩:=zq2 b2 b3;have m1:A.l.length<=maxLen:=by unfold maxLen;omega
 have m2:A.free.length<=maxLen:=by unfold maxLen;omega
 have m3:A.qs.length<=maxLen:=by unfold maxLen;omega
 have n1:A.l.length*40<=140737488355328:=by omega
 have n2:A.free.length*8<=140737488355328:=by omega
 have n3:A.qs.length*24<=140737488355328:=by omega
 clear h s1 s2 s3 o1 o2 o3 b1 b2 b3;simp at c0 c1 c2 c3;go_enter func52,ntmps52;go_wp2_with fail;go_upto_region 2 with fail;go_cut [3] (λs3 wx=>∃Z bm vl vf vq,s3= .pointer (some ⟨Z,0,none⟩)/\Clo w A wx Z bm vl vf vq)
 case first=>
  as_aux_lemma=>
  go_region_held3 (λw'=>w'.cell? ⟨g,0,none⟩=some (.slice al A.l.length cl)/\w'.cell? ⟨g,1,none⟩=some (.slice af A.free.length cf)/\w'.cell? ⟨g,2,none⟩=some (.slice aq A.qs.length cq)/\Ac (λb=>w.heap.size<=b) w w')
   ((repeat' apply And.intro)<;>(first
    |assumption
    |exact(Ac.cell d (by simp only;omega)).trans c0
    |exact(Ac.cell d (by simp only;omega)).trans c1
    |exact(Ac.cell d (by simp only;omega)).trans c2
    |exact(Ac.cell i (by simp only;omega)).trans c0
    |exact(Ac.cell i (by simp only;omega)).trans c1
    |exact(Ac.cell i (by simp only;omega)).trans c2
    |exact(Ac.cell s (by simp only;omega)).trans c0
    |exact(Ac.cell s (by simp only;omega)).trans c1
    |exact(Ac.cell s (by simp only;omega)).trans c2
    |(with_reducible exact zAr.drew)
    |(refine Ac.drew ?_;assumption)
    |exact zAr.drew.alloc (Ab _) _
    |exact d.alloc z1 _
    |exact i.alloc z2 _
    |exact s.alloc z3 _
    |exact(s.alloc z3 _).alloc (by simp;omega) _
    |go_keep
    ))
   (first
    |(refine Lp (w0:=w) (N:=w.heap.size) ?_ (Ab _) S1.out B1.out underlying132 cD cL cW cX rfl (by decide) O1.out m1 n1 (by rfl) _ _ (by rfl) (by rfl) (by rfl) ?_;(first|exact zAr.drew|exact d|exact i|exact zAr.drew.alloc (Ab _) _|exact d.alloc d.size _|exact i.alloc i.size _|assumption);intro a1 e1 w1 bf bg d;have z1:=d.size;have dt:=Aa bf;have dv:=Aa bg;clear bf bg)
    |(refine Lp (w0:=w) (N:=w.heap.size) ?_ (Ab _) S2.out B2.out Fa cY cZ da db rfl (by decide) O2.out m2 n2 (by rfl) _ _ (by rfl) (by rfl) (by rfl) ?_;(first|exact zAr.drew|exact d|exact i|exact zAr.drew.alloc (Ab _) _|exact d.alloc d.size _|exact i.alloc i.size _|assumption);intro a2 e2 w2 bh bi i;have z2:=i.size;have dy:=Aa bh;have bj:=Aa bi;clear bh bi)
    |(refine Lp (w0:=w) (N:=w.heap.size) ?_ (Ab _) S3.out B3.out underlying133 dc dh di dj rfl (by decide) O3.out m3 n3 (by rfl) _ _ (by rfl) (by rfl) (by rfl) ?_;(first|exact zAr.drew|exact d|exact i|exact zAr.drew.alloc (Ab _) _|exact d.alloc d.size _|exact i.alloc i.size _|assumption);intro a3 e3 w3 bn bo s;have z3:=s.size;have dz:=Aa bn;have U:=Aa bo;clear bn bo))
  all_goals
   go_wp2;go_meet;refine⟨_,_,_,_,_,rfl,lZ (by simp) ?_ ?_ ?_ ?_ ?_ ?_⟩
   ·repeat' first|with_reducible exact BQ.fb _ rfl|with_reducible refine BQ.later ?_ U.out (λb j=>by simpa using j)|with_reducible refine BQ.later ?_ bj.out (λb j=>by simpa using j)|with_reducible refine BQ.later ?_ dv.out (λb j=>by simpa using j)|with_reducible refine BQ.drew ?_|with_reducible refine BQ.alloc ?_ _
   ·repeat' first|exact dt.out.mono (λb j=>(by first|omega|(simp at j;omega)))|with_reducible refine Sl.later ?_ U.out (λb j=>j)|with_reducible refine Sl.later ?_ bj.out (λb j=>j)|with_reducible refine Sl.alloc ?_ _
   ·repeat' first|exact dy.out.mono (λb j=>(by first|omega|(simp at j;omega)))|with_reducible refine Sl.later ?_ U.out (λb j=>j)|with_reducible refine Sl.alloc ?_ _
   ·repeat' first|exact dz.out.mono (λb j=>(by first|omega|(simp at j;omega)))|with_reducible refine Sl.alloc ?_ _
   ·first|exact Ab _|omega
   ·first|exact s|exact s.alloc z3 _
 case rest=>
  obtain⟨Z,D,bp,bq,br,rfl,B⟩:=hcut;have bt:BQ wc bm .u64 (F8 A.at_):=HH.out.m.kept B.kept (by have:=HH.out.m.lt;omega);obtain⟨E,F,M⟩:=bt.range (P:=prog) Ll;have d3:wc.cell? ⟨g,3,none⟩=some (.map (some bm)):=(B.kept.cell (p:=⟨g,3,none⟩) (by simp only;omega)).trans c3;obtain⟨HC,HR,dB⟩:=zq3 B M aD;clear B M aD bt c0 c1 c2 c3;go_wp2_with fail
  go_loopg [] A.at_.length (λkk wr=>∃r,A.at_.length-r.length<=kk/\Ao4 w A bm wc.heap.size wr Z D bp bq br r)
  case atStart=>
   have C:=HC.out;have hk:Ac (λb=>w.heap.size<=b) w (wc.alloc (.mapIter (some bm) E #[] E)):=C.kept.alloc C.kept.size _;exact⟨[],by simp,HR.out,Xa,(λk hk=>absurd hk mw),C.row.alloc _,C.l.alloc _,C.f.alloc _,C.q.alloc _,C.m.alloc _,C.g0,C.m0,hk⟩
  case round=>
   obtain⟨r,iV,o⟩:=hrel;have fP:r.length<=A.at_.length:=by have h1:=ON r _ o.nd o.sub;unfold F8 at h1;simpa using h1
   rcases o.qa.next (P:=prog) 0 with⟨O,F⟩|⟨y,hy,J,w',F,V,G,eF⟩
   ·have Q:=Aa o;have bz:=Aa O;clear o O;go_wp2_with fail;go_ret;have L:=Q.out;refine⟨Z,r.reverse,rfl,L.kept,⟨bp,bq,br,D,L.row,L.l,L.f,L.q,L.m,L.g0,L.m0⟩,ku L.nd,λk=>?_⟩;rw[zU9,my];refine⟨L.sub k,λhk=>?_⟩;obtain⟨x,hx,e⟩:=AD.1 hk;exact e▸bz.out x hx
   ·obtain⟨k,v⟩:=y;simp only at J F V eF;have hv:=lR dB.out hy;subst hv;have W:k∈(F8 A.at_).map (·.1):=AD.2 ⟨_,hy,rfl⟩;have eG:(k::r).length<=A.at_.length:=by have h1:=ON (k::r) _ (By.2 ⟨J,o.nd⟩) (λx hx=>(A3.1 hx).elim (λe=>e▸W) (o.sub x));unfold F8 at h1;simpa using h1
    have eR:Z≠wc.heap.size:=o.qa.bD o.row;have bE:D≠wc.heap.size:=by rintro rfl;obtain⟨es,c,sb,_,_,_,_,_,h6,_⟩:=o.qa;obtain⟨jh,c',h7,_⟩:=o.m;rw[h6]at h7;cases h7
    have eS:D≠bm:=by have:=HH.out.m.lt;have:=HC.out.m0;omega
    have K:∀{e:TypeId} {size n:Nat} {v:Value} {xs:List Value},Sl (λb=>w.heap.size<=b) wr e size v n xs->Sl (λb=>w.heap.size<=b) w' e size v n xs:=λh=>h.kept G (λb j e=>by
     obtain⟨cs,X⟩:=h.row j;exact o.qa.bD X e)
    have z:=o.row.kept G eR;have bF:=o.m.kept G bE;have eT:=z.cell 3;obtain⟨Q,eU,eV,bG,eW,R,bH,eX⟩:=zq8 o V G J W z bF (K o.l);obtain⟨eY,eZ⟩:=zq2 (K o.f) (K o.q);clear o V G J W z bF K hy;simp at eT;go_wp2_with (at_mapUpdate;go_must (refine Ho Ll Jb bH.out rfl _ _ _ rfl rfl k rfl _ rfl ?_;intro w6 H bI;have fa:=Aa H;have I:=Aa bI;clear H bI));have fc:FV (F8 (r.reverse.map λk=>(k,(A.idx k).getD 0))) k=none:=T3 (λh=>bG.out (my.1 h));have H:=fa.out;rw[Vj _ fc]at H;go_roundg (A.at_.length-(r.length+1))
    case measure=>have:(k::r).length=r.length+1:=rfl;omega
    case rel=>
     have cy:∀x t cs,AE w' x t cs->¬x=D:=λx t cs hr e=>bH.out.bD hr e.symm;have Y:∀{e:TypeId} {size n:Nat} {v:Value} {xs:List Value},Sl (λb=>w.heap.size<=b) w' e size v n xs->Sl (λb=>w.heap.size<=b) w6 e size v n xs:=λh=>h.kept I.out (λb j e=>by
      obtain⟨cs,X⟩:=h.row j;exact cy _ _ _ X e)
     refine⟨k::r,by simp,eU.out.hU (I.out.block _ (λe=>bE e.symm)) (I.out.block _ (λe=>eS e.symm)),By.2 ⟨bG.out,Q.out.nd⟩,λx hx=>(A3.1 hx).elim (λe=>e▸eW.out) (Q.out.sub x),
      R.out.kept I.out (cy _ _ _ R.out),Y eX.out,Y eY.out,Y eZ.out,?_,Q.out.g0,Q.out.m0,?_⟩
     ·rw[gW,fy];exact H
     ·exact(Q.out.kept.trans (eV.out.mono (λb j=>by rw[j];exact HC.out.kept.size))).trans (I.out.mono (λb j=>by rw[j];exact Q.out.m0))
end
section
variable {S SA:Nat->Prop}{w:World}{gs ga:Nat}{A:Am}{mQ:Value}{vars:List Int}{ns:List (List Nat)}{qs:List (List Gm)}
attribute [local go_sem ↓] Go.wp_at_zero Go.wp_at_succ
def Ao3 (w:World) (vars:List Int) (ns:List (List Nat)) (qs:List (List Gm)) (e:Ending) (w':World):Prop:=
 ∃a d c f g,e= .returned (.pointer (some ⟨a,0,none⟩))/\Ac (λb=>w.heap.size<=b) w w'/\yT w.heap.size w' a d c f g vars/\CD g ns qs
theorem UY (h:∃t v y z,BJ SA w ga A t v y z) (l:AE w gs 71 [.pointer (some ⟨ga,0,none⟩),mQ]) (B:Sl S w 3 1 mQ vars.length (vars.map Jv)) (n:CD A ns qs) (X:vars.length<=1000):
  Calls prog 26 #[.pointer (some ⟨gs,0,none⟩)] w (Ao3 w vars ns qs):=by
 obtain⟨t,v,y,z,h⟩:=h;obtain⟨E,F,r1,k⟩:=zp4 (l.cell 0) (l.cell 1) l.lt n.ok;obtain⟨Y,Z,rfl⟩:∃a c,mQ= .slice a vars.length c:=B.shape;obtain⟨j0,G,H,I,J⟩:=Bg LM;have Q:=B.src;have o2:∀u∈vars.map Jv,u.oneCell'=true:=by intro u hu;obtain⟨x,_,rfl⟩:=AD.1 hu;rfl
 have R:=B.iO;have g:∀W,Ac (λb=>w.heap.size<=b) w W->Calls prog 52 #[.pointer (some ⟨ga,0,none⟩)] W λe w'=>
   ∃m C,e= .returned (.pointer (some ⟨m,0,none⟩))/\Ac (λb=>W.heap.size<=b) W w'/\(∃t v y z,BJ (λb=>W.heap.size<=b) w' m C t v y z)/\CD C ns qs:=λW hk=>by
  have hW:=(h.shrink).kept hk (λb d=>by have:=d.2;omega);refine(gu hW k.l2 k.mT (by have:=n.q8;omega) n.qR).mono ?_;rintro e w' ⟨m,sk,K,T,h3,h4,h5⟩;exact⟨m,A.iT sk,K,T,h3,n.iT h5 h4⟩
 obtain⟨HC,S2,O2,B2⟩:=zq4 g Q o2 R;have m2:vars.length<=maxLen:=by unfold maxLen;omega
 have n2:vars.length*8<=140737488355328:=by omega
 clear h l B n k Q o2 R g;simp at E F;go_enter func26,ntmps26;go_wp2_with fail
 go_region_held3 (λw'=>w'.cell? ⟨gs,0,none⟩=some (.pointer (some ⟨ga,0,none⟩))/\w'.cell? ⟨gs,1,none⟩=some (.slice Y vars.length Z)/\Ac (λb=>w.heap.size<=b) w w')
  ((repeat' apply And.intro)<;>(first
   |assumption
   |exact(Ac.cell i (by simp only;omega)).trans E
   |exact(Ac.cell i (by simp only;omega)).trans F
   |exact(Ac.cell f (by simp only;omega)).trans E
   |exact(Ac.cell f (by simp only;omega)).trans F
   |(with_reducible exact zAr.drew)
   |exact i.alloc U _
   |exact f.alloc D _
   |go_keep
   ))
  (first
   |(refine Lp (w0:=w) (N:=w.heap.size) ?_ (Ab _) S2.out B2.out Fa G H I J rfl (by decide) O2.out m2 n2 (by rfl) _ _ (by rfl) (by rfl) (by rfl) ?_;(first|exact zAr.drew|exact i);intro a2 e2 w2 o p f;have D:=f.size;have q:=Aa o;have L:=Aa p;clear o p)
   |(go_at_call 52;refine(HC.out _ ?_).mono ?_;(first|exact zAr.drew|exact f);rintro e w1 ⟨m,C,rfl,j,r,s⟩;have i:Ac (λb=>w.heap.size<=b) w w1:=(by first|exact(zAr.drew).trans (j.mono (λb d=>d))|exact f.trans (j.mono (λb d=>Ad D d)));have U:=i.size;have M:=Aa j;have O:=Aa r;have P:=Aa s;clear j r s))
 all_goals
  go_wp2;go_ret
 ·obtain⟨xl,xf,xq,xm,ha⟩:=O.out;have V:=L.out;have k1:=M.out.size;have k2:=V.size;refine⟨_,m,.slice a2 vars.length e2,(λb=>w.heap.size<=b/\b<w1.heap.size),C,rfl,f.alloc D _,⟨AE.new w2 _ _,(q.out.mono (λb d=>Ad U d)).alloc _,⟨xl,xf,xq,xm,?_⟩,D,λb d=>⟨d.1,?_⟩,λd=>?_,λb d l=>?_⟩,P.out⟩
  ·exact((ha.shrink.kept V (λb d=>by have:=d.2;omega)).alloc _).mono (λb d=>d)
  ·have:=d.2;simp;omega
  ·have:=d.2;omega
  ·have K:=q.out.2 b d;have T:=l.2;simp only at K;omega
end
end Go.Proofs.YtepoejiigmhlbaaGreatDoor.Ev
namespace Go.Proofs.YtepoejiigmhlbaaGreatDoor.Ev
open _root_.Go.Proofs.Tryz
def FE (r:Except Nat DN):Prop:=
 match r with
 | .error k=>k=TW\/k=LU
 | .ok _=>True
theorem VY (l:List Bi) (c:Gm) (a b:Int) (t:Bool) (r:DN):FE (JA l c a b t r):=by
 unfold JA;split
 ·exact .inl rfl
 ·exact trivial
theorem uC (p:Ax) (key:Int) (x:D0) (r:DN):FE (bG p key x r):=by
 cases x with
 |put q t=>
  unfold bG;simp only;split
  ·exact VY _ _ _ _ _ _
  ·exact VY _ _ _ _ _ _
 |bx q=>
  unfold bG;simp only;split
  ·exact .inr rfl
  ·exact trivial
 |dz q=>
  unfold bG;simp only;split
  ·exact .inr rfl
  ·exact trivial
 |shift q b t=>
  unfold bG;simp only;split
  ·exact .inr rfl
  ·exact VY _ _ _ _ _ _
 |inc v=>exact trivial
 |dec v=>exact trivial
 |drop=>
  unfold bG;simp only;split<;>exact trivial
 |bump=>
  unfold bG;simp only;split<;>exact trivial
theorem iF {c:St->Bool}{f:DN->Except Nat DN}(a:∀r,FE (f r)):∀(n:Nat) (r:DN),FE (Gr c f n r)
 |0,r=>trivial
 |n+1,r=>by
  unfold Gr;split
  ·cases h:f r with
   |ok r'=>exact iF a n r'
   |error k=>have:=a r;rw[h]at this;exact this
  ·exact trivial
theorem NP (p:Ax) (key:Int):∀(b:Az) (r:DN),FE (exec p key b r)
 | .nil,r=>trivial
 | .bG x b,r=>by
  unfold exec;cases h:bG p key x r with
  |ok r'=>exact NP p key b r'
  |error k=>have:=uC p key x r;rw[h]at this;exact this
 | .ite c t o e b,r=>by
  unfold exec;have a:FE (if BD p.decls key r.s c then exec p key t r else if o then exec p key e r else .ok r):=by
   split
   ·exact NP p key t r
   ·split
    ·exact NP p key e r
    ·exact trivial
  cases h:(if BD p.decls key r.s c then exec p key t r else if o then exec p key e r else .ok r)with
  |ok r'=>exact NP p key b r'
  |error k=>rw[h]at a;exact a
 | .rep n c x b,r=>by
  unfold exec;have a:=iF (c:=λs=>BD p.decls key s c) (f:=exec p key x) (λr=>NP p key x r) n.toNat r;cases h:Gr (λs=>BD p.decls key s c) (exec p key x) n.toNat r with
  |ok r'=>exact NP p key b r'
  |error k=>rw[h]at a;exact a
theorem RU {p:Ax}{key:Int}{b:Az}{r:DN}{k:Nat}(h:exec p key b r= .error k):1<=k/\k<=12:=by have:=NP p key b r;rw[h]at this;rcases this with rfl|rfl<;>exact⟨by decide,by decide⟩
theorem Ns {p:Ax}{s:St}(a:GY p s) (key:Int):Ek s key= -1\/Ix p.decls.length (Ek s key):=by
 unfold Ek;cases b:s.find key with
 |none=>exact .inl rfl
 |some x=>
  obtain⟨k,i⟩:=x;obtain⟨l,h,_⟩:=VP b;have:=(Aj.1 h).1;rw[a.q]at this;exact .inr ⟨by simp,by simp;exact this⟩
def place (l:List Int) (key:Int):Option Nat:=l.findIdx? (λk=>k==key)
def z (l:List Int):List Gm:=l.map λk=>⟨k,0⟩
theorem mo (e:EX) (key:Int) (r:DN) (h:exec e.p key (CZ e.p (Ek e.s key)) ⟨e.s,[]⟩= .ok r):
  e.access key= .ok (AW e.p.decls (Ek e.s key)) r.gone ⟨e.p,r.s,P9 e.n (AW e.p.decls (Ek e.s key)) r.gone.length⟩:=by
 unfold EX.access;simp only[h];rfl
end Go.Proofs.YtepoejiigmhlbaaGreatDoor.Ev
namespace Go.Proofs.YtepoejiigmhlbaaGreatDoor.Ev
open _root_.Go.Proofs.Tryz
open Go Go.RowKit
theorem UF.qo {B:Nat}{ea:Nat->Addr}{w:World}(h:UF B ea w) {a:Nat}(b:B<=a):Tr a ea w:=
 ⟨h.err 11 (by omega) (by omega),h.err 12 (by omega) (by omega),An (h.lt 11 (by omega) (by omega)) b,An (h.lt 12 (by omega) (by omega)) b⟩
def gT (S:Nat->Prop) (w:World) (ge:Nat) (r:Ans) (p:Ax) (a:EX) (e:Ending) (w':World):Prop:=
 Ac (λb=>b=ge\/w.heap.size<=b) w w'/\match r with
  | .err k=>e= .returned (.tuple #[.bool false,.slice none 0 0,.int .i64 k])/\GR S w' ge a
  | .ok hit gone e1=>∃v,e= .returned (.tuple #[.bool hit,v,.int .i64 0])/\Sl (λb=>w.heap.size<=b) w' 32 1 v gone.length (gone.map Kp)/\
    GR (λb=>(S b\/w.heap.size<=b)/\v.ownBlock≠some b) w' ge e1
def PV (c:J9) (m:Nat):Prop:=0<=c.ft/\c.ft<=m/\0<=c.dA/\c.dA<=m/\0<=c.cD/\c.cD<=1750000*(m:Int)
theorem PV.up {c:J9}{m:Nat}(h:PV c m) (hit:Bool) {n:Nat}(i:n<=1750000):PV (P9 c hit n) (m+1):=by obtain⟨a,b,j,d,f,g⟩:=h;unfold PV P9;cases hit<;>simp<;>omega
theorem Tc {p:Ax}(a:Ej p) {key k:Int}{s:St}{r:DN}(h:exec p key (CZ p k) ⟨s,[]⟩= .ok r):r.gone.length<=1750000:=by
 have c:=EA (CZ p k) _ _ h;have f:(CZ p k).bq<=1750000:=by
  unfold CZ;cases d:Bj p.rules k with
  |none=>exact AQ _
  |some b=>exact SR a d
 simp at c;omega
section
variable {B:Nat}{ea:Nat->Addr}{S:Nat->Prop}{w:World}{ge:Nat}{e:EX}
theorem Y9 {P gs ga gp Q T i z G:Nat}{U V o r:Value}{W C:Nat->Prop}{A X:Am}{ns H:List (List Nat)}{D w':World}{e1:EX}{l:List Int}
  (h:Abb S w ge e P gs ga gp Q T i U V W A ns) (Y:Ac (λb=>w.heap.size<=b) w D) (f:yT w.heap.size D z G o C X e1.s.vars) (hA:CD X H e1.s.q) (hS:GY e.p e1.s)
  (hv:Sl (λb=>w.heap.size<=b) D 32 1 r l.length (l.map Kp)) (u:∀b,r.ownBlock=some b->¬C b/\b≠z/\o.ownBlock≠some b) (R:e1.p=e.p)
  (I:∀(j:Nat) x,Np e1.s j x->(Aq e.p.decls (j:Int)).kind≠2) (g:Ac (λb=>b=ge) D w')
  (J:AE w' ge 73 [.pointer (some ⟨P,0,none⟩),.pointer (some ⟨z,0,none⟩),.int .i64 e1.n.ft,.int .i64 e1.n.dA,.int .i64 e1.n.cD]):
  Ac (λb=>b=ge\/w.heap.size<=b) w w'/\Sl (λb=>w.heap.size<=b) w' 32 1 r l.length (l.map Kp)/\GR (λb=>(S b\/w.heap.size<=b)/\r.ownBlock≠some b) w' ge e1:=by
 have br:=h.row.lt;have K:∀b,r.ownBlock=some b->w.heap.size<=b:=λb d=>hv.2 b d;have y:AE D ge 73 _:=h.row.kept Y (by omega);have m:=(h.prog.mono (S':=λb=>(S b/\¬W b)/\b<w.heap.size) (λb d F=>⟨F,d⟩)).kept Y (λb d _=>by have:=d.2;omega);have bi:¬(S ge/\False):=λh=>h.2;obtain⟨vl,vf,vq,Z,ha⟩:=f.ar;have n1:∀{t:TypeId} {size n:Nat} {v:Value} {xs:List Value} {N:Nat->Prop},Sl N D t size v n xs->t≠73->Sl N w' t size v n xs:=λF ht=>F.kept g (λb d e=>F.bD y ht (e▸d));refine⟨(Y.mono (λb d=>.inr d)).trans (g.mono (λb d=>.inl d)),n1 hv (by decide),P,z,G,gp,Q,T,i,U,o,C,X,H,J,?_,f.bg.kept g (f.bg.bt y (by decide)),?_,⟨vl,vf,vq,Z,ha.kept g (λb d e=>by have:=(f.sa b d).1;omega)⟩,hA,by rw[R];exact hS,by rw[R];exact h.pw,by rw[R];exact I,λb d=>?_,⟨⟨.inl h.se.1,λd=>by have:=K _ d;omega⟩,λd=>by have:=(f.sa _ d).1;omega⟩,⟨⟨.inr f.mZ,λd=>(u _ d).2.1 rfl⟩,f.ss⟩⟩
 ·rw[R];have be:JG (λb=>(S b/\¬W b)/\b<w.heap.size) w' P e.p gp Q T i U:=by
   have E:∀{t:TypeId} {cs:List Value} {b:Nat},AE D b t cs->t≠73->¬b=ge:=λhr ht e=>hr.bt y ht e;obtain⟨M,m1,m2⟩:=m.code.map;obtain⟨Mr,r1,r2,r3⟩:=m.rules;refine⟨⟨m.code.row.kept g (E m.code.row (by decide)),⟨M,m1.kept g (λe=>m1.bD y e),λk=>?_⟩,m.code.lo,m.code.sg,m.code.sm⟩,m.ba.kept g (E m.ba (by decide)),n1 m.decls (by decide),m.rules.kept (g.block Q (λe=>r1.bD y e)) (λk cs hN hr=>g.block k (E hr (by decide))),m.sp,m.sb⟩;have:=m2 k;cases L:Bj e.p.rules k with
   |none=>rw[L]at this;exact this
   |some b=>
    rw[L]at this;obtain⟨v,a,b',c,d1,d2,d3⟩:=this;exact⟨v,a,b',c,d1,n1 d2 (by decide),d3⟩
  exact be.mono (λb _ d=>⟨⟨.inl d.1.1,λO=>by have:=K _ O;have:=d.2;omega⟩,λF=>by have:=(f.sa b F).1;have:=d.2;omega⟩)
 ·exact⟨(n1 f.vars (by decide)).1,λb d=>⟨⟨.inr (f.vars.2 b d),λO=>(u b O).2.2 d⟩,f.s4 b d⟩⟩
 ·exact⟨.inr (f.sa b d).1,λO=>(u b O).1 d⟩
end
def LS (w:World) (v:Value) (l:List Int):Prop:=
 (v= .slice none 0 0/\l=[])\/∃g a c,v= .slice (some ⟨g,a,none⟩) l.length c/\l.length<=c/\c<=maxLen/\g<w.heap.size/\∀(i:Nat) x,l[i]?=some x->w.cell? ⟨g,a+i,none⟩=some (Kp x)
section
variable {w w':World}{v:Value}{l:List Int}
theorem Sl.ls {S:Nat->Prop}(h:Sl S w 32 1 v l.length (l.map Kp)):LS w v l:=by
 rcases h.1.2 with⟨d,e⟩|⟨g,a,f,rfl,_,m,j,b,_⟩
 ·exact .inl ⟨by rw[d],LC.1 e⟩
 ·refine .inr ⟨g,0,a,rfl,j,b,h.lt rfl,λi x c=>?_⟩;have k:i<l.length:=(Aj.1 c).1;have:=h.1.cellAt i (by simpa using k);rw[DH];refine this.trans ?_;rw[At,c];rfl
theorem LS.shape (h:LS w v l):∃a c,v= .slice a l.length c:=by
 rcases h with⟨rfl,rfl⟩|⟨g,b,c,rfl,_⟩
 ·exact⟨none,0,rfl⟩
 ·exact⟨_,_,rfl⟩
theorem LS.at_ {a:Option Addr}{c:Nat}(h:LS w (.slice a l.length c) l) {k:Nat}{x:Int}(d:l[k]?=some x):∃g b,a=some ⟨g,b,none⟩/\w.cell? ⟨g,b+k,none⟩=some (.int .u64 x)/\l.length<=c/\c<=maxLen:=by
 rcases h with⟨_,rfl⟩|⟨g,b,n,e,f,i,o,j⟩
 ·simp at d
 ·injection e with e1 p m;subst e1 m;exact⟨g,b,rfl,j k x d,f,i⟩
end
def XC (c n:Int):Int:=if c<0 then(-(c+1)).tmod n else c.tmod n
section
variable {w:World}
theorem XB (c:Int) {n:Nat}(a:0<n):∃k:Nat,XC c n=(k:Int)/\k<n:=by
 unfold XC;split
 ·rename_i h;rw[FX (by omega)];exact⟨((-(c+1))%(n:Int)).toNat,by rw[Int.toNat_of_nonneg (UA _ (by omega))],by have:=Int.emod_lt_of_pos (-(c+1)) (b:=(n:Int)) (by omega);have:=UA (-(c+1)) (b:=(n:Int)) (by omega);omega⟩
 ·rename_i h;rw[FX (by omega)];exact⟨(c%(n:Int)).toNat,by rw[Int.toNat_of_nonneg (UA _ (by omega))],by have:=Int.emod_lt_of_pos c (b:=(n:Int)) (by omega);have:=UA c (b:=(n:Int)) (by omega);omega⟩
theorem XI (c:Int) (n:Nat) (d: -9223372036854775808<=c) (f:c<=9223372036854775807) (g:0<n) (b:n<=1000000000):Calls prog 57 #[.int .i64 c,.int .i64 n] w λe w'=>e= .returned (.int .i64 (XC c n))/\w'=w:=by
 have h:((n:Int)==0)=false:=by simp;omega
 have e1:decide ((n:Int)=0)=false:=by simp;omega
 unfold XC;by_cases a:c<0
 ·rw[Al a];go_enter func57,ntmps57;go_wp2;go_ret;exact⟨by rw[Int.neg_tmod];rfl,rfl⟩
 ·rw[Ai a,FX (by omega)];go_enter func57,ntmps57;go_wp2;go_ret;exact⟨rfl,rfl⟩
theorem iI (w:World) (a b:Nat):(w.drewN a).drewN b=w.drewN (a+b):=by simp[World.drewN,EU]
def Ah7 (w:World) (b:Bool) (e:Ending) (w':World):Prop:=e= .returned (.bool b)/\∃n,w'=w.drewN n
theorem Pr {u v:Value}{a b:List Int}(s:LS w u a) (t:LS w v b) (W:a.length<=1000000000) (L:b.length<=1000000000):Calls prog 60 #[u,v] w (Ah7 w (a==b)):=by
 obtain⟨X,Y,rfl⟩:=s.shape;obtain⟨Z,cb,rfl⟩:=t.shape;obtain⟨M,N⟩:=zq2 s t;clear s t;by_cases d:a.length=b.length
 ·have q:=Aa d;rw[←d];clear d;go_enter func60,ntmps60;go_wp2
  go_loopg [13,5] a.length (λO z _ wr=>∃k:Nat,k<=a.length/\a.length-k<=O/\z= .int .i64 k/\(∃n,wr=w.drewN n)/\∀(j:Nat) x y,j<k->a[j]?=some x->b[j]?=some y->x=y)
  case atStart=>exact⟨0,AQ _,by omega,rfl,⟨0,rfl⟩,λj x y I=>absurd I (Uy _)⟩
  case round=>
   obtain⟨k,hk,hg,rfl,⟨n,rfl⟩,f⟩:=hrel;have g:=Aa f;clear f;by_cases A:k<a.length
   ·obtain⟨x,B⟩:∃x,a[k]?=some x:=⟨_,Ae A⟩;obtain⟨y,C⟩:∃y,b[k]?=some y:=⟨_,Ae (by have:=q.out;omega)⟩;obtain⟨ga,oa,rfl,P,h1,Q⟩:=M.out.at_ B;obtain⟨gb,ob,rfl,R,S,T⟩:=N.out.at_ C;unfold maxLen at Q T;rw[←q.out]at S;obtain⟨D,J⟩:=zq2 B C;clear B C;by_cases e:x=y
    ·have e1:(x==y)=true:=by simpa using e
     have K:decide (x=y)=true:=by simpa using e
     have E:=Aa e;clear e;go_wp2;go_quiet (fail);go_wp2;go_roundg (a.length-(k+1))
     case measure=>omega
     case rel=>
      refine⟨k+1,by omega,by omega,by go_num,⟨n+nq,by first|rfl|exact iI w n nq⟩,λj x' U I h m=>?_⟩;by_cases V:j=k
      ·subst V;rw[D.out]at h;rw[J.out]at m;injection h with h;injection m with m;rw[←h,←m];exact E.out
      ·exact g.out j x' U (by omega) h m
    ·have e1:(x==y)=false:=by simpa using e
     have K:decide (x=y)=false:=by simpa using e
     have o:(a==b)=false:=by rw[BH];intro c;rw[c]at D;have:=D.out.symm.trans J.out;injection this with this;exact e this
     obtain⟨E,F⟩:=zq2 e o;clear e o;go_wp2;go_quiet (fail);go_wp2;go_ret;exact⟨by first|rfl|(rw[F.out];rfl),n+nq,by first|rfl|exact iI w n nq⟩
   ·have G:k=a.length:=by omega
    have c:(a==b)=true:=by
     rw[PL];refine Fe λi=>?_;rcases Be i a.length with r|r
     ·have p:i<b.length:=by have:=q.out;omega
      rw[Ae r,Ae p];exact AG some (g.out i _ _ (by omega) (Ae r) (Ae p))
     ·rw[Bl r,Bl (by have:=q.out;omega)]
    have H:=Aa c;clear c;subst G;go_wp2;go_ret;exact⟨by rw[H.out];rfl,_,rfl⟩
 ·have c:(a==b)=false:=by rw[BH];intro e;exact d (by rw[e])
  have e1:((a.length:Int)==(b.length:Int))=false:=by simp;omega
  have K:decide ((a.length:Int)=(b.length:Int))=false:=by simp;omega
  rw[c];clear c;go_enter func60,ntmps60;go_wp2;go_ret;exact⟨rfl,0,rfl⟩
def Je (k:Int):Int:=if k=1 then 1 else if k=2 then 2 else if k=3\/k=4 then 3 else 4
theorem eM (k:Int):k=1\/k=2\/k=3\/k=4\/(¬k=1/\¬k=2/\¬k=3/\¬k=4):=by omega
theorem Xp (k:Int):Calls prog 29 #[.int .i64 k] w λe w'=>e= .returned (.int .i64 (Je k))/\w'=w:=by
 rcases eM k with rfl|rfl|rfl|rfl|⟨a,b,c,d⟩
 ·go_enter W6,Ud;go_wp2;go_ret;exact⟨rfl,rfl⟩
 ·go_enter W6,Ud;go_wp2;go_ret;exact⟨rfl,rfl⟩
 ·go_enter W6,Ud;go_wp2;go_ret;exact⟨rfl,rfl⟩
 ·go_enter W6,Ud;go_wp2;go_ret;exact⟨rfl,rfl⟩
 ·have f:Je k=4:=by unfold Je;rw[Ai a,Ai b,Ai (by omega)]
  have g:(k==1)=false:=by simpa using a
  have h:(k==2)=false:=by simpa using b
  have i:(k==3)=false:=by simpa using c
  have j:(k==4)=false:=by simpa using d
  have m:decide (k=1)=false:=by simpa using a
  have n:decide (k=2)=false:=by simpa using b
  have o:decide (k=3)=false:=by simpa using c
  have p:decide (k=4)=false:=by simpa using d
  rw[f];clear f;go_enter W6,Ud;go_wp2;go_ret;exact⟨rfl,rfl⟩
end
end Go.Proofs.YtepoejiigmhlbaaGreatDoor.Ev
