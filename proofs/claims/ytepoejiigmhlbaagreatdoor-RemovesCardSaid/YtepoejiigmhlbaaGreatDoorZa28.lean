/- Lemmas for a law's walk. Conditions: none. -/
import Derived.Test.YtepoejiigmhlbaaGreatDoorZa25
import Derived.Test.YtepoejiigmhlbaaGreatDoorZa27
set_option linter.all false
set_option maxRecDepth 100000
set_option maxHeartbeats 8000000
namespace Go.Proofs.YtepoejiigmhlbaaGreatDoor.Ev
open _root_.Go.Proofs.Tryz
open Go Go.RowKit
def Agw (w:World) (o:Option (List Int)) (y:Ending) (w':World):Prop:=Ac (λb=>w.heap.size<=b) w w'/\match o with
 |none=>y= .returned (.tuple #[.slice none 0 0,.bool false])
 |some l=>∃v,y= .returned (.tuple #[v,.bool true])/\Sl (λb=>w.heap.size<=b) w' 32 1 v l.length (l.map Kp)
section
variable {S:Nat->Prop}{w:World}{gs:Nat}{e:EX}
theorem j4 (h:MR S w gs e) (L:Ej e.p) (z:GI e.p e.s) (nm:Ah):Calls prog 63 #[.pointer (some ⟨gs,0,none⟩),vs nm] w (Agw w (e.keys nm)):=by
 obtain⟨D,gp,vq,vv,vl,f,g⟩:=h;have c0:=f.row.cell 0;have c1:=f.row.cell 1;have rl:=f.row.lt;simp at c0 c1;obtain⟨i0,bn,bo,bp,bq⟩:=Bg aX;obtain⟨vd,vr,vh,vm,hs,rs,J,p2,_⟩:=id g;have c:=Po nm gp e.p.decls vd w p2 (by have:=L.decls.len;omega) J.lt (J.cell 0);have gl:=J.lt;have a:e.keys nm=(if find e.p.decls nm<0\/(Aq e.p.decls (find e.p.decls nm)).kind=2 then none else some ((e.s.queue (find e.p.decls nm)).map (·.key))):=rfl;generalize e.keys nm=o at*;rcases iZ e.p.decls nm with A|⟨k,A,B⟩
 ·rw[A]at a c;rw[Al (.inl (by omega))]at a;obtain⟨HF,M⟩:=zq2 c a;clear f g J p2 L z A a c;go_enter func63,ntmps63;go_wp2_with fail;refine HF.out.mono ?_;rintro y w1 ⟨rfl,d⟩;have F:=Aa d;clear d;go_wp2;go_ret2;rw[M.out];exact⟨Ac.cY F.out (λk B=>B),rfl⟩
 ·rw[A]at a c;obtain⟨gd,cd,f0,f1,f2,f3,f4,f5,f6,f7⟩:=g.decl B;have bu:k<e.s.q.length:=by rw[z.1.q];exact B
  obtain⟨v,l,hv,N,m⟩:=f.q.at_ bu;have C:=f.q.inner k v l hv N;obtain⟨al,cl,rfl⟩:=C.bz;obtain⟨gq,cq,rfl,_,q1,q2,q3⟩:=f.q.outer.form (by omega);have O:w.cell? ⟨gq,k,none⟩=some (.slice al l.length cl):=m;have eR:=z.wi.len l (Aw N);have G:e.s.queue (k:Int)=l:=by unfold St.queue;rw[As,N];rfl
  rw[G]at a;have eS:(Aq e.p.decls (k:Int)).kind<=2:=by
   have bC:Aq e.p.decls (k:Int)∈e.p.decls:=by unfold Aq;rw[As,Ae B];exact Ed B
   exact(L.decls.each _ bC).kind
  have HF:=Aa c;unfold maxLen at f2 q2;generalize (Aq e.p.decls (k:Int)).kind=kd at*;generalize e.s.q.length=P at*;generalize e.p.decls.length=dl at*;have n:∀w1,Below w.heap.size w w1->w1.cell? ⟨gs,0,none⟩=some (.pointer (some ⟨gp,0,none⟩))/\w1.cell? ⟨gs,1,none⟩=some (.slice (some ⟨gq,0,none⟩) P cq)/\w1.cell? ⟨gp,0,none⟩=some (.slice (some ⟨gd,0,none⟩) dl cd)/\w1.cell? ⟨gd,k*3,none⟩=some (vs (B5 kd))/\w1.cell? ⟨gq,k,none⟩=some (.slice al l.length cl):=λw1 n=>
   ⟨(n.cell (p:=⟨gs,0,none⟩) rl).trans c0,(n.cell (p:=⟨gs,1,none⟩) rl).trans c1,(n.cell (p:=⟨gp,0,none⟩) gl).trans f0,(n.cell (p:=⟨gd,k*3,none⟩) f3).trans f5,(n.cell (p:=⟨gq,k,none⟩) q3).trans O⟩
  have HB:=Aa n;by_cases Q:kd=2
  ·subst Q;rw[Al (.inr rfl)]at a;have M:=Aa a;clear f g J p2 L z A a c f5 f6 f7 n C N hv m O G;go_enter func63,ntmps63;go_wp2_with fail;refine HF.out.mono ?_;rintro y w1 ⟨rfl,d⟩;obtain⟨c0,c1,O,K,d2⟩:=HB.out w1 d;have F:=Aa d;clear d;unfold B5 at K;rw[Al rfl]at K;unfold vs at K;go_wp2;go_ret2;rw[M.out];exact⟨Ac.cY F.out (λk B=>B),rfl⟩
  ·rw[Ai (by rintro(h|h);omega;exact Q h)]at a;have M:=Aa a;have hw:B5 kd=Ge\/B5 kd=EK:=by unfold B5;rw[Ai Q];split;exact .inl rfl;exact .inr rfl
   have H:=Aa C;clear f g J p2 L z A a c f5 f6 f7 n C N hv m O G;rcases hw with hw|hw
   all_goals
    go_enter func63,ntmps63;go_wp2_with fail;refine HF.out.mono ?_;rintro y w1 ⟨rfl,d⟩;obtain⟨c0,c1,O,K,d2⟩:=HB.out w1 d;have KB:=Aa (Ac.cY (S:=λb=>w.heap.size<=b) d (λk B=>B));clear d;rw[hw]at K;unfold vs at K;go_wp2
    go_loopg [40,7] l.length (λgg bD s7 wr=>∃i:Nat,i<=l.length/\l.length-i<=gg/\bD= .int .i64 i/\Ac (λb=>w.heap.size<=b) w wr/\Sl (λb=>w.heap.size<=b) wr 32 1 s7 i ((l.take i).map λx=>Kp x.key))
    case atStart=>exact⟨0,AQ _,by omega,rfl,KB.out,Sl.hQ _ _ _ _⟩
    case round=>
     obtain⟨i,hi,hg,rfl,r,t⟩:=hrel;by_cases bE:i<l.length
     ·obtain⟨x,A⟩:∃x,l[i]?=some x:=⟨_,Ae bE⟩;obtain⟨R,eY,el,_,q4,q5,q6⟩:=H.out.form (by omega);injection el with bF fc bG;subst bF bG;have z0:=H.out.at_ (λ_=>rfl) A (j:=0) (by omega);have z1:=H.out.at_ (λ_=>rfl) A (j:=1) (by omega);have z0:=(r.cell (p:=⟨R,i*2+0,none⟩) (by simp only;omega)).trans z0;have z1:=(r.cell (p:=⟨R,i*2+1,none⟩) (by simp only;omega)).trans z1;have fd:=An q6 r.size;simp[Cd]at z0 z1;unfold maxLen at q5;obtain⟨a7,c7,rfl⟩:=t.bz;have T:(l.take (i+1)).map (λx=>Kp x.key)=(l.take i).map (λx=>Kp x.key)++[.int .u64 x.key]:=by rw[gV,A,B9];rfl
      have m0:i+1<=maxLen:=by unfold maxLen;omega
      have m1:(i+1)*8<=140737488355328:=by omega
      obtain⟨cy,I,E⟩:=zq3 T r t;clear T r t A;have kA:Ac (λb=>wr.heap.size<=b) wr ((wr.alloc (.cells #[.int .u64 x.key,.int .i64 x.aD] 234)).alloc (.cells #[.int .u64 x.key] 32)):=((Ac.refl _ wr).alloc (Ab _) _).alloc (by simp) _;have U:=E.out.later kA (λb n=>n);have V:=Ad I.out.size kA.size;have qc:=C7 (wr.alloc (.cells #[.int .u64 x.key,.int .i64 x.aD] 234)) [.int .u64 x.key] 32;simp only[Ib]at qc;obtain⟨cD,cL,W,QC⟩:=zq4 kA U V qc;clear kA U V qc;go_wp2_with (at_builtin;go_must (refine Dy Ew bn bo bp bq rfl (by decide) cL.out W.out rfl _ _ rfl rfl ⟨wr.heap.size+1,0,none⟩ 1 1 [.int .u64 x.key] rfl rfl QC.out (by intro u hu;simp at hu;subst hu;rfl) m0 m1 (Cg _) ?_;intro g2 dr w3 X Y Z;have cW:=Aa X;have cX:=Aa Y;clear X Y Z));go_roundg (l.length-(i+1))
      case measure=>omega
      case rel=>
       refine⟨i+1,by omega,by omega,by go_num,(I.out.trans (cD.out.mono (λb n=>Ad I.out.size n))).trans (cX.out.mono (λb n=>n.elim (λe=>E.out.2 b e) (λQ=>Ad W.out Q))),?_⟩;rw[cy.out];exact cW.out
     ·have cZ:i=l.length:=by omega
      subst cZ;rw[J7]at t;obtain⟨HK,E⟩:=zq2 r t;obtain⟨a7,c7,rfl⟩:=t.bz;clear r t;go_wp2;go_ret2;rw[M.out];refine⟨HK.out,_,rfl,?_⟩;rw[Fo,Iz];exact E.out
end
theorem Ol.later {w w':World}(h:Ol w) (a:Ac (λb=>w.heap.size<=b) w w'):Ol w':=h.kept a (λb c=>by have:=h.lt;omega)
section
variable {w0 w W2 wf:World}{gw:Nat}{o:Nat->Nat}{E:List EX}{ps:List (Nat×Nat)}{aD ba:Value}{vl:List Value}{m:Nat}
theorem LW.rem (h:LW (λ_=>True) w0 w gw o E ps aD ba vl m) {i:Nat}{e e':EX}{p:Nat×Nat}(g:E[i]?=some e) (j:ps[i]?=some p) (f:Ac (λb=>w.heap.size<=b) w W2)
  (k:Ac (λb=>(b<w.heap.size/\w0.heap.size<=b/\(o b=3+2*i\/o b=4+2*i))\/W2.heap.size<=b) W2 wf) (P:Nat->Bool)
  (l:GR (λb=>((o b=3+2*i/\w0.heap.size<=b)/\b<w.heap.size)\/(W2.heap.size<=b/\P b=true)) wf p.1 e') (q:MR (λb=>((o b=4+2*i/\w0.heap.size<=b)/\b<w.heap.size)\/(W2.heap.size<=b/\P b=false)) wf p.2 e')
  (r:e'.n=e.n) (s:PV e.n m):∃o',LW (λ_=>True) w0 wf gw o' (E.set i e') ps aD ba vl (m+1):=by
 have d:=f.size;refine⟨_,h.dv g j ((f.mono (λb a=>.inr a)).trans (k.mono (λb a=>a.imp id (λh=>Ad d h)))) (λb a c=>a.elim (λh=>h.2) (λh=>absurd c (CJ.2 h))) P (v:=.slice none 0 0) (λb a=>by cases a)
  (l.mono (λb a=>⟨a.imp (λh=>⟨h.1.1,h.1.2,h.2⟩) (λh=>⟨Ad d h.1,h.2⟩),λh=>by cases h⟩)) (q.mono (λb c a=>a.imp (λh=>⟨h.1.1,h.1.2,h.2⟩) (λh=>⟨Ad d h.1,h.2⟩))) ?_⟩
 rw[r];obtain⟨t,c2,c3,c4,c5,u⟩:=s;exact⟨t,by omega,c3,by omega,c5,by omega⟩
end
theorem po {e:EX}{nm:Ah}{l:List Int}(a:QB e.s) (h:e.keys nm=some l):l.length<=100000:=by
 unfold EX.keys at h;simp only at h;split at h
 ·cases h
 ·injection h with h;subst h;rw[Fo];unfold St.queue;cases b:e.s.q[(find e.p.decls nm).toNat]? with
  |none=>simp
  |some x=>exact a.l x (Aw b)
section
variable {w0 w:World}{gw:Nat}{o:Nat->Nat}{E:List EX}{ps:List (Nat×Nat)}{aD ba:Value}{vl:List Value}{m:Nat}{x:W7}{B:Nat}{ea:Nat->Addr}{gx:Nat×Nat}
theorem uj (hE:cU B ea gx w0) (hT:Ol w0) (h:LW (λ_=>True) w0 w gw o E ps aD ba vl m) (hp:0<ps.length) (hx:yX x) (hm:m<=1999999) (G:x.kind=2\/x.kind=3\/x.kind=4\/x.kind=5\/x.kind=6\/x.kind=7):
  Calls prog 30 #[.pointer (some ⟨gw,0,none⟩),oS x] w (Tj w0 gw m):=by
 have ji:ps.length<=m:=by have:=h.len;have:=h.ne;omega
 obtain⟨i,hi,cL⟩:∃i:Nat,i<ps.length/\XC x.a ps.length=(i:Int):=by obtain⟨k,h1,h2⟩:=XB x.a hp;exact⟨k,h2,h1⟩
 have bC:=λW=>XI (w:=W) x.a ps.length hx.a1 hx.a2 hp (by omega);obtain⟨kd,a,key,s⟩:=x;change kd=2\/kd=3\/kd=4\/kd=5\/kd=6\/kd=7 at G;have n1:¬kd=1:=by omega
 have fc:=Aa G;clear G;simp only at cL bC;rw[cL]at bC;have c0:=h.row.cell 0;have rl:=h.row.lt;obtain⟨ge,ce,rfl,_,r1,r2,r3⟩:=h.es.form (by omega);obtain⟨p,bt⟩:∃p,ps[i]?=some p:=⟨_,Ae hi⟩;have d0:=h.es.at_ (λ_=>rfl) bt (j:=0) (by omega);have d1:=h.es.at_ (λ_=>rfl) bt (j:=1) (by omega);obtain⟨e,di,A,M,bu⟩:=h.qD bt;have jr:=A.lt;have jZ:=M.lt.1;obtain⟨D,gp,vq,vv,ky,Z,bj⟩:=id M;have g0:=Z.row.cell 0;have HX:=Aa (λL (G:Ac (λb=>w.heap.size<=b) w L)=>lP (A.kept G (λb _ f g=>Iy.2 f g)) ((hT.kept h.kept (λb c=>by have:=hT.lt;omega)).kept G (λb c=>by have:=hT.lt;have:=h.kept.size;omega)));have HM:=Aa (λL (G:Ac (λb=>w.heap.size<=b) w L)=>jD (bj.kept G (λb _ f g=>Iy.2 f g)) A.gi.1);simp at g0;clear Z bj;have iG:∀W,(Go.binOp .eql 22 (.slice none 0 0) (.slice none 0 0)).run prog W= .ok (.bool true) W:=λW=>by simp only[Go.binOp];simp[run_equal_slice_nil W _ _ none 0 0 Ew]
 have cW:=λL (G:Ac (λb=>w.heap.size<=b) w L)=>hE.later (h.kept.trans (G.mono (λb c=>Ad h.kept.size c)));have hA:=λL (G:Ac (λb=>w.heap.size<=b) w L)=>bV (cW L G).env (cW L G).obj (A.kept G (λb _ f g=>Iy.2 f g)) (λb c=>An c.2 G.size) (m:=m) (by omega) bu key;have hR:=λL (G:Ac (λb=>b=p.1\/w.heap.size<=b) w L)=>oM (M.kept G (λb c f g=>by
  rcases g with g|g
  ·have:=c.1.1;have:=A.nM.1.1;subst g;omega
  ·omega)) A.gi.1 A.gi.2 bu (by omega) key
 have dr:=λhit gone e1=>PV.access (e1:=e1) (hit:=hit) (gone:=gone) (key:=key) A.gi.1 bu;have li:o p.1=3+2*i:=A.nM.1.1;have lj:o p.2=4+2*i:=M.lt.2.1.1;have ll:w0.heap.size<=p.1:=A.nM.1.2;have lm:w0.heap.size<=p.2:=M.lt.2.1.2;have ln:=h.nl;generalize fi:e.access key=r at*;obtain⟨HA,HR,fj⟩:=zq3 hA hR dr;have dt:=A.gi;have dy:=Aa dt;clear dt;have dz:=λL (G:Ac (λb=>w.heap.size<=b) w L)=>lT (A.kept G (λb _ f g=>Iy.2 f g)) s;have dB:=λL (G:Ac (λb=>w.heap.size<=b) w L)=>j4 (M.kept G (λb _ f g=>Iy.2 f g)) A.gi.1 A.gi.2 s;have cy:=λl=>po (l:=l) (nm:=s) (A.gi.2.wi.qb A.gi.1);generalize eg:e.keys s=rk at*;obtain⟨KA,KR,fm⟩:=zq3 dz dB cy;have eF:=λL (G:Ac (λb=>w.heap.size<=b) w L)=>fv (A.kept G (λb _ f g=>Iy.2 f g)) s;have eG:=λL (G:Ac (λb=>w.heap.size<=b) w L)=>oy (M.kept G (λb _ f g=>Iy.2 f g)) A.gi.1 A.gi.2 s;generalize eR:e.value s=rv at*;obtain⟨VA,VR⟩:=zq2 eF eG;obtain⟨D2,lx,lA,lB,iR,Z,bj⟩:=id M;have g3:=Z.row.cell 3;have g4:=Z.row.cell 4;have g5:=Z.row.cell 5;have CX:=Aa (λL (G:Ac (λb=>w.heap.size<=b) w L)=>bU (A.kept G (λb _ f g=>Iy.2 f g)));simp at g3 g4 g5;clear Z bj;unfold Ng at d0 d1;simp at c0 d0 d1;unfold maxLen at r2;obtain⟨H,fR,bD,bE,gQ,gX,cX⟩:=zq7 h bC di bt A M bu;clear h bC cL bt hx di A M bu hE hT cW hA hR dr fi dz dB cy eg eF eG eR;unfold oS;go_enter nk,gD;go_wp2_with fail;have k0:Ac (λb=>w.heap.size<=b) w (w.alloc (.cells #[.int .i64 kd,.int .i64 a,.int .u64 key,vs s] 87)):=(Ac.refl _ w).alloc (Ab _) _;have c:=AE.new w 87 [.int .i64 kd,.int .i64 a,.int .u64 key,vs s];generalize hW:w.alloc (.cells #[.int .i64 kd,.int .i64 a,.int .u64 key,vs s] 87)=W at*;have bl:=c.lt;have z0:=(k0.cell (p:=⟨gw,0,none⟩) (by simp only;omega)).trans c0;have lE:ge<w.heap.size:=H.out.es.lt rfl;have z1:=(k0.cell (p:=⟨ge,i*2,none⟩) (by simp only;omega)).trans d0;have z2:=(k0.cell (p:=⟨ge,i*2+1,none⟩) (by simp only;omega)).trans d1;have b0:=c.cell 0;have b1:=c.cell 1;simp at b0 b1;have lW:=k0.size;obtain⟨HB,K0⟩:=zq2 c k0;clear c k0 hW c0 d0 d1
 go_region_held3 (λw'=>w'.cell? ⟨gw,0,none⟩=some (.slice (some ⟨ge,0,none⟩) ps.length ce)/\w'.cell? ⟨w.heap.size,1,none⟩=some (.int .i64 a)/\w'.cell? ⟨ge,i*2,none⟩=some (.pointer (some ⟨p.1,0,none⟩))/\w'.cell? ⟨ge,i*2+1,none⟩=some (.pointer (some ⟨p.2,0,none⟩))/\Ac (λb=>W.heap.size<=b) W w')
  ((repeat' apply And.intro)<;>(first
   |assumption
   |exact(zAr.alloc (Ab _) _).drew
   |exact zAr.drew
   |go_keep
   ))
  (first
   |(go_at_call 57;refine(fR.out _).mono ?_;rintro e w' ⟨rfl,rfl⟩))
 all_goals
  have kW:Ac (λb=>W.heap.size<=b) W ((W.alloc (.cells #[.pointer (some ⟨p.1,0,none⟩),.pointer (some ⟨p.2,0,none⟩)] 160)).drew):=((Ac.refl _ W).alloc (Ab _) _).drew;have bF:=AE.new W 160 [.pointer (some ⟨p.1,0,none⟩),.pointer (some ⟨p.2,0,none⟩)];have q0:((W.alloc (.cells #[.pointer (some ⟨p.1,0,none⟩),.pointer (some ⟨p.2,0,none⟩)] 160)).drew).cell? ⟨W.heap.size,0,none⟩=some (.pointer (some ⟨p.1,0,none⟩)):=bF.cell 0;have Y:((W.alloc (.cells #[.pointer (some ⟨p.1,0,none⟩),.pointer (some ⟨p.2,0,none⟩)] 160)).drew).cell? ⟨W.heap.size,1,none⟩=some (.pointer (some ⟨p.2,0,none⟩)):=bF.cell 1;have ql:W.heap.size<((W.alloc (.cells #[.pointer (some ⟨p.1,0,none⟩),.pointer (some ⟨p.2,0,none⟩)] 160)).drew).heap.size:=bF.lt;generalize (W.alloc (.cells #[.pointer (some ⟨p.1,0,none⟩),.pointer (some ⟨p.2,0,none⟩)] 160)).drew=W2 at*;have k2:Ac (λb=>w.heap.size<=b) w W2:=K0.out.trans (kW.mono (λb c=>Ad lW c));have F:=k2.size;have n0:=(kW.cell (p:=⟨w.heap.size,0,none⟩) (by simp only;omega)).trans (HB.out.cell 0);simp at n0;have y0:=(k2.cell (p:=⟨p.2,0,none⟩) (by simp only;omega)).trans g0;have b2:=(kW.cell (p:=⟨w.heap.size,2,none⟩) (by simp only;omega)).trans (HB.out.cell 2);simp at b2;have bs:=(kW.cell (p:=⟨w.heap.size,3,none⟩) (by simp only;omega)).trans (HB.out.cell 3);simp at bs;have y3:=(k2.cell (p:=⟨p.2,3,none⟩) (by simp only;omega)).trans g3;have y4:=(k2.cell (p:=⟨p.2,4,none⟩) (by simp only;omega)).trans g4;have y5:=(k2.cell (p:=⟨p.2,5,none⟩) (by simp only;omega)).trans g5;clear g0 g3 g4 g5;have N:=Aa k2;clear bF kW k2 z0 z1 z2 b0 b1;rcases fc.out with rfl|rfl|rfl|rfl|rfl|rfl
  ·go_wp2_with fail
   go_region_held3 (λw'=>w'.cell? ⟨W.heap.size,0,none⟩=some (.pointer (some ⟨p.1,0,none⟩))/\w'.cell? ⟨W.heap.size,1,none⟩=some (.pointer (some ⟨p.2,0,none⟩))/\w'.cell? ⟨p.2,0,none⟩=some (.pointer (some ⟨gp,0,none⟩))/\Ac (λb=>W2.heap.size<=b) W2 w')
    ((repeat' apply And.intro)<;>(first
     |assumption
     |(with_reducible exact zAr.drew)
     |exact(Ac.cell C (by simp only;omega)).trans q0
     |exact(Ac.cell C (by simp only;omega)).trans Y
     |exact(Ac.cell C (by simp only;omega)).trans y0
     |exact(Ac.cell I (by simp only;omega)).trans q0
     |exact(Ac.cell I (by simp only;omega)).trans Y
     |exact(Ac.cell I (by simp only;omega)).trans y0
     |go_keep
     ))
    (first
     |(go_at_call 9;refine(HX.out _ ?_).mono ?_;(first|(with_reducible exact N.out.drew)|exact N.out.trans (I.mono (λb c=>Ad F c)));rintro y w3 ⟨rfl,d⟩;have C:Ac (λb=>W2.heap.size<=b) W2 w3:=(by first|exact(zAr.drew).trans (d.mono (λb c=>c))|exact I.trans (d.mono (λb c=>Ad I.size c)));clear d)
     |(go_at_call 58;refine(HM.out _ ?_).mono ?_;(first|(with_reducible exact N.out.drew)|exact N.out.trans (C.mono (λb c=>Ad F c)));rintro y J ⟨rfl,q⟩;have I:Ac (λb=>W2.heap.size<=b) W2 J:=(by first|exact(zAr.drew).trans (q.mono (λb c=>c))|exact C.trans (q.mono (λb c=>Ad C.size c)));clear q))
   all_goals
    go_wp2;go_ret;refine⟨by simp,o,E,ps,_,ba,vl,(H.out.later (N.out.trans ?_)).up (Ca _)⟩
    first
     |exact C.mono (λb c=>Ad F c)
     |exact I.mono (λb c=>Ad F c)
  ·cases r with
   |err k=>
    go_wp2_with fail;refine(HA.out _ N.out).mono ?_;rintro y w3 ⟨d,rfl,O⟩;have k3:Ac (λb=>b=p.1\/w.heap.size<=b) w w3:=(N.out.mono (λb c=>.inr c)).trans (d.mono (λb c=>c.imp id (λh=>Ad F h)));have b3:=(d.cell (p:=⟨w.heap.size,2,none⟩) (by simp only;omega)).trans b2;have q3:=(d.cell (p:=⟨W.heap.size,1,none⟩) (by simp only;omega)).trans Y;have l3:=d.size;obtain⟨K3,db,be⟩:=zq3 k3 d O;clear k3 d O b2 q0 Y;go_wp2_with fail;refine(HR.out _ K3.out).mono ?_;rintro y J ⟨q,rfl,Q⟩;have l4:=q.size;have U:=Aa (Pr (w:=J) (u:=.slice none 0 0) (v:=.slice none 0 0) (a:=[]) (b:=[]) (.inl ⟨rfl,rfl⟩) (.inl ⟨rfl,rfl⟩) (by simp) (by simp));have t:=H.out.dv (w':=J) bD.out bE.out (T:=λb=>b=p.1\/b=p.2\/w.heap.size<=b) (e':=e) ((K3.out.mono (λb c=>c.imp id .inr)).trans (q.mono (λb c=>c.elim (λh=>.inr (.inl h)) (λh=>.inr (.inr (by omega))))))
     (λb c f=>by rcases c with h|h|h<;>(first|(subst h;exact⟨by omega,by omega⟩)|omega)) (λb=>decide (b<w3.heap.size)) (v:=.slice none 0 0) (λb c=>by cases c)
     ((be.out.kept q (λb c f g=>by
      rcases g with g|g
      ·have:=c.1.1;subst g;omega
      ·omega)).mono (λb c=>⟨.inl ⟨c.1.1,c.1.2,c.2⟩,λh=>by cases h⟩))
     (Q.mono (λb f c=>.inl ⟨c.1.1,c.1.2,c.2⟩)) (by obtain⟨c1,c2,c3,c4,c5,c6⟩:=cX.out;exact⟨c1,by omega,c3,by omega,c5,by omega⟩)
    have z:=H.out.nN (w':=J) (i:=i) (P:=λb=>decide (b<w3.heap.size)) (v:=.slice none 0 0) (Sl.hQ (λb=>w.heap.size<=b) J 32 1);obtain⟨V,X⟩:=zq2 t z;clear q Q b3 q3 t z;by_cases gZ:k=0
    ·subst gZ;go_wp2_with fail;refine U.out.mono ?_;rintro y w5 ⟨rfl,n5,rfl⟩;have t:=V.out;have z:=X.out;have R:=Aa (OQ (m':=m+1) (t.later (zAr.drewN n5)) (Ab _) (by omega) (by omega) (z.later ((Ac.refl (λb=>J.heap.size<=b) J).drewN n5) (λb c=>c)) (l:=[]) (by simp));clear t z;go_wp2_with fail;refine R.out.mono ?_;rintro y w6 ⟨rfl,o6,bq,v6,K⟩;have S:=Aa K;clear K;go_wp2;go_ret;exact⟨by simp,o6,_,_,_,_,_,S.out⟩
    ·have mJ:¬((k:Int)=0):=by omega
     go_wp2_with fail;refine U.out.mono ?_;rintro y w5 ⟨rfl,n5,rfl⟩;have t:=V.out;have z:=X.out;have R:=Aa (OQ (m':=m+1) (t.later (zAr.drewN n5)) (Ab _) (by omega) (by omega) (z.later ((Ac.refl (λb=>J.heap.size<=b) J).drewN n5) (λb c=>c)) (l:=[]) (by simp));clear t z;go_wp2_with fail;refine R.out.mono ?_;rintro y w6 ⟨rfl,o6,bq,v6,K⟩;have S:=Aa K;clear K;go_wp2;go_ret;exact⟨by simp,o6,_,_,_,_,_,S.out⟩
   |ok hit gone e1=>
    obtain⟨eT,hH,_⟩:=fj.out _ _ _ rfl;have hI:=Aa eT;clear eT;go_wp2_with fail;refine(HA.out _ N.out).mono ?_;rintro y w3 ⟨d,v3,rfl,bf,O⟩;have k3:Ac (λb=>b=p.1\/w.heap.size<=b) w w3:=(N.out.mono (λb c=>.inr c)).trans (d.mono (λb c=>c.imp id (λh=>Ad F h)));have b3:=(d.cell (p:=⟨w.heap.size,2,none⟩) (by simp only;omega)).trans b2;have q3:=(d.cell (p:=⟨W.heap.size,1,none⟩) (by simp only;omega)).trans Y;have l3:=d.size;obtain⟨a3,c3,rfl⟩:=bf.bz;obtain⟨K3,db,be,bg⟩:=zq4 k3 d O bf;clear k3 d O bf b2 q0 Y;go_wp2_with fail;refine(HR.out _ K3.out).mono ?_;rintro y J ⟨q,v4,rfl,bh,Q⟩;have l4:=q.size;obtain⟨a4,c4,rfl⟩:=bh.bz;have bi:=bg.out.kept q (λb c g=>by
     have h1:=bg.out.2 b c;have h2:=bg.out.lt c;rcases g with g|g
     ·subst g;omega
     ·omega)
    have U:=Aa (Pr bi.ls bh.ls (by omega) (by omega));have t:=H.out.dv (w':=J) bD.out bE.out (T:=λb=>b=p.1\/b=p.2\/w.heap.size<=b) (e':=e1) ((K3.out.mono (λb c=>c.imp id .inr)).trans (q.mono (λb c=>c.elim (λh=>.inr (.inl h)) (λh=>.inr (.inr (by omega))))))
     (λb c f=>by rcases c with h|h|h<;>(first|(subst h;exact⟨by omega,by omega⟩)|omega)) (λb=>decide (b<w3.heap.size)) (v:=.slice a3 gone.length c3) (λb c=>⟨Ad F (bg.out.2 b c),by have:=bg.out.lt c;simpa using this⟩)
     ((be.out.shrink.kept q (λb c f g=>by
      rcases g with g|g
      ·subst g;rcases c.1.1 with h|h
       ·have:=h.1.1;omega
       ·omega
      ·omega)).mono (λb c=>⟨c.1.1.elim (λh=>.inl ⟨h.1.1,h.1.2,h.2⟩) (λh=>.inr ⟨Ad F h,by have:=c.2;simpa using this⟩),c.1.2⟩))
     (Q.mono (λb f c=>c.elim (λh=>.inl ⟨h.1.1,h.1.2,h.2⟩) (λh=>.inr ⟨by omega,by simp;omega⟩))) hI.out
    have z:=H.out.nN (w':=J) (i:=i) (P:=λb=>decide (b<w3.heap.size)) (v:=.slice a3 gone.length c3) (bi.mono (λb c=>Ad F c));obtain⟨V,X⟩:=zq2 t z;clear q Q bh bi b3 q3 t z;go_wp2_with fail;refine U.out.mono ?_;rintro y w5 ⟨rfl,n5,rfl⟩;have t:=V.out;have z:=X.out;have R:=Aa (OQ (m':=m+1) (t.later (zAr.drewN n5)) (Ab _) (by omega) (by omega) (z.later ((Ac.refl (λb=>J.heap.size<=b) J).drewN n5) (λb c=>c)) (by omega));clear t z;go_wp2_with fail;refine R.out.mono ?_;rintro y w6 ⟨rfl,o6,bq,v6,K⟩;have S:=Aa K;clear K;go_wp2;go_ret;exact⟨by simp,o6,_,_,_,_,_,S.out⟩
  ·have mS:w.heap.size<W2.heap.size:=by omega
   have hX:=λL (G:Ac (λb=>((o b=4+2*i/\w0.heap.size<=b)/\b<w.heap.size)\/W2.heap.size<=b) W2 L)=>bQ ((gQ.out.kept N.out (λb _ f g=>Iy.2 f g)).kept G (λb c f g=>by
    rcases g with g|g
    ·have:=c.1.1;have:=g.1.1;omega
    ·omega)) key
   have hM:=λL (G:Ac (λb=>((o b=3+2*i/\w0.heap.size<=b)/\b<w.heap.size)\/W2.heap.size<=b) W2 L)=>ab ((gX.out.kept N.out (λb _ f g=>Iy.2 f g)).kept G (λb c f g=>by
    rcases g with g|g
    ·have:=c.1.1;have:=g.1.1;omega
    ·omega)) dy.out.1 dy.out.2 key
   have eU:(e.remove key).2.n=e.n:=by unfold EX.remove;split<;>rfl
   have HN:=Aa eU;clear eU;generalize hY:e.remove key=r at*;obtain⟨rb,e1⟩:=r;obtain⟨HX,HM⟩:=zq2 hX hM;unfold rJ at HX;unfold rK at HM;simp only at HX HM;clear hX hM hY;go_wp2_with fail
   go_region_held3 (λw'=>w'.cell? ⟨W.heap.size,0,none⟩=some (.pointer (some ⟨p.1,0,none⟩))/\w'.cell? ⟨W.heap.size,1,none⟩=some (.pointer (some ⟨p.2,0,none⟩))/\w'.cell? ⟨w.heap.size,2,none⟩=some (.int .u64 key))
    ((repeat' apply And.intro)<;>(first
     |assumption
     |exact(Ac.cell C (by simp only;omega)).trans q0
     |exact(Ac.cell C (by simp only;omega)).trans Y
     |exact(Ac.cell C (by simp only;omega)).trans b2
     |exact(Ac.cell I (by simp only;omega)).trans q0
     |exact(Ac.cell I (by simp only;omega)).trans Y
     |exact(Ac.cell I (by simp only;omega)).trans b2
     |exact(Ac.cell br (by simp only;omega)).trans q0
     |exact(Ac.cell br (by simp only;omega)).trans Y
     |exact(Ac.cell br (by simp only;omega)).trans b2
     |go_keep
     ))
    (first
     |(go_at_call 15;refine(HX.out _ ?_).mono ?_;(first|(with_reducible exact zAr.drew)|exact I);rintro y w3 ⟨rfl,d,O⟩;first|(have br:Ac (λb=>(b<w.heap.size/\w0.heap.size<=b/\(o b=3+2*i\/o b=4+2*i))\/W2.heap.size<=b) W2 w3:=(I.mono (λb c=>c.imp (λh=>⟨h.2,h.1.2,.inr h.1.1⟩) id)).trans (d.mono (λb c=>c.imp (λh=>⟨h.2,h.1.2,.inl h.1.1⟩) (λh=>Ad I.size h)));have db:=Aa d;have be:=Aa O;clear d O)|(have C:Ac (λb=>((o b=3+2*i/\w0.heap.size<=b)/\b<w.heap.size)\/W2.heap.size<=b) W2 w3:=(zAr.drew).trans d;have be:=Aa O;clear d O))
     |(go_at_call 62;refine(HM.out _ ?_).mono ?_;(first|(with_reducible exact zAr.drew)|exact C);rintro y J ⟨rfl,q,Q⟩;first|(have br:Ac (λb=>(b<w.heap.size/\w0.heap.size<=b/\(o b=3+2*i\/o b=4+2*i))\/W2.heap.size<=b) W2 J:=(C.mono (λb c=>c.imp (λh=>⟨h.2,h.1.2,.inl h.1.1⟩) id)).trans (q.mono (λb c=>c.imp (λh=>⟨h.2,h.1.2,.inr h.1.1⟩) (λh=>Ad C.size h)));have hZ:=Aa q;have dc:=Aa Q;clear q Q)|(have I:Ac (λb=>((o b=4+2*i/\w0.heap.size<=b)/\b<w.heap.size)\/W2.heap.size<=b) W2 J:=(zAr.drew).trans q;have dc:=Aa Q;clear q Q)))
   all_goals
    go_wp2;go_ret;have hn:e1.n=e.n:=HN.out
    first
     |(have HK:=hZ.out
       obtain⟨o',hq⟩:=H.out.rem bD.out bE.out N.out br (λb=>decide (b<w3.heap.size)) (e':=e1) ((be.out.shrink.kept HK (λb c f g=>by
        rcases g with g|g
        ·rcases c.1 with h|h
         ·have:=h.1.1;have:=g.1.1;omega
         ·have:=g.2;simp at h;omega
        ·have:=c.2;omega)).mono (λb c=>c.1.imp id (λh=>⟨h,by have:=c.2;simpa using this⟩))) (dc.out.mono (λb f c=>c.imp id (λh=>⟨by have:=C.size;omega,by simp;omega⟩))) hn cX.out
       exact⟨by simp,_,_,_,_,_,_,hq⟩)
     |(have HK:=db.out
       obtain⟨o',hq⟩:=H.out.rem bD.out bE.out N.out br (λb=>decide (J.heap.size<=b)) (e':=e1) (be.out.mono (λb c=>c.imp id (λh=>⟨by have:=I.size;omega,by simp;omega⟩))) (((dc.out.mono (S':=λb=>(((o b=4+2*i/\w0.heap.size<=b)/\b<w.heap.size)\/W2.heap.size<=b)/\b<J.heap.size) (λb f c=>⟨c,f⟩)).kept HK (λb c f g=>by
        rcases g with g|g
        ·rcases c.1 with h|h
         ·have:=h.1.1;have:=g.1.1;omega
         ·have:=g.2;omega
        ·have:=c.2;omega)).mono (λb f c=>c.1.imp id (λh=>⟨h,by have:=c.2;simp;omega⟩))) hn cX.out
       exact⟨by simp,_,_,_,_,_,_,hq⟩)
  ·cases rk with
   |none=>
    go_wp2_with fail;refine(KA.out _ N.out).mono ?_;rintro y w3 ⟨d,rfl⟩;have k3:=N.out.trans (d.mono (λb c=>Ad F c));have b3:=(d.cell (p:=⟨w.heap.size,3,none⟩) (by simp only;omega)).trans bs;have q3:=(d.cell (p:=⟨W.heap.size,1,none⟩) (by simp only;omega)).trans Y;have l3:=d.size;have K3:=Aa k3;clear k3 d bs q0 Y;go_wp2_with fail;refine(KR.out _ K3.out).mono ?_;rintro y J ⟨q,rfl⟩;have t:=H.out.fresh (K3.out.trans (q.mono (λb c=>Ad (Ad F l3) c)));have z:=H.out.hand (w':=J) (Sl.hQ (λb=>w.heap.size<=b) J 32 1);obtain⟨U,V,X⟩:=zq3 (Pr (w:=J) (u:=.slice none 0 0) (v:=.slice none 0 0) (a:=[]) (b:=[]) (.inl ⟨rfl,rfl⟩) (.inl ⟨rfl,rfl⟩) (by simp) (by simp)) t z;clear q b3 q3 t z;go_wp2_with fail;refine U.out.mono ?_;rintro y w5 ⟨rfl,n5,rfl⟩;have t:=V.out;have z:=X.out;have R:=Aa (OQ (m':=m+1) (t.later (zAr.drewN n5)) (Ca _) (by omega) (by omega) (z.later ((Ac.refl (λb=>J.heap.size<=b) J).drewN n5) (λb c=>c)) (l:=[]) (by simp));clear t z;go_wp2_with fail;refine R.out.mono ?_;rintro y w6 ⟨rfl,o6,bq,v6,K⟩;have S:=Aa K;clear K;go_wp2;go_ret;exact⟨by simp,o6,_,_,_,_,_,S.out⟩
   |some mV=>
    have hH:=fm.out _ rfl;go_wp2_with fail;refine(KA.out _ N.out).mono ?_;rintro y w3 ⟨d,v3,rfl,bf⟩;have k3:=N.out.trans (d.mono (λb c=>Ad F c));have b3:=(d.cell (p:=⟨w.heap.size,3,none⟩) (by simp only;omega)).trans bs;have q3:=(d.cell (p:=⟨W.heap.size,1,none⟩) (by simp only;omega)).trans Y;have l3:=d.size;obtain⟨a3,c3,rfl⟩:=bf.bz;obtain⟨K3,bg⟩:=zq2 k3 bf;clear k3 d bf bs q0 Y;go_wp2_with fail;refine(KR.out _ K3.out).mono ?_;rintro y J ⟨q,v4,rfl,bh⟩;obtain⟨a4,c4,rfl⟩:=bh.bz;have bi:=bg.out.later q (λb c=>c);have U:=Aa (Pr bi.ls bh.ls (by omega) (by omega));have t:=H.out.fresh (K3.out.trans (q.mono (λb c=>Ad (Ad F l3) c)));have z:=H.out.hand (w':=J) (bi.mono (λb c=>Ad F c));obtain⟨V,X⟩:=zq2 t z;clear q bh bi b3 q3 t z;go_wp2_with fail;refine U.out.mono ?_;rintro y w5 ⟨rfl,n5,rfl⟩;have t:=V.out;have z:=X.out;have R:=Aa (OQ (m':=m+1) (t.later (zAr.drewN n5)) (Ca _) (by omega) (by omega) (z.later ((Ac.refl (λb=>J.heap.size<=b) J).drewN n5) (λb c=>c)) (by omega));clear t z;go_wp2_with fail;refine R.out.mono ?_;rintro y w6 ⟨rfl,o6,bq,v6,K⟩;have S:=Aa K;clear K;go_wp2;go_ret;exact⟨by simp,o6,_,_,_,_,_,S.out⟩
  ·cases rv
   all_goals
    go_wp2_with fail;refine(VA.out _ N.out).mono ?_;rintro y w3 ⟨d,rfl⟩;have k3:=N.out.trans (d.mono (λb c=>Ad F c));have b3:=(d.cell (p:=⟨w.heap.size,3,none⟩) (by simp only;omega)).trans bs;have q3:=(d.cell (p:=⟨W.heap.size,1,none⟩) (by simp only;omega)).trans Y;have l3:=d.size;have K3:=Aa k3;clear k3 d bs q0 Y;go_wp2_with fail;refine(VR.out _ K3.out).mono ?_;rintro y J ⟨q,rfl⟩;have K4:=Aa (K3.out.trans (q.mono (λb c=>Ad (Ad F l3) c)));clear q b3 q3;go_wp2;go_ret;exact⟨by simp,o,E,ps,_,ba,vl,(H.out.later K4.out).up (Ca _)⟩
  ·unfold rO qJ at CX;go_wp2_with fail
   go_region_held3 (λw'=>w'.cell? ⟨W.heap.size,0,none⟩=some (.pointer (some ⟨p.1,0,none⟩))/\w'.cell? ⟨W.heap.size,1,none⟩=some (.pointer (some ⟨p.2,0,none⟩))/\w'.cell? ⟨p.2,3,none⟩=some (.int .i64 e.n.ft)/\w'.cell? ⟨p.2,4,none⟩=some (.int .i64 e.n.dA)/\w'.cell? ⟨p.2,5,none⟩=some (.int .i64 e.n.cD)/\Ac (λb=>W2.heap.size<=b) W2 w')
    ((repeat' apply And.intro)<;>(first
     |assumption
     |(with_reducible exact zAr.drew)
     |exact(Ac.cell C (by simp only;omega)).trans q0
     |exact(Ac.cell C (by simp only;omega)).trans Y
     |exact(Ac.cell C (by simp only;omega)).trans y3
     |exact(Ac.cell C (by simp only;omega)).trans y4
     |exact(Ac.cell C (by simp only;omega)).trans y5
     |go_keep
     ))
    (first
     |(go_at_call 11;refine(CX.out _ ?_).mono ?_;(with_reducible exact N.out.drew);rintro y w3 ⟨rfl,d⟩;have C:Ac (λb=>W2.heap.size<=b) W2 w3:=(zAr.drew).trans (d.mono (λb c=>c));clear d))
   all_goals
    go_wp2;go_ret;exact⟨by simp,o,E,ps,_,ba,vl,(H.out.later (N.out.trans (C.mono (λb c=>Ad F c)))).up (Ca _)⟩
end
section
variable {w0 w:World}{gw:Nat}{o:Nat->Nat}{E:List EX}{ps:List (Nat×Nat)}{aD ba:Value}{vl:List Value}{m:Nat}{x:W7}
theorem jM (h:LW (λ_=>True) w0 w gw o E ps aD ba vl m) (z:0<ps.length) (t:yX x) (S:m<=1999999) (A:x.kind<1\/7<x.kind):
  Calls prog 30 #[.pointer (some ⟨gw,0,none⟩),oS x] w (Tj w0 gw m):=by
 have C:ps.length<=m:=by have:=h.len;have:=h.ne;omega
 obtain⟨i,D,d⟩:∃i:Nat,i<ps.length/\XC x.a ps.length=(i:Int):=by obtain⟨k,F,G⟩:=XB x.a z;exact⟨k,G,F⟩
 have c:=λW=>XI (w:=W) x.a ps.length t.a1 t.a2 z (by omega);obtain⟨kd,a,key,s⟩:=x;change kd<1\/7<kd at A;simp only at d c;rw[d]at c;have n1:¬kd=1:=by omega
 have T:¬kd=2:=by omega
 have n3:¬kd=3:=by omega
 have U:¬kd=4:=by omega
 have V:¬kd=5:=by omega
 have X:¬kd=6:=by omega
 have Y:¬kd=7:=by omega
 clear A;have u:=h.row.cell 0;have Z:=h.row.lt;obtain⟨ge,I,rfl,_,r1,J,r3⟩:=h.es.form (by omega);obtain⟨p,f⟩:∃p,ps[i]?=some p:=⟨_,Ae D⟩;have q:=h.es.at_ (λ_=>rfl) f (j:=0) (by omega);have r:=h.es.at_ (λ_=>rfl) f (j:=1) (by omega);unfold Ng at q r;simp at u q r;unfold maxLen at J;obtain⟨H,v⟩:=zq2 h c;clear h c d f t;unfold oS;go_enter nk,gD;go_wp2_with fail;have n:Ac (λb=>w.heap.size<=b) w (w.alloc (.cells #[.int .i64 kd,.int .i64 a,.int .u64 key,vs s] 87)):=(Ac.refl _ w).alloc (Ab _) _;have g:=AE.new w 87 [.int .i64 kd,.int .i64 a,.int .u64 key,vs s];generalize K:w.alloc (.cells #[.int .i64 kd,.int .i64 a,.int .u64 key,vs s] 87)=W at*;have bl:=g.lt;have L:=(n.cell (p:=⟨gw,0,none⟩) (by simp only;omega)).trans u;have M:ge<w.heap.size:=H.out.es.lt rfl;have N:=(n.cell (p:=⟨ge,i*2,none⟩) (by simp only;omega)).trans q;have O:=(n.cell (p:=⟨ge,i*2+1,none⟩) (by simp only;omega)).trans r;have P:=g.cell 0;have B:=g.cell 1;simp at P B;have Q:=n.size;obtain⟨HB,R⟩:=zq2 g n;clear g n K u q r
 go_region_held3 (λw'=>w'.cell? ⟨gw,0,none⟩=some (.slice (some ⟨ge,0,none⟩) ps.length I)/\w'.cell? ⟨w.heap.size,1,none⟩=some (.int .i64 a)/\w'.cell? ⟨ge,i*2,none⟩=some (.pointer (some ⟨p.1,0,none⟩))/\w'.cell? ⟨ge,i*2+1,none⟩=some (.pointer (some ⟨p.2,0,none⟩))/\Ac (λb=>W.heap.size<=b) W w')
  ((repeat' apply And.intro)<;>(first
   |assumption
   |exact(Ac.cell (l.alloc y _) (by simp only;omega)).trans L
   |exact(Ac.cell (l.alloc y _) (by simp only;omega)).trans B
   |exact(Ac.cell (l.alloc y _) (by simp only;omega)).trans N
   |exact(Ac.cell (l.alloc y _) (by simp only;omega)).trans O
   |exact(zAr.alloc (Ab _) _).drew
   |exact zAr.drew
   |go_keep
   ))
  (first
   |(go_at_call 57;refine(v.out _).mono ?_;rintro e w' ⟨rfl,rfl⟩))
 all_goals
  go_wp2;go_ret;refine⟨rfl,o,E,ps,_,ba,vl,(H.out.later ?_).up (Ca _)⟩;exact R.out.trans ((((Ac.refl _ W).alloc (Ab _) _).drew).mono (λb g=>Ad Q g))
end
section
variable {w0 w:World}{gw:Nat}{o:Nat->Nat}{E:List EX}{ps:List (Nat×Nat)}{aD ba:Value}{vl:List Value}{m:Nat}{x:W7}{B:Nat}{ea:Nat->Addr}{gx:Nat×Nat}
theorem ZX (c:cU B ea gx w0) (g:Ol w0) (h:LW (λ_=>True) w0 w gw o E ps aD ba vl m) (b:m<=1999999) (d:yX x):
  Calls prog 30 #[.pointer (some ⟨gw,0,none⟩),oS x] w (Tj w0 gw m):=by
 by_cases e:x.kind=1
 ·exact jN c h b e
 by_cases f:ps.length=0
 ·exact dO h f e
 have a:0<ps.length:=Nat.pos_of_ne_zero f;by_cases i:2<=x.kind/\x.kind<=7
 ·exact uj c g h a d b (by omega)
 exact jM h a d b (by omega)
end
section
variable {B:Nat}{ea:Nat->Addr}{gx:Nat×Nat}{w:World}{v:Value}{l:List W7}
theorem WY (n:cU B ea gx w) (p:Ol w) (h:Kd w v l):Calls prog 4 #[v] w λe q=>e= .returned (.bool true)/\Ac (λb=>w.heap.size<=b) w q:=by
 obtain⟨r,s⟩:=zq2 (Xq h) (λW (j:Ac (λb=>w.heap.size<=b) w W) (t:l.length<=1048576)=>ZO (h.later j) t (only:=3) (by decide) (λH gw o E I u z J m x A C D F=>ZX (n.later j) (p.later j) A C D));obtain⟨a,c,rfl,_⟩:=id h;clear n h p;go_enter wN,ntmps4;go_wp2_with fail;refine r.out.mono ?_;rintro y w1 ⟨b,rfl,i,f⟩;obtain⟨G,d⟩:=zq2 i f;clear i f;cases b with
 |false=>
  go_wp2;go_ret;exact⟨rfl,d.out⟩
 |true=>
  go_wp2_with fail;refine(s.out _ d.out (G.out (by first|rfl|trivial))).mono ?_;rintro y K ⟨rfl,g⟩;have k:=Aa g;clear g;go_wp2;go_ret;exact⟨rfl,d.out.trans (k.out.mono (λb i=>Ad d.out.size i))⟩
end
end Go.Proofs.YtepoejiigmhlbaaGreatDoor.Ev
