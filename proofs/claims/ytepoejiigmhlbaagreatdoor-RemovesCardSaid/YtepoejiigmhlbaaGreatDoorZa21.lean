/- Lemmas for a law's walk. Conditions: none. -/
import Derived.Test.YtepoejiigmhlbaaGreatDoorZa15
import Derived.Test.YtepoejiigmhlbaaGreatDoorZa20
set_option linter.all false
set_option maxRecDepth 100000
set_option maxHeartbeats 8000000
namespace Go.Proofs.YtepoejiigmhlbaaGreatDoor.Ev
open _root_.Go.Proofs.Tryz
open Go Go.RowKit
section
variable {S:Nat->Prop}{w w':World}{g gp:Nat}{vq vv:Value}{s:St}{c:J9}{vl:List Value}
theorem Sl.but {e t:TypeId}{size n m:Nat}{v:Value}{xs cs:List Value}(h:Sl S w e size v n xs) (d:AE w m t cs) (f:e≠t):Sl (λb=>S b/\b≠m) w e size v n xs:=
 ⟨h.1,λb a=>⟨h.2 b a,λe=>h.bD d f (e▸a)⟩⟩
theorem Es.but (h:Es S w g gp vq vv s c vl) {t:TypeId}{m:Nat}{cs:List Value}(a:AE w m t cs) (d:t≠165/\t≠234/\t≠236/\t≠3):Es (λb=>S b/\b≠m) w g gp vq vv s c vl:=
 ⟨h.row,⟨h.q.outer.but a (J6 d.2.2.1),h.q.len,λi v l f j=>(h.q.inner i v l f j).but a (J6 d.2.1),h.q.dc⟩,h.v.but a (J6 d.2.2.2),⟨h.sg,h.row.bt a (J6 d.1)⟩⟩
end
def EM (X:Nat->Prop) (w:World):Prop:=∀b,X b->∃cs,AE w b 262 cs
theorem EM.none (w:World):EM (λ_=>False) w:=λ_ h=>h.elim
theorem EM.lt {X:Nat->Prop}{w:World}(h:EM X w) {b:Nat}(a:X b):b<w.heap.size:=by obtain⟨cs,d⟩:=h b a;exact d.lt
theorem EM.kept {X T:Nat->Prop}{w w':World}(h:EM X w) (d:Ac T w w') (f:∀b,X b->¬T b):EM X w':=λb a=>by obtain⟨cs,i⟩:=h b a;exact⟨cs,i.kept d (f b a)⟩
theorem EM.later {X:Nat->Prop}{w w':World}(h:EM X w) (a:Ac (λb=>w.heap.size<=b) w w'):EM X w':=h.kept a (λb d f=>by have:=h.lt d;omega)
section
variable {S X:Nat->Prop}{w w':World}{g gp:Nat}{vq vv:Value}{s:St}{c:J9}{vl:List Value}
theorem Sl.jl {e:TypeId}{size n:Nat}{v:Value}{xs:List Value}(h:Sl S w e size v n xs) (d:EM X w) (f:e≠262):Sl (λb=>S b/\¬X b) w e size v n xs:=
 ⟨h.1,λb a=>⟨h.2 b a,λi=>by obtain⟨cs,j⟩:=d b i;exact h.bD j f a⟩⟩
theorem EM.jr (a:EM X w) {t:TypeId}{cs:List Value}(b:AE w g t cs) (d:t≠262):¬X g:=λf=>by obtain⟨h,i⟩:=a g f;exact b.bt i d rfl
theorem Es.jl (h:Es S w g gp vq vv s c vl) (a:EM X w):Es (λb=>S b/\¬X b) w g gp vq vv s c vl:=
 ⟨h.row,⟨h.q.outer.jl a (by decide),h.q.len,λi v l d f=>(h.q.inner i v l d f).jl a (by decide),h.q.dc⟩,h.v.jl a (by decide),⟨h.sg,a.jr h.row (by decide)⟩⟩
end
def Ye (B:Nat) (X:Nat->Prop) (w:World) (gr gs gp:Nat) (p:Ax) (c:J9) (key:Int) (r:DN) (e:Nat) (y:Ending) (w':World):Prop:=
 y= .returned (.tuple #[])/\Ac (λb=>B<=b/\¬X b) w w'/\∃vq vv vg vl,Dx B w' gr gs gp vq vv vg vl p c key r e
section
variable {B:Nat}{w w':World}{gr gs gp:Nat}{vq vv vg:Value}{vl:List Value}{p:Ax}{c:J9}{key:Int}{r:DN}{e:Nat}{X:Nat->Prop}
theorem Dx.apart (h:Dx B w gr gs gp vq vv vg vl p c key r e):Es (λb=>(B<=b/\b≠gr)/\vg.ownBlock≠some b) w gs gp vq vv r.s c vl:=by
 have d:=h.st.but h.row (by decide);cases f:vg.ownBlock with
 |none=>exact d.mono (λb _ a=>⟨a,λe=>by cases e⟩)
 |some m=>
  obtain⟨cs,i⟩:=h.gone.row f;exact(d.but i (by decide)).mono (λb _ a=>⟨a.1,λe=>a.2 (by injection e with e;exact e.symm)⟩)
theorem Dx.iV (h:Dx B w gr gs gp vq vv vg vl p c key r e):Up (λb=>(B<=b/\b≠gr)/\vg.ownBlock≠some b) w:=λb a=>
 ⟨⟨Ad h.sz a,λe=>by have:=h.row.lt;omega⟩,λe=>by have:=h.gone.lt e;omega⟩
theorem Dx.dv (h:Dx B w gr gs gp vq vv vg vl p c key r e) (d:Ac (λb=>((B<=b/\b≠gr)/\vg.ownBlock≠some b)/\¬X b) w w') {f:List Value}{s':St}(j:Es (λb=>(B<=b/\b≠gr)/\vg.ownBlock≠some b) w' gs gp vq vv s' c f) (k:WI p s'):
  Dx B w' gr gs gp vq vv vg f p c key {r with s:=s'} e/\Ac (λb=>B<=b/\¬X b) w w':=
 ⟨⟨h.row.kept d (λa=>a.1.1.2 rfl),j.mono (λb _ a=>a.1.1),h.gone.kept d (λb a i=>i.1.2 a),h.ba.kept d (λb a _ i=>by have:=i.1.1.1;omega),h.iL,Ad h.sz d.size,h.pw,k⟩,d.mono (λb a=>⟨a.1.1.1,a.2⟩)⟩
theorem Dx.oQ (h:Dx B w gr gs gp vq vv vg vl p c key r e) (f:EM X w) (e':Nat):Dx B (w.setCell ⟨gr,3,none⟩ (.int .i64 e')) gr gs gp vq vv vg vl p c key r e'/\Ac (λb=>B<=b/\¬X b) w (w.setCell ⟨gr,3,none⟩ (.int .i64 e')):=by have d:Ac (λb=>b=gr) w (w.setCell ⟨gr,3,none⟩ (.int .i64 e')):=Ac.one w ⟨gr,3,none⟩ _;exact⟨⟨h.row.bF 3 _,(h.apart.kept d (λb a _ e=>a.1.2 e)).mono (λb _ a=>a.1.1),h.gone.kept d (λb a e=>h.gone.bD h.row (by decide) (e▸a)),h.ba.kept d (λb a _ e=>by have:=h.iL;omega),h.iL,by simpa using h.sz,h.pw,h.gi⟩,d.mono (λb a=>⟨a▸h.iL,a▸f.jr h.row (by decide)⟩)⟩
theorem aX:(prog.info? 32).map (λi=>(i.zero,i.size,i.bytes))=some (some (.int .u64 0),1,8):=by kernel_rfl
theorem Dx.tell (h:Dx B w gr gs gp vq vv vg vl p c key r e) (v:EM X w) {x:Int}{w3:World}{f:Option Addr}{i:Nat}(y:Sl (λb=>B<=b) w3 32 1 (.slice f (r.gone.length+1) i) (r.gone.length+1) (r.gone.map Kp++[.int .u64 x])) (j:Ac (λb=>vg.ownBlock=some b\/w.heap.size<=b) w w3):
  Dx B (w3.setCell ⟨gr,2,none⟩ (.slice f (r.gone.length+1) i)) gr gs gp vq vv (.slice f (r.gone.length+1) i) vl p c key {r with gone:=r.gone++[x]} e/\Ac (λb=>B<=b/\¬X b) w (w3.setCell ⟨gr,2,none⟩ (.slice f (r.gone.length+1) i)):=by
 have k:∀{t:TypeId} {cs:List Value} {b:Nat},AE w b t cs->t≠32->¬(vg.ownBlock=some b\/w.heap.size<=b):=by
  intro t cs b m z a;rcases a with a|a
  ·exact h.gone.bD m (λe=>z e.symm) a
  ·have:=m.lt;omega
 have n:Ac (λb=>b=gr) w3 (w3.setCell ⟨gr,2,none⟩ (.slice f (r.gone.length+1) i)):=Ac.one w3 ⟨gr,2,none⟩ _;have d:=h.row.kept j (k h.row (by decide));have o:Es (λb=>(B<=b/\b≠gr)/\vg.ownBlock≠some b) w3 gs gp vq vv r.s c vl:=h.apart.kept j (λb a q u=>u.elim a.2 (λA=>by omega));have l:=h.ba.kept j (λb a q u=>u.elim (λe=>by have:=h.gone.2 b e;omega) (λA=>by omega));have C:∀b,vg.ownBlock=some b\/w.heap.size<=b->B<=b/\¬X b:=λb a=>⟨a.elim (λe=>h.gone.2 b e) (λe=>Ad h.sz e),λD=>by obtain⟨cs,m⟩:=v b D;exact k m (by decide) a⟩;refine⟨⟨d.bF 2 _,(o.kept n (λb a _ e=>a.1.2 e)).mono (λb _ a=>a.1.1),?_,l.kept n (λb a _ e=>by have:=h.iL;omega),h.iL,by have:=j.size;have:=h.sz;simp;omega,h.pw,h.gi⟩,(j.mono C).setCell (p:=⟨gr,2,none⟩) ⟨h.iL,v.jr h.row (by decide)⟩ _⟩;show Sl _ _ _ 1 _ (r.gone++[x]).length ((r.gone++[x]).map Kp);rw[Ao,B9];exact y.kept n (λb a e=>y.bD d (by decide) (e▸a))
theorem OH (h:Dx B w gr gs gp vq vv vg vl p c key r e) (Y:EM X w) {f:Int}(l:f= -1\/Ix p.decls.length f) (hg:r.gone.length<=3000000) (x:Int):
  Calls prog 144 #[.pointer (some ⟨gr,0,none⟩),.int .i64 f,.int .u64 x] w (Ye B X w gr gs gp p c key (DN.leaves p.decls f x r) e):=by
 have d:=MD h.st h.ba h.pw.decls l;obtain⟨i0,D,E,F,G⟩:=Bg aX;obtain⟨N,O,rfl⟩:=h.gone.bz;have P:=h.row.cell 0;have c2:=h.row.cell 2;have rl:=h.row.lt;have Z:=λj=>h.row.frozen j;simp at P c2;have m:DN.leaves p.decls f x r=if AW p.decls f then {r with gone:=r.gone++[x]}else r:=rfl;have i:Ac (λb=>w.heap.size<=b) w (w.alloc (.cells #[.int .u64 x] 32)):=(Ac.refl _ w).alloc (Ab _) _;have n:=h.gone.kept i (λb o I=>by have:=h.gone.lt o;omega);have m0:r.gone.length+1<=maxLen:=by unfold maxLen;omega
 have m1:(r.gone.length+1)*8<=140737488355328:=by omega
 have q:B<=(w.alloc (.cells #[.int .u64 x] 32)).heap.size:=Ad h.sz i.size;have Q:=C7 w [.int .u64 x] 32;have t:¬((Value.slice N r.gone.length O).ownBlock=some gr\/(w.alloc (.cells #[.int .u64 x] 32)).heap.size<=gr):=λhh=>hh.elim (λe=>h.gone.bD h.row (by decide) e) (λI=>by have:=i.size;omega);have d0:(w.alloc (.cells #[.int .u64 x] 32)).cell? ⟨gr,0,none⟩=some (.pointer (some ⟨gs,0,none⟩)):=(i.cell (p:=⟨gr,0,none⟩) (by simp only;omega)).trans P;have R:(w.alloc (.cells #[.int .u64 x] 32)).cell? ⟨gr,2,none⟩=some (.slice N r.gone.length O):=(i.cell (p:=⟨gr,2,none⟩) (by simp only;omega)).trans c2;have T:(w.alloc (.cells #[.int .u64 x] 32)).frozen? ⟨gr,2,none⟩=false:=(i.frozen (p:=⟨gr,2,none⟩) (by simp only;omega)).trans (Z 2);generalize DN.leaves p.decls f x r=r2 at*;generalize AW p.decls f=b at*;obtain⟨k,H,HX,v,U,J,K,Q2⟩:=zq8 d h Y m i n q Q;obtain⟨z,D2,F2⟩:=zq3 t R T;clear d h m i n q Q t l d0 R T;go_enter func144,ntmps144;cases b with
 |false=>
  go_wp2_with fail;refine k.out.mono ?_;rintro y w1 ⟨rfl,rfl⟩;go_wp2;go_end0;rw[v.out];exact⟨rfl,Ac.refl _ _,_,_,_,_,H.out⟩
 |true=>
  go_wp2_with fail;refine k.out.mono ?_;rintro y w1 ⟨rfl,rfl⟩;go_wp2_with (at_builtin;go_must (refine Dy Ew D E F G rfl (by decide) J.out K.out rfl _ _ rfl rfl ⟨w1.heap.size,0,none⟩ 1 1 [.int .u64 x] rfl rfl Q2.out (by intro u V;simp at V;subst V;rfl) m0 m1 (Cg _) ?_;intro g2 W w3 A a C;have e2:=(a.cell (p:=⟨gr,2,none⟩) z.out).trans D2.out;have ef:=(a.frozen (p:=⟨gr,2,none⟩) z.out).trans F2.out;have L:=Aa A;have M:=Aa a;clear A a C));go_end0;rw[v.out];have l:=H.out.tell HX.out L.out ((U.out.mono (λb o=>.inr o)).trans (M.out.mono (λb o=>o.elim .inl (λI=>.inr (Ad U.out.size I)))));exact⟨rfl,l.2,_,_,_,_,l.1⟩
def Iv (B:Nat) (X:Nat->Prop) (w:World) (gr gs gp:Nat) (p:Ax) (c:J9) (key:Int) (r:DN) (o:Except Nat DN) (y:Ending) (w':World):Prop:=
 match o with
 | .ok r'=>Ye B X w gr gs gp p c key r' 0 y w'
 | .error k=>Ye B X w gr gs gp p c key r k y w'
theorem Qf (h:Dx B w gr gs gp vq vv vg vl p c key r 0) (hX:EM X w) {f:Int}(hf:f= -1\/Ix p.decls.length f) {t:Nat}(C:t<p.decls.length) (hg:r.gone.length<=3000000) (x:Gm) (a:Bool):
  Calls prog 143 #[.pointer (some ⟨gr,0,none⟩),.agg #[.int .u64 x.key,.int .i64 x.aD],.int .i64 f,.int .i64 t,.bool a] w (Iv B X w gr gs gp p c key r (JA p.decls x f t a r)):=by
 obtain⟨gq,cq,l,al,cl,rfl,q1,q2,q3,hm,hl,cW,N,d0,_,bn⟩:=h.queue C;have c0:=h.row.cell 0;have rl:=h.row.lt;have rf:=λj=>h.row.frozen j;simp at c0;have O:=λ(d:Bi) (hd:d∈p.decls)=>(h.pw.decls.each d hd).hi;have bo:(Aq p.decls (t:Int)).max<=99:=by
  have bp:Aq p.decls (t:Int)∈p.decls:=by unfold Aq;rw[As,Ae C];exact Ed C
  have:=O _ bp;split at this<;>omega
 have P:Ac (λb=>w.heap.size<=b) w (w.alloc (.cells #[.int .u64 x.key,.int .i64 x.aD] 234)).drew:=((Ac.refl _ w).alloc (Ab _) _).drew;have Q:=h.later P;have M:AE (w.alloc (.cells #[.int .u64 x.key,.int .i64 x.aD] 234)).drew w.heap.size 234 [.int .u64 x.key,.int .i64 x.aD]:=(AE.new w 234 [.int .u64 x.key,.int .i64 x.aD]).drewN 1;have G:EM X (w.alloc (.cells #[.int .u64 x.key,.int .i64 x.aD] 234)).drew:=hX.later P;have R:Es (λb=>(((B<=b/\b≠gr)/\vg.ownBlock≠some b)/\¬X b)/\b≠w.heap.size) (w.alloc (.cells #[.int .u64 x.key,.int .i64 x.aD] 234)).drew gs gp (.slice (some ⟨gq,0,none⟩) r.s.q.length cq) vv r.s c vl:=((h.apart.jl hX).mono (S':=λb=>(((B<=b/\b≠gr)/\vg.ownBlock≠some b)/\¬X b)/\b≠w.heap.size) (λb i hs=>⟨hs,by omega⟩)).later P;have T:Up (λb=>(((B<=b/\b≠gr)/\vg.ownBlock≠some b)/\¬X b)/\b≠w.heap.size) (w.alloc (.cells #[.int .u64 x.key,.int .i64 x.aD] 234)).drew:=λb i=>⟨⟨Q.iV b i,λH=>by have:=G.lt H;omega⟩,λe=>by have:w.heap.size<(w.alloc (.cells #[.int .u64 x.key,.int .i64 x.aD] 234)).drew.heap.size:=M.lt;omega⟩;have m:=uu R Q.ba T Q.qb x C hl a;have k:JA p.decls x f t a r=(if(Aq p.decls (t:Int)).max<=(l.length:Int)then .error TW else
   .ok (if AW p.decls (t:Int)then {r with s:={r.s with q:=r.s.q.set t (if a then l++[x]else x::l)}}else DN.leaves p.decls f x.key {r with s:={r.s with q:=r.s.q.set t (if a then l++[x]else x::l)}})):=by
  unfold JA;rw[N];unfold St.bf;rw[As]
 have U:¬(Aq p.decls (t:Int)).max<=(l.length:Int)->WI p {r.s with q:=r.s.q.set t (if a then l++[x]else x::l)}:=λhh=>h.gi.bF (by split<;>simp<;>omega);obtain⟨D,V,I,H1,RX,KX,J,bt⟩:=zq8 m G hX Q M P h.sz U;have bu:((t:Int)= -1\/Ix p.decls.length (t:Int)):=.inr ⟨by omega,by omega⟩;generalize bx:JA p.decls x f t a r=co at*;generalize ({r.s with q:=r.s.q.set t (if a then l++[x]else x::l)}:St)=s2 at*;have K:=Aa k;clear m G hX Q M P R T U k bx bn h O d0 rf hl N bo;go_enter func143,ntmps143;by_cases A:(Aq p.decls (t:Int)).max<=(l.length:Int)
 ·have n:(!decide ((Aq p.decls (t:Int)).max<=(l.length:Int)))=false:=by simpa using A
  rw[n]at D;have HL:=Aa A;clear A n;go_wp2
  go_region_law (go_simp;go_at_call 160;refine D.out.mono ?_;rintro y w2 ⟨rfl,o,bz,u⟩;have F:=Aa (And.intro o u);have v:=(H1.out.dv (o.mono (λb i=>i.1)) (u.mono (λb _ i=>i.1.1)) H1.out.gi);have z0:=v.1.row.cell 0;have z3:=v.1.row.cell 3;have zl:=v.1.row.lt;have zf:=λj=>v.1.row.frozen j;simp at z0 z3;have z:=Aa v;clear o u v)
  all_goals
   go_wp2;go_end0;have k:=K.out;rw[Al HL.out]at k;rw[k];have L:=V.out.kept F.out.1 (λb i hh=>hh.1.2 i);have hE:=z.out.1.oQ L 11;exact⟨rfl,((KX.out.mono (λb i=>⟨Ad J.out i,λH=>by have:=I.out.lt H;omega⟩)).trans z.out.2).trans hE.2,_,_,_,_,hE.1⟩
 ·have n:(!decide ((Aq p.decls (t:Int)).max<=(l.length:Int)))=true:=by simpa using A
  rw[n]at D;have HL:=Aa A;clear A n;go_wp2
  go_region_law (go_simp;go_at_call 160;refine D.out.mono ?_;rintro y w2 ⟨rfl,o,bz,u⟩;have F:=Aa (And.intro o u);have v:=(H1.out.dv (o.mono (λb i=>i.1)) (u.mono (λb _ i=>i.1.1)) (bt.out HL.out));have z0:=v.1.row.cell 0;have z3:=v.1.row.cell 3;have zl:=v.1.row.lt;have M:=RX.out.kept o (λi=>i.2 rfl);have x0:=M.cell 0;simp at z0 z3 x0;have E:=Aa (MD v.1.st v.1.ba v.1.pw.decls bu);have z:=Aa v;clear o u v M)
  all_goals
   have L:=V.out.kept F.out.1 (λb i hh=>hh.1.2 i);have W:=OH z.out.1 L hf hg x.key;have bE:=Aa W;clear W;have k:=K.out;rw[Ai (by have:=HL.out;omega)]at k;have Y:=Aa k;clear k K;generalize Z:AW p.decls (t:Int)=bb at*;have dr:=Aa Z;clear Z;cases bb with
   |true=>
    go_wp2_with fail;refine E.out.mono ?_;rintro y w3 ⟨rfl,rfl⟩;go_wp2;go_end0;rw[Y.out];exact⟨rfl,(KX.out.mono (λb i=>⟨Ad J.out i,λH=>by have:=I.out.lt H;omega⟩)).trans z.out.2,_,_,_,_,z.out.1⟩
   |false=>
    go_wp2_with fail;refine E.out.mono ?_;rintro y w3 ⟨rfl,rfl⟩;go_wp2_with fail;refine bE.out.mono ?_;rintro y w4 ⟨rfl,be,dt,dy,dz,dA,bg⟩;have F4:=Aa (And.intro be bg);clear be bg;go_wp2;go_end0;rw[Y.out];exact⟨rfl,((KX.out.mono (λb i=>⟨Ad J.out i,λH=>by have:=I.out.lt H;omega⟩)).trans z.out.2).trans F4.out.1,_,_,_,_,F4.out.2⟩
end
section
variable {S:Nat->Prop}{w:World}{g gp:Nat}{vq vv:Value}{s:St}{c:J9}{vl:List Value}
theorem Es.oc (h:Es S w g gp vq vv s c vl) {k i a t:Nat}{l:List Gm}(j:vl[k]?=some (.slice (some ⟨a,0,none⟩) l.length t)) (m:s.q[k]?=some l) {x:Gm}(u:l[i]?=some x) (f:Int):
  Es S (w.setCell ⟨a,i*2+1,none⟩ (.int .i64 f)) g gp vq vv {s with q:=s.q.set k (l.set i {x with aD:=f})} c vl:=by
 have d:=h.q.inner k _ l j m;have n:Ac (λb=>b=a) w (w.setCell ⟨a,i*2+1,none⟩ (.int .i64 f)):=Ac.one w ⟨a,i*2+1,none⟩ _;obtain⟨cs,o⟩:=d.row (g:=a) rfl;exact⟨h.row.kept n (λe=>h.row.bt o (by decide) e),h.q.ig j m u f,h.v.kept n (λb y e=>h.v.bD o (by decide) (e▸y)),h.sg⟩
end
section
variable {B:Nat}{w w':World}{gr gs gp:Nat}{vq vv vg:Value}{vl:List Value}{p:Ax}{c:J9}{key:Int}{r:DN}{e:Nat}{X:Nat->Prop}
theorem Dx.oc (h:Dx B w gr gs gp vq vv vg vl p c key r e) (m:EM X w) {k i a n:Nat}{l:List Gm}(j:vl[k]?=some (.slice (some ⟨a,0,none⟩) l.length n)) (d:r.s.q[k]?=some l) {x:Gm}(o:l[i]?=some x) (f:Int):
  Dx B (w.setCell ⟨a,i*2+1,none⟩ (.int .i64 f)) gr gs gp vq vv vg vl p c key {r with s:={r.s with q:=r.s.q.set k (l.set i {x with aD:=f})}} e/\Ac (λb=>B<=b/\¬X b) w (w.setCell ⟨a,i*2+1,none⟩ (.int .i64 f)):=
 h.dv ((Ac.one w ⟨a,i*2+1,none⟩ _).mono (λb t=>t▸((h.apart.jl m).q.inner k _ l j d).2 a rfl)) (h.apart.oc j d o f)
  (h.gi.bF (by rw[A9];exact h.gi.len l (Aw d)))
theorem Dx.lJ (h:Dx B w' gr gs gp vq vv vg vl p c key r e) (i:EM X w) (a:Ac (λb=>B<=b/\¬X b) w w') {d:World}(f:Ac (λb=>w'.heap.size<=b) w' d):Ye B X w gr gs gp p c key r e (.returned (.tuple #[])) d:=
 ⟨rfl,a.trans (f.mono (λb j=>⟨Ad h.sz j,λk=>by have:=i.lt k;have:=a.size;omega⟩)),_,_,_,_,h.later f⟩
theorem dZ (h:Dx B w gr gs gp vq vv vg vl p c key r 0) (O:EM X w) (k:∀l∈r.s.q,∀x∈l,x.aD<=9223372036854775807) {q:Nat}(T:q<p.decls.length):
  Calls prog 145 #[.pointer (some ⟨gr,0,none⟩),.agg (BY (.dz (q:Int))).toArray] w (Iv B X w gr gs gp p c key r (bG p key (.dz (q:Int)) r)):=by
 obtain⟨U,cq,l,al,cl,rfl,q1,V,q3,hm,E,I,m,W,t,a⟩:=h.queue T;obtain⟨Y,c3,Z,rl,sl,rf⟩:=zp6 (h.row.cell 0) (h.row.cell 3) (h.st.row.cell 1) h.row.lt h.st.row.lt (h.row.frozen 3);have ba:=Aa h.sz;simp at Y c3 Z;have nr:¬gr=w.heap.size:=by omega
 have ns:¬gs=w.heap.size:=by omega
 have nq:¬U=w.heap.size:=by omega
 have u:bG p key (.dz (q:Int)) r=(if l=[]then .error LU else .ok (if 0<(Br l).aD then {r with s:={r.s with q:=r.s.q.set q (gY l (l.length-1) ((Br l).aD-1))}}else r)):=by simp only[bG,m,St.bf,As]
 generalize bG p key (.dz (q:Int)) r=o at*;unfold BY Du CQ G8 G9 C1 vs;unfold maxLen at V;obtain⟨H,b⟩:=zq2 h O;clear O;have v:=Aa u;cases l with
 |nil=>
  clear h u a E m t k;go_enter Mh,KE;go_wp2;go_region;go_wp2;go_end0;rw[v.out,Al trivial];have P:=H.out.oQ b.out 12;exact P.1.lJ b.out P.2 ((zAr.alloc (Ab _) _).drew)
 |cons y J=>
  have z:0<(y::J).length:=Cg _;have A:(y::J)≠ []:=by simp
  generalize y::J=l at*;have C:l[l.length-1]?=some (Br l):=by unfold Br Bm;rw[Ae (by omega)];rfl
  obtain⟨F,be,el,_,q4,q5,q6⟩:=a.form (by omega);injection el with K bj L;subst K L;have Q:=a.at_ (λ_=>rfl) C (j:=1) (by omega);simp[Cd]at Q;have bn:=k l (Aw E) (Br l) (Aw C);obtain⟨cs,d⟩:=a.row (g:=F) rfl;have ng:F≠gr:=λe=>h.row.bt d (by decide) e.symm;have bo:F≠gs:=λe=>h.st.row.bt d (by decide) e.symm;have fl:=d.frozen ((l.length-1)*2+1);have nl:¬F=w.heap.size:=by omega
  obtain⟨HX,M,HL,D⟩:=zq4 C t E A;obtain⟨n,G⟩:∃n,l.length=n+1:=⟨l.length-1,by omega⟩;rw[G,CL]at Q fl C;rw[G]at I q4 W;generalize R:(Br l).aD=f at*;obtain⟨HF,HN⟩:=zq2 R G;clear h u a E m t k C d z A R G;unfold maxLen at q5;by_cases i:0<f
  ·have N:=Aa i;go_enter Mh,KE;go_wp2;go_region;go_wp2;go_region;go_wp2;go_region;go_wp2;go_end0;obtain rfl:n=l.length-1:=by have:=HN.out;omega
   rw[v.out,Ai D.out,Al N.out];have hF:=H.out.oc b.out M.out HL.out HX.out (f-1);exact hF.1.lJ b.out hF.2 (((zAr.alloc (Ab _) _).drew).drew.drew)
  ·have N:=Aa i;go_enter Mh,KE;go_wp2;go_region;go_wp2;go_region;go_wp2;go_end0;rw[v.out,Ai D.out,Ai (by have:=N.out;omega)];exact H.out.lJ b.out zAr (((zAr.alloc (Ab _) _).drew).drew)
end
theorem X5 (a b:Int) (w:World):(Instr.field 234 (.agg #[.int .u64 a,.int .i64 b]) 0).run prog w= .ok (.int .u64 a) w:=by kernel_rfl
theorem YG {l:List Gm}{n:Nat}(h:l.length=n+1):Bm l n=Br l:=by unfold Br;rw[h,CL]
theorem oR {s:St}{q n:Nat}{l:List Gm}(a:s.q[q]?=some l) (b:l.length=n+1):s.out q n={s with q:=s.q.set q l.dropLast}:=by unfold St.out;rw[a,Ic,List.dropLast_eq_take,b,CL];congr 2;rw[jg,Ug (by omega),AM]
section
variable {B:Nat}{w w':World}{gr gs gp:Nat}{vq vv vg:Value}{vl:List Value}{p:Ax}{c:J9}{key:Int}{r:DN}{e:Nat}{X:Nat->Prop}
theorem Dx.pM (h:Dx B w gr gs gp vq vv vg vl p c key r e) (t:EM X w) {W:World}(u:Ac (λb=>w.heap.size<=b) w W) (E:w.heap.size<W.heap.size) {q n:Nat}{l:List Gm}(v:r.s.q[q]?=some l) (x:l.length=n+1):
  Calls prog 103 #[.pointer (some ⟨gs,0,none⟩),.int .i64 q,.int .i64 n] W λy j=>y= .returned (.agg #[.int .u64 (Br l).key,.int .i64 (Br l).aD])/\
   Ac (λb=>(B<=b/\¬X b)/\b≠w.heap.size) W j/\∃d,Dx B j gr gs gp vq vv vg d p c key {r with s:={r.s with q:=r.s.q.set q l.dropLast}} e:=by
 have g:=h.later u;have k:Es (λb=>(((B<=b/\b≠gr)/\vg.ownBlock≠some b)/\¬X b)/\b≠w.heap.size) W gs gp vq vv r.s c vl:=((h.apart.jl t).mono (S':=λb=>(((B<=b/\b≠gr)/\vg.ownBlock≠some b)/\¬X b)/\b≠w.heap.size) (λb a A=>⟨A,by omega⟩)).later u;have m:Up (λb=>(((B<=b/\b≠gr)/\vg.ownBlock≠some b)/\¬X b)/\b≠w.heap.size) W:=λb a=>⟨⟨g.iV b a,λC=>by have:=t.lt C;omega⟩,λe=>by omega⟩;have D:=U7 k m g.qb v (i:=n) (by omega);refine D.mono ?_;rintro y j ⟨rfl,f,d,o⟩;refine⟨by rw[YG x],f.mono (λb a=>⟨⟨a.1.1.1.1,a.1.2⟩,a.2⟩),d,?_⟩;have z:=g.dv (f.mono (λb a=>a.1)) (o.mono (λb _ a=>a.1.1)) (g.gi.out q n);rw[oR v x]at z;exact z.1
theorem aj (h:Dx B w gr gs gp vq vv vg vl p c key r 0) (m:EM X w) (T:r.gone.length<=3000000) {q:Nat}(U:q<p.decls.length):
  Calls prog 145 #[.pointer (some ⟨gr,0,none⟩),.agg (BY (.bx (q:Int))).toArray] w (Iv B X w gr gs gp p c key r (bG p key (.bx (q:Int)) r)):=by
 obtain⟨V,cq,l,al,cl,rfl,q1,Y,q3,hm,G,I,f,Z,t,u⟩:=h.queue U;obtain⟨c0,c3,s1,rl,sl,rf⟩:=zp6 (h.row.cell 0) (h.row.cell 3) (h.st.row.cell 1) h.row.lt h.st.row.lt (h.row.frozen 3);have J:=Aa h.sz;simp at c0 c3 s1;have nr:¬gr=w.heap.size:=by omega
 have ns:¬gs=w.heap.size:=by omega
 have nq:¬V=w.heap.size:=by omega
 have g:bG p key (.bx (q:Int)) r=(if l=[]then .error LU else .ok (DN.leaves p.decls q (Br l).key {r with s:={r.s with q:=r.s.q.set q l.dropLast}})):=by simp only[bG,f,St.bf,As]
 have K:((q:Int)= -1\/Ix p.decls.length (q:Int)):=.inr ⟨by omega,by omega⟩;generalize bG p key (.bx (q:Int)) r=o at*;unfold BY Du CQ G8 G9 C1 vs;unfold maxLen at Y;obtain⟨H,i,v⟩:=zq3 h m g;cases l with
 |nil=>
  clear m h g u G f t;go_enter Mh,KE;go_wp2;go_region;go_wp2;go_end0;rw[v.out,Al trivial];have R:=H.out.oQ i.out 12;exact R.1.lJ i.out R.2 ((zAr.alloc (Ab _) _).drew)
 |cons y L=>
  have x:(y::L)≠ []:=by simp
  obtain⟨n,M⟩:∃n,(y::L).length=n+1:=⟨_,rfl⟩;generalize y::L=l at*;rw[M]at I Z;have z:IntKind.i64.wrap (n:Int)=(n:Int):=CU _ (by omega);have N:=Aa z;have be:=X5;have a:=λW hk hW=>h.pM m (W:=W) hk hW G M;obtain⟨HD,O⟩:=zq2 a x;have E:Ac (λb=>w.heap.size<=b) w (w.alloc (.cells #[.string ⟨Ep.toArray⟩,.int .i64 (q:Int),.int .i64 0,.bool false,.string ⟨#[]⟩,.int .i64 0,.string ⟨#[]⟩,.int .i64 0,.string ⟨#[]⟩,.int .i64 0,.int .i64 0,A4,A4,.bool false] 262)).drew.drew:=((Ac.refl _ w).alloc (Ab _) _).drew.drew;have k:AE (w.alloc (.cells #[.string ⟨Ep.toArray⟩,.int .i64 (q:Int),.int .i64 0,.bool false,.string ⟨#[]⟩,.int .i64 0,.string ⟨#[]⟩,.int .i64 0,.string ⟨#[]⟩,.int .i64 0,.int .i64 0,A4,A4,.bool false] 262)).drew.drew w.heap.size 262 [.string ⟨Ep.toArray⟩,.int .i64 (q:Int),.int .i64 0,.bool false,.string ⟨#[]⟩,.int .i64 0,.string ⟨#[]⟩,.int .i64 0,.string ⟨#[]⟩,.int .i64 0,.int .i64 0,A4,A4,.bool false]:=(AE.new w 262 [.string ⟨Ep.toArray⟩,.int .i64 (q:Int),.int .i64 0,.bool false,.string ⟨#[]⟩,.int .i64 0,.string ⟨#[]⟩,.int .i64 0,.string ⟨#[]⟩,.int .i64 0,.int .i64 0,A4,A4,.bool false]).drewN 2;obtain⟨HO,RX,P,KX⟩:=zq4 (a _ E k.lt) k (m.later E) E;clear m h g u G f t x M a E k HD z;go_enter Mh,KE;go_wp2;go_region;go_wp2
  go_region_law (first|(go_simp;go_at_call 103;rw[N.out];refine HO.out.mono ?_;rintro y w2 ⟨rfl,d,bp,A⟩;have k:=RX.out.kept d (λj=>j.2 rfl);have x1:=k.cell 1;simp at x1;have Q:=Aa (OH A (P.out.kept d (λb j hh=>hh.1.2 j)) K T (Br l).key);have F:=Aa d;clear d A k)|(go_simp;go_at_call 144;refine Q.out.mono ?_;rintro y w4 ⟨rfl,C,bt,bu,bz,bC,D⟩;have S:=Aa (And.intro C D);clear C D))
  all_goals
   go_wp2;go_end0;rw[v.out,Ai O.out];exact⟨rfl,((KX.out.mono (λb j=>⟨Ad J.out j,λhx=>by have:=i.out.lt hx;omega⟩)).trans (F.out.mono (λb j=>j.1))).trans S.out.1,_,_,_,_,S.out.2⟩
end
def E6 (B:Nat) (X:Nat->Prop) (w:World) (gr gs gp:Nat) (p:Ax) (c:J9) (key:Int) (o:Except Nat DN) (y:Ending) (w':World):Prop:=
 match o with
 | .ok r'=>Ye B X w gr gs gp p c key r' 0 y w'
 | .error k=>∃r',Ye B X w gr gs gp p c key r' k y w'
section
variable {B:Nat}{X X':Nat->Prop}{w w1 w':World}{gr gs gp:Nat}{p:Ax}{c:J9}{key:Int}{r2:DN}{o:Except Nat DN}{y:Ending}
theorem Iv.pr (f:Ac (λb=>B<=b/\¬X b) w w1) (g:∀b,X b->X' b) (h:Iv B X' w1 gr gs gp p c key r2 o y w'):E6 B X w gr gs gp p c key o y w':=by
 cases o with
 |ok r'=>exact⟨h.1,f.trans (h.2.1.mono (λb a=>⟨a.1,λd=>a.2 (g b d)⟩)),h.2.2⟩
 |error k=>exact⟨r2,h.1,f.trans (h.2.1.mono (λb a=>⟨a.1,λd=>a.2 (g b d)⟩)),h.2.2⟩
theorem Iv.ends (h:Iv B X w gr gs gp p c key r2 o y w'):y= .returned (.tuple #[]):=by
 cases o with
 |ok r'=>exact h.1
 |error k=>exact h.1
theorem Iv.kept (h:Iv B X w gr gs gp p c key r2 o y w'):Ac (λb=>B<=b/\¬X b) w w':=by
 cases o with
 |ok r'=>exact h.2.1
 |error k=>exact h.2.1
theorem Iv.cell0 (h:Iv B X w gr gs gp p c key r2 o y w'):w'.cell? ⟨gr,0,none⟩=some (.pointer (some ⟨gs,0,none⟩)):=by
 cases o with
 |ok r'=>obtain⟨_,_,_,_,_,_,a⟩:=h;exact a.row.cell 0
 |error k=>obtain⟨_,_,_,_,_,_,a⟩:=h;exact a.row.cell 0
end
section
variable {B:Nat}{w w':World}{gr gs gp:Nat}{vq vv vg:Value}{vl:List Value}{p:Ax}{c:J9}{key:Int}{r:DN}{e:Nat}{X:Nat->Prop}
theorem ai (h:Dx B w gr gs gp vq vv vg vl p c key r 0) (v:EM X w) (hg:r.gone.length<=3000000) {q t:Nat}(hq:q<p.decls.length) (ht:t<p.decls.length) (tl:Bool):
  Calls prog 145 #[.pointer (some ⟨gr,0,none⟩),.agg (BY (.shift (q:Int) (t:Int) tl)).toArray] w (E6 B X w gr gs gp p c key (bG p key (.shift (q:Int) (t:Int) tl) r)):=by
 obtain⟨gq,cq,l,al,cl,rfl,q1,q2,q3,hm,K,L,j,d0,x,z⟩:=h.queue hq;obtain⟨c0,c3,s1,rl,sl,rf⟩:=zp6 (h.row.cell 0) (h.row.cell 3) (h.st.row.cell 1) h.row.lt h.st.row.lt (h.row.frozen 3);have M:=Aa h.sz;simp at c0 c3 s1;have nr:¬gr=w.heap.size:=by omega
 have ns:¬gs=w.heap.size:=by omega
 have nq:¬gq=w.heap.size:=by omega
 have k:bG p key (.shift (q:Int) (t:Int) tl) r=(if l=[]then .error LU else JA p.decls (Br l) q t tl {r with s:={r.s with q:=r.s.q.set q l.dropLast}}):=by simp only[bG,j,St.bf,As]
 have N:((q:Int)= -1\/Ix p.decls.length (q:Int)):=.inr ⟨by omega,by omega⟩;generalize bG p key (.shift (q:Int) (t:Int) tl) r=o at*;unfold BY Du CQ G8 G9 C1 vs;unfold maxLen at q2;obtain⟨H,m,A⟩:=zq3 h v k;cases l with
 |nil=>
  clear v h k z K j x;go_enter Mh,KE;go_wp2;go_region;go_wp2;go_end0;rw[A.out,Al trivial];have V:=H.out.oQ m.out 12;exact⟨_,V.1.lJ m.out V.2 ((zAr.alloc (Ab _) _).drew)⟩
 |cons y O=>
  have C:(y::O)≠ []:=by simp
  obtain⟨n,P⟩:∃n,(y::O).length=n+1:=⟨_,rfl⟩;generalize y::O=l at*;rw[P]at L d0;have D:IntKind.i64.wrap (n:Int)=(n:Int):=CU _ (by omega);have Q:=Aa D;have bo:=X5;have a:=λW hk hW=>h.pM v (W:=W) hk hW K P;obtain⟨HD,R⟩:=zq2 a C;have E:Ac (λb=>w.heap.size<=b) w (w.alloc (.cells #[.string ⟨Do.toArray⟩,.int .i64 (q:Int),.int .i64 (t:Int),.bool tl,.string ⟨#[]⟩,.int .i64 0,.string ⟨#[]⟩,.int .i64 0,.string ⟨#[]⟩,.int .i64 0,.int .i64 0,A4,A4,.bool false] 262)).drew.drew:=((Ac.refl _ w).alloc (Ab _) _).drew.drew;have f:AE (w.alloc (.cells #[.string ⟨Do.toArray⟩,.int .i64 (q:Int),.int .i64 (t:Int),.bool tl,.string ⟨#[]⟩,.int .i64 0,.string ⟨#[]⟩,.int .i64 0,.string ⟨#[]⟩,.int .i64 0,.int .i64 0,A4,A4,.bool false] 262)).drew.drew w.heap.size 262 [.string ⟨Do.toArray⟩,.int .i64 (q:Int),.int .i64 (t:Int),.bool tl,.string ⟨#[]⟩,.int .i64 0,.string ⟨#[]⟩,.int .i64 0,.string ⟨#[]⟩,.int .i64 0,.int .i64 0,A4,A4,.bool false]:=(AE.new w 262 [.string ⟨Do.toArray⟩,.int .i64 (q:Int),.int .i64 (t:Int),.bool tl,.string ⟨#[]⟩,.int .i64 0,.string ⟨#[]⟩,.int .i64 0,.string ⟨#[]⟩,.int .i64 0,.int .i64 0,A4,A4,.bool false]).drewN 2;obtain⟨HO,J,G0,S,KX⟩:=zq5 (a _ E f.lt) f ((h.later E).row.cell 0) (v.later E) E;clear v h k z K j x C P a E f HD D;go_enter Mh,KE;go_wp2;go_region;go_wp2;obtain⟨g1,g2,g3,g0⟩:=zp4 (J.out.cell 1) (J.out.cell 2) (J.out.cell 3) G0.out;simp only[BL,AI]at g1 g2 g3
  go_region_held3 (λw'=>w'.cell? ⟨w.heap.size,1,none⟩=some (.int .i64 (q:Int))/\w'.cell? ⟨w.heap.size,2,none⟩=some (.int .i64 (t:Int))/\w'.cell? ⟨w.heap.size,3,none⟩=some (.bool tl)/\w'.cell? ⟨gr,0,none⟩=some (.pointer (some ⟨gs,0,none⟩)))
   ((repeat' apply And.intro)<;>assumption)
   (first
    |(go_at_call 103;rw[Q.out];refine HO.out.mono ?_;rintro y Y ⟨rfl,g,bD,u⟩;have f:=J.out.kept g (λd=>d.2 rfl);have x1:=f.cell 1;have x2:=f.cell 2;have x3:=f.cell 3;have x0:Y.cell? ⟨gr,0,none⟩=some (.pointer (some ⟨gs,0,none⟩)):=u.row.cell 0;simp only[BL,AI]at x1 x2 x3;have G:EM (λb=>X b\/b=w.heap.size) Y:=(λb d=>d.elim (λh1=>S.out.kept g (λb d hh=>hh.1.2 d) b h1) (λe=>e▸⟨_,f⟩));have T:=Aa (Qf u G N ht hg (Br l) tl);have U:=Aa f;have F:=Aa g;clear g u f G)
    |(go_at_call 143;refine T.out.mono ?_;intro y w4 I;obtain rfl:=Iv.ends I;have Z:=Iv.kept I;have i:=U.out.kept Z (λd=>d.2 (.inr rfl));have y1:=i.cell 1;have y2:=i.cell 2;have y3:=i.cell 3;have y0:=Iv.cell0 I;simp only[BL,AI]at y1 y2 y3;have F4:=Aa I;clear I Z i))
  all_goals
   go_wp2;go_end0;rw[A.out,Ai R.out];exact Iv.pr ((KX.out.mono (λb d=>⟨Ad M.out d,λhx=>by have:=m.out.lt hx;omega⟩)).trans (F.out.mono (λb d=>d.1))) (λb d=>.inl d) F4.out
end
theorem RW {p:Ax}{key:Int}:∀(x t:Az) (r:DN),exec p key (x.app t) r=(match exec p key x r with| .ok r1=>exec p key t r1| .error e=>.error e)
 | .nil,t,r=>rfl
 | .bG y b,t,r=>by
  show exec p key (.bG y (b.app t)) r=_;rw[exec,exec];cases bG p key y r with
  |ok r1=>exact RW b t r1
  |error e=>rfl
 | .ite c a o e1 b,t,r=>by
  show exec p key (.ite c a o e1 (b.app t)) r=_;rw[exec,exec];cases (if BD p.decls key r.s c then exec p key a r else if o then exec p key e1 r else .ok r)with
  |ok r1=>exact RW b t r1
  |error e=>rfl
 | .rep n c x b,t,r=>by
  show exec p key (.rep n c x (b.app t)) r=_;rw[exec,exec];cases Gr (λs=>BD p.decls key s c) (exec p key x) n.toNat r with
  |ok r1=>exact RW b t r1
  |error e=>rfl
theorem OP:∀(x t:Az),(x.app t).bq=x.bq+t.bq
 | .nil,t=>by simp[Az.app,Az.bq]
 | .bG y b,t=>by simp only[Az.app,Az.bq,OP b t];omega
 | .ite c a o e1 b,t=>by simp only[Az.app,Az.bq,OP b t];omega
 | .rep n c x b,t=>by simp only[Az.app,Az.bq,OP b t];omega
theorem J0:∀(b r:Az),(b.app r).Form->b.Form/\r.Form
 | .nil,r,h=>⟨trivial,h⟩
 | .bG p x,r,h=>J0 x r h
 | .ite c t o e x,r,⟨d,a,f,g⟩=>⟨⟨d,a,(J0 x r f).1,g⟩,(J0 x r f).2⟩
 | .rep n c b x,r,⟨d,a⟩=>⟨⟨d,(J0 x r a).1⟩,(J0 x r a).2⟩
theorem GI.exec {p:Ax}{key:Int}{b:Az}{r r':DN}(h:GI p r.s) (a:Ej p) (d:Mz p.decls b) (e:exec p key b r= .ok r'):GI p r'.s:=
 Hg (λr=>GI p r.s) (λx r r' f g e=>g.bG a f e) b r r' d h e
def Aaf (cs:List Value):Prop:=∃(k:Ah) (n m:Int) (t:Bool) (a:Ah) (d:Int) (f:Ah) (g:Int) (h:Ah) (i:Int) (j:Int) (l:Option Addr) (n1 q:Nat) (s:Option Addr) (u c2:Nat) (o:Bool),
 cs=[vs k,.int .i64 n,.int .i64 m,.bool t,vs a,.int .i64 d,vs f,.int .i64 g,vs h,.int .i64 i,.int .i64 j,.slice l n1 q,.slice s u c2,.bool o]
theorem KS (c:CK):∃d n1 f n3,IC c=[vs d,.int .i64 n1,vs f,.int .i64 n3]:=by
 cases c with
 |less a b=>exact⟨_,_,_,_,rfl⟩
 |_=>exact⟨_,_,_,_,rfl⟩
theorem mu.fa {N:Nat->Prop}{w:World}{v:Value}{n:Nat}{cs:List Value}(h:mu N w v n cs):∃a c,v= .slice a n c:=h.bz
theorem AL.part {N:Nat->Prop}{w:World}:∀(b:Az) (cs:List Value),b≠.nil->AL N w b cs->∃x tl d j,b=x.app tl/\x.length=1/\cs=d++j/\Aaf d/\AL N w x d/\AL N w tl j/\b.length=tl.length+1/\x.size+tl.size=b.size
 | .nil,cs,h,_=>absurd rfl h
 | .bG p r,cs,_,⟨rest,l,z⟩=>
  ⟨.bG p .nil,r,BY p,rest,rfl,rfl,l,⟨_,_,_,_,_,_,_,_,_,_,_,_,_,_,_,_,_,_,rfl⟩,⟨[],by simp,rfl⟩,z,by simp[Az.length],by simp[Az.size]⟩
 | .ite c t o e r,cs,_,⟨m,ve,rest,l,q,s,u⟩=>by
  obtain⟨A,f,_⟩:=id q;obtain⟨C,D,g⟩:=f.fa;have i:∃a n c,ve= .slice a n c:=by
   cases o with
   |true=>
    rw[Al rfl]at s;obtain⟨H,v,_⟩:=s;obtain⟨E,c2,h⟩:=v.fa;exact⟨_,_,_,h⟩
   |false=>
    rw[Ai AY]at s;exact⟨none,0,0,s.1⟩
  obtain⟨E,I,c2,i⟩:=i;obtain⟨F,n1,G,n3,y⟩:=KS c.k;refine⟨.ite c t o e .nil,r,Ju c m o ve,rest,rfl,rfl,l,?_,⟨m,ve,[],by simp,q,s,rfl⟩,u,by simp[Az.length],by simp[Az.size];try omega⟩;unfold Ju Dg;rw[y,g,i];exact⟨_,_,_,_,_,_,_,_,_,_,_,_,_,_,_,_,_,_,rfl⟩
 | .rep n c b r,cs,_,⟨m,rest,l,q,u⟩=>by obtain⟨A,f,_⟩:=id q;obtain⟨C,D,g⟩:=f.fa;obtain⟨F,n1,G,n3,y⟩:=KS c.k;refine⟨.rep n c b .nil,r,H6 n c m,rest,rfl,rfl,l,?_,⟨m,[],by simp,q,rfl⟩,u,by simp[Az.length],by simp[Az.size];try omega⟩;unfold H6 Dg;rw[y,g];exact⟨_,_,_,_,_,_,_,_,_,_,_,_,_,_,_,_,_,_,rfl⟩
def Zb (m:Nat):Prop:=∀(B:Nat) (X:Nat->Prop) (w:World) (gr gs gp:Nat) (a d f:Value) (g:List Value) (p:Ax) (c:J9) (key:Int) (r:DN) (x:Az) (cs:List Value),
 Dx B w gr gs gp a d f g p c key r 0->EM X w->GI p r.s->x.length=1->x.size<=m->D9 p.decls x->x.Form->AL (λb=>b<B) w x cs->r.gone.length+x.bq<=2000000->
  Calls prog 122 #[.pointer (some ⟨gr,0,none⟩),.agg cs.toArray] w (E6 B X w gr gs gp p c key (exec p key x r))
def Su (m:Nat):Prop:=∀(B:Nat) (X:Nat->Prop) (w:World) (gr gs gp:Nat) (a d f:Value) (g:List Value) (p:Ax) (c:J9) (key:Int) (r:DN) (b:Az) (v:Value),
 Dx B w gr gs gp a d f g p c key r 0->EM X w->GI p r.s->b.size<=m->D9 p.decls b->b.Form->Cs (λb=>b<B) w v b->r.gone.length+b.bq<=2000000->
  Calls prog 101 #[.pointer (some ⟨gr,0,none⟩),v] w (E6 B X w gr gs gp p c key (exec p key b r))
structure V6 (B:Nat) (X:Nat->Prop) (w0:World) (gr gs gp:Nat) (p:Ax) (c:J9) (key:Int) (b:Az) (cs:List Value) (o:Except Nat DN) (k:Nat) (wr:World) (rest:Az) (aD ba:List Value) (r:DN) (e:Nat):Prop where
 cs:cs=aD++ba
 mS:aD.length=k*14
 k:k+rest.length=b.length
 sz:rest.size<=b.size
 w:D9 p.decls rest
 form:rest.Form
 nc:AL (λb=>b<B) w0 rest ba
 kept:Ac (λb=>B<=b/\¬X b) w0 wr
 run:∃vq vv vg vl,Dx B wr gr gs gp vq vv vg vl p c key r e
 so:if e=0 then o=exec p key rest r/\GI p r.s/\r.gone.length+rest.bq<=2000000 else o= .error e
section
variable {B:Nat}{X:Nat->Prop}{w0 wr:World}{gr gs gp k:Nat}{p:Ax}{c:J9}{key:Int}{b rest:Az}{cs aD ba:List Value}{o:Except Nat DN}{r:DN}{e:Nat}
theorem V6.next {g f:Nat}(h:V6 B X w0 gr gs gp p c key b cs o k wr rest aD ba r e) (i:mu (λb=>b<B) w0 (.slice (some ⟨g,0,none⟩) b.length f) b.length cs) (E:k<b.length):
  ∃x tl a d,rest=x.app tl/\x.length=1/\ba=a++d/\Aaf a/\AL (λb=>b<B) w0 x a/\AL (λb=>b<B) w0 tl d/\rest.length=tl.length+1/\x.size+tl.size=rest.size/\
   (∀j,j<14->wr.cell? ⟨g,k*14+j,none⟩=a[j]?)/\g<wr.heap.size:=by
 have l:rest≠.nil:=by rintro rfl;have:=h.k;simp[Az.length]at this;omega
 obtain⟨x,tl,a,d,e1,s,m,n,t,u,v,w⟩:=AL.part rest ba l h.nc;have q:a.length=14:=by obtain⟨_,_,_,_,_,_,_,_,_,_,_,_,_,_,_,_,_,_,rfl⟩:=n;rfl
 refine⟨x,tl,a,d,e1,s,m,n,t,u,v,w,λj F=>?_,An (i.lt rfl) h.kept.size⟩;have y:k*14+j<b.length*14:=by omega
 have z:=i.1.cellAt _ y;have A:cs[k*14+j]?=a[j]?:=by rw[h.cs,m,BE (by rw[h.mS];omega),h.mS,B6,AV (by omega)]
 have C:g<B:=i.2 g rfl;exact((h.kept.cell (p:=⟨g,k*14+j,none⟩) (λD=>by have:=D.1;simp only at this;omega)).trans z).trans A
theorem V6.step {x tl:Az}{d f:List Value}{y:Ending}{w':World}(h:V6 B X w0 gr gs gp p c key b cs o k wr rest aD ba r 0) (D:Ej p) (e1:rest=x.app tl) (v:ba=d++f) (z:d.length=14) (A:AL (λb=>b<B) w0 tl f)
  (H:rest.length=tl.length+1) (I:x.size+tl.size=rest.size) (m:E6 B X wr gr gs gp p c key (exec p key x r) y w'):
  y= .returned (.tuple #[])/\∃r' e',V6 B X w0 gr gs gp p c key b cs o (k+1) w' tl (aD++d) f r' e':=by
 have g:=h.so;rw[Al rfl]at g;obtain⟨i,E,F⟩:=g;have C:=h.w;have hF:=h.form;rw[e1]at C hF;obtain⟨n,j⟩:=(N9 x tl).1 C;obtain⟨q,l⟩:=J0 x tl hF;rw[e1,RW]at i;rw[e1,OP]at F;have J:=h.k;have G:=h.sz;cases a:exec p key x r with
 |ok r1=>
  rw[a]at m i;obtain⟨s,t,u⟩:=m;have K:=EA x r r1 a;refine⟨s,r1,0,by rw[h.cs,v,AK],by rw[Ao,h.mS,z];omega,by omega,by omega,j,l,A,h.kept.trans t,u,?_⟩;rw[Al rfl];exact⟨i,E.exec D (D9.ok x n q) a,by omega⟩
 |error e=>
  rw[a]at m i;obtain⟨r1,s,t,u⟩:=m;have L:=RU a;refine⟨s,r1,e,by rw[h.cs,v,AK],by rw[Ao,h.mS,z];omega,by omega,by omega,j,l,A,h.kept.trans t,u,?_⟩;rw[Ai (by omega)];exact i
end
theorem E6.after {B:Nat}{X:Nat->Prop}{w w1 w':World}{gr gs gp:Nat}{p:Ax}{c:J9}{key:Int}{o:Except Nat DN}{y:Ending}(a:Ac (λb=>B<=b/\¬X b) w w1) (h:E6 B X w1 gr gs gp p c key o y w'):E6 B X w gr gs gp p c key o y w':=by
 cases o with
 |ok r'=>exact⟨h.1,a.trans h.2.1,h.2.2⟩
 |error k=>
  obtain⟨r',d,f,g⟩:=h;exact⟨r',d,a.trans f,g⟩
theorem Vb {m:Nat}(I:Zb m):Su m:=by
 intro B X w gr gs gp vq vv vg vl p c key r b v h hX J K hW hF u U;obtain⟨cs,R,q⟩:=u;obtain⟨a,dz,rfl⟩:=R.bz;have hp:=h.pw;have dA:b.length<=9223372036854775807:=by
  rcases Nat.eq_zero_or_pos b.length with h0|h0
  ·omega
  ·obtain⟨_,_,_,_,h1,S,_⟩:=R.form h0;unfold maxLen at S;omega
 generalize ho:exec p key b r=o;have L:V6 B X w gr gs gp p c key b cs o 0 w b [] cs r 0:=⟨by simp,by simp,by omega,Ab _,hW,hF,q,Ac.refl _ _,⟨_,_,_,_,h⟩,by rw[Al rfl];exact⟨ho.symm,J,U⟩⟩;obtain⟨V,W,M,Y,Z,HP,HB⟩:=zq7 I hX R L K hp h.sz;clear I h hX J K hW hF R L q hp ho U;go_enter func101,ntmps101;go_wp2_with fail
 go_loopg [8] b.length (λbe s8 wr=>∃k rest aD ba r1 e1,k<=b.length/\b.length-k<=be/\s8= .int .i64 (k:Nat)/\V6 B X w gr gs gp p c key b cs o k wr rest aD ba r1 e1)
 case atStart=>exact⟨0,b,[],cs,r,0,AQ _,by omega,rfl,Y.out⟩
 case round=>
  obtain⟨k,rest,aD,ba,r1,e1,eF,U,rfl,z⟩:=hrel;obtain⟨vq,vv,vg,vl,E⟩:=z.run;have f3:=E.row.cell 3;have fl:=E.row.lt;simp at f3;by_cases bf:k<b.length
  ·obtain⟨g,dc,ec,_⟩:=M.out.form (by omega);injection ec with ea _ ec;subst ea ec;obtain⟨x,tl,bh,eR,q1,q2,q3,q4,q5,q6,q7,q8,f,eS⟩:=z.next M.out bf;have s:bh.length=14:=by obtain⟨_,_,_,_,_,_,_,_,_,_,_,_,_,_,_,_,_,_,rfl⟩:=id q4;rfl
   have j:=Aa (And.intro q1 (And.intro q2 (And.intro q3 (And.intro s (And.intro q5 (And.intro q6 (And.intro q7 q8)))))));obtain⟨k_,n_,m_,t_,bi,bj,bn,bo,bp,bq,br,bt,bu,bx,bC,bD,bE,o_,rfl⟩:=q4;have x0:=f 0 (by omega);have x1:=f 1 (by omega);have x2:=f 2 (by omega);have x3:=f 3 (by omega);have x4:=f 4 (by omega);have x5:=f 5 (by omega);have x6:=f 6 (by omega);have x7:=f 7 (by omega);have x8:=f 8 (by omega);have x9:=f 9 (by omega);have bF:=f 10 (by omega);have bH:=f 11 (by omega);have bI:=f 12 (by omega);have cy:=f 13 (by omega);have nr:¬gr=wr.heap.size:=by omega
   obtain⟨i,G⟩:=zq2 z E;clear z E f q1 q2 q3 q5 q6 q7 q8 s;unfold vs at*;simp only[BL,AI,Mi]at x0 x1 x2 x3 x4 x5 x6 x7 x8 x9 bF bH bI cy;by_cases H:e1=0
   ·subst H;go_wp2_with fail;have T:Ac (λb=>wr.heap.size<=b) wr (wr.alloc (.cells #[.string ⟨k_.toArray⟩,.int .i64 n_,.int .i64 m_,.bool t_,.string ⟨bi.toArray⟩,.int .i64 bj,.string ⟨bn.toArray⟩,.int .i64 bo,.string ⟨bp.toArray⟩,.int .i64 bq,.int .i64 br,.slice bt bu bx,.slice bC bD bE,.bool o_] 262)):=(Ac.refl _ wr).alloc (Ab _) _;have l:EM X wr:=W.out.kept i.out.kept (λb u N=>N.2 u);have A:Ac (λb=>B<=b/\¬X b) wr _:=T.mono (λb u=>⟨Ad G.out.sz u,λhx=>by have:=l.lt hx;omega⟩);have d:=i.out.so;rw[Al rfl]at d;have C:=i.out.w;have D:=i.out.form;rw[j.out.1]at C D;have O:=d.2.2;rw[j.out.1,OP]at O;refine(V.out B X _ gr gs gp vq vv vg vl p c key r1 x _ (G.out.later T) (l.later T) d.2.1 j.out.2.1 (by have:=i.out.sz;have:=j.out.2.2.2.2.2.2.2;have:=Z.out;omega) ((N9 x tl).1 C).1 (J0 x tl D).1
     (AL.kept (λk cs hk _=>(i.out.kept.trans A).block k (λN=>by have:=N.1;omega)) _ _ j.out.2.2.2.2.1) (by omega)).mono ?_
    intro y w2 S;obtain⟨rfl,r',e',P⟩:=i.out.step HP.out j.out.1 j.out.2.2.1 j.out.2.2.2.1 j.out.2.2.2.2.2.1 j.out.2.2.2.2.2.2.1 j.out.2.2.2.2.2.2.2 (S.after A);have F:=Aa P;clear T l A d C D O S P;go_wp2;go_roundg (b.length-(k+1))
    case measure=>omega
    case rel=>exact⟨k+1,_,_,_,_,_,by omega,by omega,by go_num,F.out⟩
   ·have e2:((e1:Int)==0)=false:=by simp;omega
    have e3:decide ((e1:Int)=0)=false:=by simp;omega
    have E0:=Aa H;clear H;go_wp2;go_end0;have d:=i.out.so;rw[Ai E0.out]at d;rw[d];have l:EM X wr:=W.out.kept i.out.kept (λb u N=>N.2 u);exact⟨r1,G.out.lJ W.out i.out.kept ((Ac.refl _ wr).alloc (Ab _) _)⟩
  ·have Q:rest= .nil:=by
    have:=z.k;cases rest with
    |nil=>rfl
    |bG p r=>simp[Az.length]at this;omega
    |ite c t o e r=>simp[Az.length]at this;omega
    |rep n c b r=>simp[Az.length]at this;omega
   subst Q;obtain⟨i,G⟩:=zq2 z E;clear z E;go_wp2;go_end0;have d:=i.out.so;by_cases H:e1=0
   ·subst H;rw[Al rfl]at d;rw[d.1];exact⟨rfl,i.out.kept,_,_,_,_,G.out⟩
   ·rw[Ai H]at d;rw[d];exact⟨r1,rfl,i.out.kept,_,_,_,_,G.out⟩
section
variable {B:Nat}{w w':World}{gr gs gp:Nat}{vq vv vg:Value}{vl:List Value}{p:Ax}{c:J9}{key:Int}{r:DN}{e:Nat}{X:Nat->Prop}
theorem Dx.na (h:Dx B w gr gs gp vq vv vg vl p c key r e):∀W,Ac (λb=>w.heap.size<=b) w W->Calls prog 99 #[.pointer (some ⟨gs,0,none⟩),.int .u64 key] W λe w'=>e= .returned (FC (r.s.find key))/\Ac (λb=>W.heap.size<=b) W w':=
 λW a=>Nw (h.later a).st h.qb key
theorem Dx.di (h:Dx B w gr gs gp vq vv vg vl p c key r e) (k:EM X w) {W:World}(m:Ac (λb=>w.heap.size<=b) w W) {q i:Nat}{l:List Gm}(z:r.s.q[q]?=some l) (A:i<l.length):
  Calls prog 103 #[.pointer (some ⟨gs,0,none⟩),.int .i64 q,.int .i64 i] W λy n=>y= .returned (.agg #[.int .u64 (Bm l i).key,.int .i64 (Bm l i).aD])/\
   Ac (λb=>(B<=b/\¬X b)/\¬(w.heap.size<=b/\b<W.heap.size)) W n/\∃d,∀w3,Ac (λb=>w.heap.size<=b/\b<W.heap.size) n w3->Dx B w3 gr gs gp vq vv vg d p c key {r with s:=r.s.out q i} e:=by
 have j:=h.later m;have o:Es (λb=>(((B<=b/\b≠gr)/\vg.ownBlock≠some b)/\¬X b)/\¬(w.heap.size<=b/\b<W.heap.size)) W gs gp vq vv r.s c vl:=((h.apart.jl k).mono (S':=λb=>(((B<=b/\b≠gr)/\vg.ownBlock≠some b)/\¬X b)/\¬(w.heap.size<=b/\b<W.heap.size)) (λb a C=>⟨C,by omega⟩)).later m;have t:Up (λb=>(((B<=b/\b≠gr)/\vg.ownBlock≠some b)/\¬X b)/\¬(w.heap.size<=b/\b<W.heap.size)) W:=λb a=>⟨⟨j.iV b a,λu=>by have:=k.lt u;have:=m.size;omega⟩,λe=>by omega⟩;have D:=U7 o t j.qb z A;refine D.mono ?_;rintro y n ⟨rfl,f,d,v⟩;refine⟨rfl,f.mono (λb a=>⟨⟨a.1.1.1.1,a.1.2⟩,a.2⟩),d,λw3 g=>?_⟩;have x:=v.kept g (λb a _ E=>a.2 E);have F:=h.sz;have G:=h.row.lt;exact(j.dv (X:=λb=>X b) ((f.mono (λb a=>a.1)).trans (g.mono (λb a=>⟨⟨⟨by omega,by omega⟩,λe=>by have:=h.gone.lt e;omega⟩,λu=>by have:=k.lt u;omega⟩))) (x.mono (λb _ a=>a.1.1)) (j.gi.out q i)).1
structure je (B:Nat) (X:Nat->Prop) (w:World) (gr gs gp:Nat) (vq vv vg:Value) (vl:List Value) (p:Ax) (c:J9) (key:Int) (r:DN) (cs:List Value) (wx:World):Prop where
 run:Dx B wx gr gs gp vq vv vg vl p c key r 0
 box:AE wx w.heap.size 262 cs
 dj:EM (λb=>X b\/b=w.heap.size) wx
 kept:Ac (λb=>B<=b/\¬X b) w wx
theorem je.of (h:Dx B w gr gs gp vq vv vg vl p c key r 0) (g:EM X w) {cs:List Value}{d:World}(i:Ac (λb=>w.heap.size+1<=b) (w.alloc (.cells cs.toArray 262)) d):je B X w gr gs gp vq vv vg vl p c key r cs d:=by have f:Ac (λb=>w.heap.size<=b) w d:=((Ac.refl _ w).alloc (Ab _) _).trans (i.mono (λb a=>by omega));have j:=(AE.new w 262 cs).kept i (by omega);exact⟨h.later f,j,λb a=>a.elim (λk=>g.later f b k) (λe=>e▸⟨cs,j⟩),f.mono (λb a=>⟨Ad h.sz a,λl=>by have:=g.lt l;omega⟩)⟩
theorem je.fin {cs:List Value}{g:World}{o:Except Nat DN}{y:Ending}(h:je B X w gr gs gp vq vv vg vl p c key r cs g) (d:E6 B (λb=>X b\/b=w.heap.size) g gr gs gp p c key o y w'):E6 B X w gr gs gp p c key o y w':=by
 cases o with
 |ok r'=>exact⟨d.1,h.kept.trans (d.2.1.mono (λb a=>⟨a.1,λf=>a.2 (.inl f)⟩)),d.2.2⟩
 |error k=>
  obtain⟨r',i,j,l⟩:=d;exact⟨r',i,h.kept.trans (j.mono (λb a=>⟨a.1,λf=>a.2 (.inl f)⟩)),l⟩
end
end Go.Proofs.YtepoejiigmhlbaaGreatDoor.Ev
