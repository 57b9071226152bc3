/- Lemmas for a law's walk. Conditions: none. -/
import Derived.Test.YtodkkholbjeioaaGreatDoorZu15
import Derived.Test.YtodkkholbjeioaaGreatDoorZu20
set_option linter.all false
set_option maxRecDepth 100000
set_option maxHeartbeats 8000000
namespace Go.Proofs.YtodkkholbjeioaaGreatDoor.Ev
open _root_.Go.Proofs.Tryz
open Go Go.RowKit
section
variable {S:Nat->Prop}{w w':World}{g gp:Nat}{vq vv:Value}{s:St}{c:Km}{vl:List Value}
theorem Sl.but {e t:TypeId}{size n m:Nat}{v:Value}{xs cs:List Value}(h:Sl S w e size v n xs) (d:AF w m t cs) (f:e≠t):Sl (λb=>S b/\b≠m) w e size v n xs:=
 ⟨h.1,λb a=>⟨h.2 b a,λe=>h.bK d f (e▸a)⟩⟩
theorem Ew.but (h:Ew S w g gp vq vv s c vl) {t:TypeId}{m:Nat}{cs:List Value}(a:AF w m t cs) (d:t≠50/\t≠117/\t≠122/\t≠3):Ew (λb=>S b/\b≠m) w g gp vq vv s c vl:=
 ⟨h.row,⟨h.q.outer.but a (Kj d.2.2.1),h.q.len,λi v l f j=>(h.q.inner i v l f j).but a (Kj d.2.1),h.q.dK⟩,h.v.but a (Kj d.2.2.2),⟨h.sg,h.row.cZ a (Kj d.1)⟩⟩
end
def EQ (X:Nat->Prop) (w:World):Prop:=∀b,X b->∃cs,AF w b 155 cs
theorem EQ.none (w:World):EQ (λ_=>False) w:=λ_ h=>h.elim
theorem EQ.lt {X:Nat->Prop}{w:World}(h:EQ X w) {b:Nat}(a:X b):b<w.heap.size:=by obtain⟨cs,d⟩:=h b a;exact d.lt
theorem EQ.kept {X T:Nat->Prop}{w w':World}(h:EQ X w) (d:Ac T w w') (f:∀b,X b->¬T b):EQ X w':=λb a=>by obtain⟨cs,i⟩:=h b a;exact⟨cs,i.kept d (f b a)⟩
theorem EQ.later {X:Nat->Prop}{w w':World}(h:EQ X w) (a:Ac (λb=>w.heap.size<=b) w w'):EQ X w':=h.kept a (λb d f=>by have:=h.lt d;omega)
section
variable {S X:Nat->Prop}{w w':World}{g gp:Nat}{vq vv:Value}{s:St}{c:Km}{vl:List Value}
theorem Sl.jk {e:TypeId}{size n:Nat}{v:Value}{xs:List Value}(h:Sl S w e size v n xs) (d:EQ X w) (f:e≠155):Sl (λb=>S b/\¬X b) w e size v n xs:=
 ⟨h.1,λb a=>⟨h.2 b a,λi=>by obtain⟨cs,j⟩:=d b i;exact h.bK j f a⟩⟩
theorem EQ.jl (a:EQ X w) {t:TypeId}{cs:List Value}(b:AF w g t cs) (d:t≠155):¬X g:=λf=>by obtain⟨h,i⟩:=a g f;exact b.cZ i d rfl
theorem Ew.jk (h:Ew S w g gp vq vv s c vl) (a:EQ X w):Ew (λb=>S b/\¬X b) w g gp vq vv s c vl:=
 ⟨h.row,⟨h.q.outer.jk a (by decide),h.q.len,λi v l d f=>(h.q.inner i v l d f).jk a (by decide),h.q.dK⟩,h.v.jk a (by decide),⟨h.sg,a.jl h.row (by decide)⟩⟩
end
def YH (B:Nat) (X:Nat->Prop) (w:World) (gr gs gp:Nat) (p:Ax) (c:Km) (key:Int) (r:DQ) (e:Nat) (y:Ending) (w':World):Prop:=
 y= .returned (.tuple #[])/\Ac (λb=>B<=b/\¬X b) w w'/\∃vq vv vg vl,Dz B w' gr gs gp vq vv vg vl p c key r e
section
variable {B:Nat}{w w':World}{gr gs gp:Nat}{vq vv vg:Value}{vl:List Value}{p:Ax}{c:Km}{key:Int}{r:DQ}{e:Nat}{X:Nat->Prop}
theorem Dz.apart (h:Dz B w gr gs gp vq vv vg vl p c key r e):Ew (λb=>(B<=b/\b≠gr)/\vg.ownBlock≠some b) w gs gp vq vv r.s c vl:=by
 have d:=h.st.but h.row (by decide);cases f:vg.ownBlock with
 |none=>exact d.mono (λb _ a=>⟨a,λe=>by cases e⟩)
 |some m=>
  obtain⟨cs,i⟩:=h.gone.row f;exact(d.but i (by decide)).mono (λb _ a=>⟨a.1,λe=>a.2 (by injection e with e;exact e.symm)⟩)
theorem Dz.jF (h:Dz B w gr gs gp vq vv vg vl p c key r e):Up (λb=>(B<=b/\b≠gr)/\vg.ownBlock≠some b) w:=λb a=>
 ⟨⟨Ad h.sz a,λe=>by have:=h.row.lt;omega⟩,λe=>by have:=h.gone.lt e;omega⟩
theorem Dz.dS (h:Dz B w gr gs gp vq vv vg vl p c key r e) (d:Ac (λb=>((B<=b/\b≠gr)/\vg.ownBlock≠some b)/\¬X b) w w') {f:List Value}{s':St}(j:Ew (λb=>(B<=b/\b≠gr)/\vg.ownBlock≠some b) w' gs gp vq vv s' c f) (k:WI p s'):
  Dz B w' gr gs gp vq vv vg f p c key {r with s:=s'} e/\Ac (λb=>B<=b/\¬X b) w w':=
 ⟨⟨h.row.kept d (λa=>a.1.1.2 rfl),j.mono (λb _ a=>a.1.1),h.gone.kept d (λb a i=>i.1.2 a),h.bQ.kept d (λb a _ i=>by have:=i.1.1.1;omega),h.iI,Ad h.sz d.size,h.pw,k⟩,d.mono (λb a=>⟨a.1.1.1,a.2⟩)⟩
theorem Dz.oP (h:Dz B w gr gs gp vq vv vg vl p c key r e) (f:EQ X w) (e':Nat):Dz B (w.setCell ⟨gr,3,none⟩ (.int .i64 e')) gr gs gp vq vv vg vl p c key r e'/\Ac (λb=>B<=b/\¬X b) w (w.setCell ⟨gr,3,none⟩ (.int .i64 e')):=by have d:Ac (λb=>b=gr) w (w.setCell ⟨gr,3,none⟩ (.int .i64 e')):=Ac.one w ⟨gr,3,none⟩ _;exact⟨⟨h.row.bM 3 _,(h.apart.kept d (λb a _ e=>a.1.2 e)).mono (λb _ a=>a.1.1),h.gone.kept d (λb a e=>h.gone.bK h.row (by decide) (e▸a)),h.bQ.kept d (λb a _ e=>by have:=h.iI;omega),h.iI,by simpa using h.sz,h.pw,h.gi⟩,d.mono (λb a=>⟨a▸h.iI,a▸f.jl h.row (by decide)⟩)⟩
theorem bF:(prog.info? 25).map (λi=>(i.zero,i.size,i.bytes))=some (some (.int .u64 0),1,8):=by kernel_rfl
theorem Dz.tell (h:Dz B w gr gs gp vq vv vg vl p c key r e) (v:EQ X w) {x:Int}{w3:World}{f:Option Addr}{i:Nat}(y:Sl (λb=>B<=b) w3 25 1 (.slice f (r.gone.length+1) i) (r.gone.length+1) (r.gone.map KE++[.int .u64 x])) (j:Ac (λb=>vg.ownBlock=some b\/w.heap.size<=b) w w3):
  Dz B (w3.setCell ⟨gr,2,none⟩ (.slice f (r.gone.length+1) i)) gr gs gp vq vv (.slice f (r.gone.length+1) i) vl p c key {r with gone:=r.gone++[x]} e/\Ac (λb=>B<=b/\¬X b) w (w3.setCell ⟨gr,2,none⟩ (.slice f (r.gone.length+1) i)):=by
 have k:∀{t:TypeId} {cs:List Value} {b:Nat},AF w b t cs->t≠25->¬(vg.ownBlock=some b\/w.heap.size<=b):=by
  intro t cs b m z a;rcases a with a|a
  ·exact h.gone.bK m (λe=>z e.symm) a
  ·have:=m.lt;omega
 have n:Ac (λb=>b=gr) w3 (w3.setCell ⟨gr,2,none⟩ (.slice f (r.gone.length+1) i)):=Ac.one w3 ⟨gr,2,none⟩ _;have d:=h.row.kept j (k h.row (by decide));have o:Ew (λb=>(B<=b/\b≠gr)/\vg.ownBlock≠some b) w3 gs gp vq vv r.s c vl:=h.apart.kept j (λb a q u=>u.elim a.2 (λA=>by omega));have l:=h.bQ.kept j (λb a q u=>u.elim (λe=>by have:=h.gone.2 b e;omega) (λA=>by omega));have C:∀b,vg.ownBlock=some b\/w.heap.size<=b->B<=b/\¬X b:=λb a=>⟨a.elim (λe=>h.gone.2 b e) (λe=>Ad h.sz e),λD=>by obtain⟨cs,m⟩:=v b D;exact k m (by decide) a⟩;refine⟨⟨d.bM 2 _,(o.kept n (λb a _ e=>a.1.2 e)).mono (λb _ a=>a.1.1),?_,l.kept n (λb a _ e=>by have:=h.iI;omega),h.iI,by have:=j.size;have:=h.sz;simp;omega,h.pw,h.gi⟩,(j.mono C).setCell (p:=⟨gr,2,none⟩) ⟨h.iI,v.jl h.row (by decide)⟩ _⟩;show Sl _ _ _ 1 _ (r.gone++[x]).length ((r.gone++[x]).map KE);rw[Ao,Cb];exact y.kept n (λb a e=>y.bK d (by decide) (e▸a))
theorem O7 (h:Dz B w gr gs gp vq vv vg vl p c key r e) (Y:EQ X w) {f:Int}(l:f= -1\/Ix p.decls.length f) (hg:r.gone.length<=3000000) (x:Int):
  Calls prog 108 #[.pointer (some ⟨gr,0,none⟩),.int .i64 f,.int .u64 x] w (YH B X w gr gs gp p c key (DQ.leaves p.decls f x r) e):=by
 have d:=MS h.st h.bQ h.pw.decls l;obtain⟨i0,D,E,F,G⟩:=Bg bF;obtain⟨N,O,rfl⟩:=h.gone.cB;have P:=h.row.cell 0;have c2:=h.row.cell 2;have rl:=h.row.lt;have Z:=λj=>h.row.frozen j;simp at P c2;have m:DQ.leaves p.decls f x r=if AY p.decls f then {r with gone:=r.gone++[x]}else r:=rfl;have i:Ac (λb=>w.heap.size<=b) w (w.alloc (.cells #[.int .u64 x] 25)):=(Ac.refl _ w).alloc (Ab _) _;have n:=h.gone.kept i (λb o I=>by have:=h.gone.lt o;omega);have m0:r.gone.length+1<=maxLen:=by unfold maxLen;omega
 have m1:(r.gone.length+1)*8<=140737488355328:=by omega
 have q:B<=(w.alloc (.cells #[.int .u64 x] 25)).heap.size:=Ad h.sz i.size;have Q:=C9 w [.int .u64 x] 25;have t:¬((Value.slice N r.gone.length O).ownBlock=some gr\/(w.alloc (.cells #[.int .u64 x] 25)).heap.size<=gr):=λhh=>hh.elim (λe=>h.gone.bK h.row (by decide) e) (λI=>by have:=i.size;omega);have d0:(w.alloc (.cells #[.int .u64 x] 25)).cell? ⟨gr,0,none⟩=some (.pointer (some ⟨gs,0,none⟩)):=(i.cell (p:=⟨gr,0,none⟩) (by simp only;omega)).trans P;have R:(w.alloc (.cells #[.int .u64 x] 25)).cell? ⟨gr,2,none⟩=some (.slice N r.gone.length O):=(i.cell (p:=⟨gr,2,none⟩) (by simp only;omega)).trans c2;have T:(w.alloc (.cells #[.int .u64 x] 25)).frozen? ⟨gr,2,none⟩=false:=(i.frozen (p:=⟨gr,2,none⟩) (by simp only;omega)).trans (Z 2);generalize DQ.leaves p.decls f x r=r2 at*;generalize AY p.decls f=b at*;obtain⟨k,H,HX,v,U,J,K,Q2⟩:=zq8 d h Y m i n q Q;obtain⟨z,D2,F2⟩:=zq3 t R T;clear d h m i n q Q t l d0 R T;go_enter func108,ntmps108;cases b with
 |false=>
  go_wp2_with fail;refine k.out.mono ?_;rintro y w1 ⟨rfl,rfl⟩;go_wp2;go_end0;rw[v.out];exact⟨rfl,Ac.refl _ _,_,_,_,_,H.out⟩
 |true=>
  go_wp2_with fail;refine k.out.mono ?_;rintro y w1 ⟨rfl,rfl⟩;go_wp2_with (at_builtin;go_must (refine DA Ez D E F G rfl (by decide) J.out K.out rfl _ _ rfl rfl ⟨w1.heap.size,0,none⟩ 1 1 [.int .u64 x] rfl rfl Q2.out (by intro u V;simp at V;subst V;rfl) m0 m1 (Ci _) ?_;intro g2 W w3 A a C;have e2:=(a.cell (p:=⟨gr,2,none⟩) z.out).trans D2.out;have ef:=(a.frozen (p:=⟨gr,2,none⟩) z.out).trans F2.out;have L:=Aa A;have M:=Aa a;clear A a C));go_end0;rw[v.out];have l:=H.out.tell HX.out L.out ((U.out.mono (λb o=>.inr o)).trans (M.out.mono (λb o=>o.elim .inl (λI=>.inr (Ad U.out.size I)))));exact⟨rfl,l.2,_,_,_,_,l.1⟩
def IH (B:Nat) (X:Nat->Prop) (w:World) (gr gs gp:Nat) (p:Ax) (c:Km) (key:Int) (r:DQ) (o:Except Nat DQ) (y:Ending) (w':World):Prop:=
 match o with
 | .ok r'=>YH B X w gr gs gp p c key r' 0 y w'
 | .error k=>YH B X w gr gs gp p c key r k y w'
theorem QG (h:Dz B w gr gs gp vq vv vg vl p c key r 0) (hX:EQ X w) {f:Int}(hf:f= -1\/Ix p.decls.length f) {t:Nat}(C:t<p.decls.length) (hg:r.gone.length<=3000000) (x:Gp) (a:Bool):
  Calls prog 107 #[.pointer (some ⟨gr,0,none⟩),.agg #[.int .u64 x.key,.int .i64 x.bI],.int .i64 f,.int .i64 t,.bool a] w (IH B X w gr gs gp p c key r (JK p.decls x f t a r)):=by
 obtain⟨gq,cq,l,al,cl,rfl,q1,q2,q3,hm,hl,dd,N,d0,_,bO⟩:=h.queue C;have c0:=h.row.cell 0;have rl:=h.row.lt;have rf:=λj=>h.row.frozen j;simp at c0;have O:=λ(d:Bi) (hd:d∈p.decls)=>(h.pw.decls.each d hd).hi;have bP:(Aq p.decls (t:Int)).max<=99:=by
  have bS:Aq p.decls (t:Int)∈p.decls:=by unfold Aq;rw[As,Ae C];exact Eg C
  have:=O _ bS;split at this<;>omega
 have P:Ac (λb=>w.heap.size<=b) w (w.alloc (.cells #[.int .u64 x.key,.int .i64 x.bI] 117)).drew:=((Ac.refl _ w).alloc (Ab _) _).drew;have Q:=h.later P;have M:AF (w.alloc (.cells #[.int .u64 x.key,.int .i64 x.bI] 117)).drew w.heap.size 117 [.int .u64 x.key,.int .i64 x.bI]:=(AF.new w 117 [.int .u64 x.key,.int .i64 x.bI]).drewN 1;have G:EQ X (w.alloc (.cells #[.int .u64 x.key,.int .i64 x.bI] 117)).drew:=hX.later P;have R:Ew (λb=>(((B<=b/\b≠gr)/\vg.ownBlock≠some b)/\¬X b)/\b≠w.heap.size) (w.alloc (.cells #[.int .u64 x.key,.int .i64 x.bI] 117)).drew gs gp (.slice (some ⟨gq,0,none⟩) r.s.q.length cq) vv r.s c vl:=((h.apart.jk hX).mono (S':=λb=>(((B<=b/\b≠gr)/\vg.ownBlock≠some b)/\¬X b)/\b≠w.heap.size) (λb i hs=>⟨hs,by omega⟩)).later P;have T:Up (λb=>(((B<=b/\b≠gr)/\vg.ownBlock≠some b)/\¬X b)/\b≠w.heap.size) (w.alloc (.cells #[.int .u64 x.key,.int .i64 x.bI] 117)).drew:=λb i=>⟨⟨Q.jF b i,λH=>by have:=G.lt H;omega⟩,λe=>by have:w.heap.size<(w.alloc (.cells #[.int .u64 x.key,.int .i64 x.bI] 117)).drew.heap.size:=M.lt;omega⟩;have m:=uX R Q.bQ T Q.qb x C hl a;have k:JK p.decls x f t a r=(if(Aq p.decls (t:Int)).max<=(l.length:Int)then .error Ul else
   .ok (if AY p.decls (t:Int)then {r with s:={r.s with q:=r.s.q.set t (if a then l++[x]else x::l)}}else DQ.leaves p.decls f x.key {r with s:={r.s with q:=r.s.q.set t (if a then l++[x]else x::l)}})):=by
  unfold JK;rw[N];unfold St.bR;rw[As]
 have U:¬(Aq p.decls (t:Int)).max<=(l.length:Int)->WI p {r.s with q:=r.s.q.set t (if a then l++[x]else x::l)}:=λhh=>h.gi.bM (by split<;>simp<;>omega);obtain⟨D,V,I,H1,RX,KX,J,bV⟩:=zq8 m G hX Q M P h.sz U;have bW:((t:Int)= -1\/Ix p.decls.length (t:Int)):=.inr ⟨by omega,by omega⟩;generalize bX:JK p.decls x f t a r=co at*;generalize ({r.s with q:=r.s.q.set t (if a then l++[x]else x::l)}:St)=s2 at*;have K:=Aa k;clear m G hX Q M P R T U k bX bO h O d0 rf hl N bP;go_enter func107,ntmps107;by_cases A:(Aq p.decls (t:Int)).max<=(l.length:Int)
 ·have n:(!decide ((Aq p.decls (t:Int)).max<=(l.length:Int)))=false:=by simpa using A
  rw[n]at D;have HL:=Aa A;clear A n;go_wp2
  go_region_law (go_simp;go_at_call 129;refine D.out.mono ?_;rintro y w2 ⟨rfl,o,bY,u⟩;have F:=Aa (And.intro o u);have v:=(H1.out.dS (o.mono (λb i=>i.1)) (u.mono (λb _ i=>i.1.1)) H1.out.gi);have z0:=v.1.row.cell 0;have z3:=v.1.row.cell 3;have zl:=v.1.row.lt;have zf:=λj=>v.1.row.frozen j;simp at z0 z3;have z:=Aa v;clear o u v)
  all_goals
   go_wp2;go_end0;have k:=K.out;rw[Al HL.out]at k;rw[k];have L:=V.out.kept F.out.1 (λb i hh=>hh.1.2 i);have hE:=z.out.1.oP L 11;exact⟨rfl,((KX.out.mono (λb i=>⟨Ad J.out i,λH=>by have:=I.out.lt H;omega⟩)).trans z.out.2).trans hE.2,_,_,_,_,hE.1⟩
 ·have n:(!decide ((Aq p.decls (t:Int)).max<=(l.length:Int)))=true:=by simpa using A
  rw[n]at D;have HL:=Aa A;clear A n;go_wp2
  go_region_law (go_simp;go_at_call 129;refine D.out.mono ?_;rintro y w2 ⟨rfl,o,bY,u⟩;have F:=Aa (And.intro o u);have v:=(H1.out.dS (o.mono (λb i=>i.1)) (u.mono (λb _ i=>i.1.1)) (bV.out HL.out));have z0:=v.1.row.cell 0;have z3:=v.1.row.cell 3;have zl:=v.1.row.lt;have M:=RX.out.kept o (λi=>i.2 rfl);have x0:=M.cell 0;simp at z0 z3 x0;have E:=Aa (MS v.1.st v.1.bQ v.1.pw.decls bW);have z:=Aa v;clear o u v M)
  all_goals
   have L:=V.out.kept F.out.1 (λb i hh=>hh.1.2 i);have W:=O7 z.out.1 L hf hg x.key;have cj:=Aa W;clear W;have k:=K.out;rw[Ai (by have:=HL.out;omega)]at k;have Y:=Aa k;clear k K;generalize Z:AY p.decls (t:Int)=bb at*;have dQ:=Aa Z;clear Z;cases bb with
   |true=>
    go_wp2_with fail;refine E.out.mono ?_;rintro y w3 ⟨rfl,rfl⟩;go_wp2;go_end0;rw[Y.out];exact⟨rfl,(KX.out.mono (λb i=>⟨Ad J.out i,λH=>by have:=I.out.lt H;omega⟩)).trans z.out.2,_,_,_,_,z.out.1⟩
   |false=>
    go_wp2_with fail;refine E.out.mono ?_;rintro y w3 ⟨rfl,rfl⟩;go_wp2_with fail;refine cj.out.mono ?_;rintro y w4 ⟨rfl,be,dR,dU,dV,dW,bJ⟩;have F4:=Aa (And.intro be bJ);clear be bJ;go_wp2;go_end0;rw[Y.out];exact⟨rfl,((KX.out.mono (λb i=>⟨Ad J.out i,λH=>by have:=I.out.lt H;omega⟩)).trans z.out.2).trans F4.out.1,_,_,_,_,F4.out.2⟩
end
section
variable {S:Nat->Prop}{w:World}{g gp:Nat}{vq vv:Value}{s:St}{c:Km}{vl:List Value}
theorem Ew.oX (h:Ew S w g gp vq vv s c vl) {k i a t:Nat}{l:List Gp}(j:vl[k]?=some (.slice (some ⟨a,0,none⟩) l.length t)) (m:s.q[k]?=some l) {x:Gp}(u:l[i]?=some x) (f:Int):
  Ew S (w.setCell ⟨a,i*2+1,none⟩ (.int .i64 f)) g gp vq vv {s with q:=s.q.set k (l.set i {x with bI:=f})} c vl:=by
 have d:=h.q.inner k _ l j m;have n:Ac (λb=>b=a) w (w.setCell ⟨a,i*2+1,none⟩ (.int .i64 f)):=Ac.one w ⟨a,i*2+1,none⟩ _;obtain⟨cs,o⟩:=d.row (g:=a) rfl;exact⟨h.row.kept n (λe=>h.row.cZ o (by decide) e),h.q.jd j m u f,h.v.kept n (λb y e=>h.v.bK o (by decide) (e▸y)),h.sg⟩
end
section
variable {B:Nat}{w w':World}{gr gs gp:Nat}{vq vv vg:Value}{vl:List Value}{p:Ax}{c:Km}{key:Int}{r:DQ}{e:Nat}{X:Nat->Prop}
theorem Dz.oX (h:Dz B w gr gs gp vq vv vg vl p c key r e) (m:EQ X w) {k i a n:Nat}{l:List Gp}(j:vl[k]?=some (.slice (some ⟨a,0,none⟩) l.length n)) (d:r.s.q[k]?=some l) {x:Gp}(o:l[i]?=some x) (f:Int):
  Dz B (w.setCell ⟨a,i*2+1,none⟩ (.int .i64 f)) gr gs gp vq vv vg vl p c key {r with s:={r.s with q:=r.s.q.set k (l.set i {x with bI:=f})}} e/\Ac (λb=>B<=b/\¬X b) w (w.setCell ⟨a,i*2+1,none⟩ (.int .i64 f)):=
 h.dS ((Ac.one w ⟨a,i*2+1,none⟩ _).mono (λb t=>t▸((h.apart.jk m).q.inner k _ l j d).2 a rfl)) (h.apart.oX j d o f)
  (h.gi.bM (by rw[A9];exact h.gi.len l (Aw d)))
theorem Dz.lP (h:Dz B w' gr gs gp vq vv vg vl p c key r e) (i:EQ X w) (a:Ac (λb=>B<=b/\¬X b) w w') {d:World}(f:Ac (λb=>w'.heap.size<=b) w' d):YH B X w gr gs gp p c key r e (.returned (.tuple #[])) d:=
 ⟨rfl,a.trans (f.mono (λb j=>⟨Ad h.sz j,λk=>by have:=i.lt k;have:=a.size;omega⟩)),_,_,_,_,h.later f⟩
theorem eR (h:Dz B w gr gs gp vq vv vg vl p c key r 0) (O:EQ X w) (k:∀l∈r.s.q,∀x∈l,x.bI<=9223372036854775807) {q:Nat}(T:q<p.decls.length):
  Calls prog 109 #[.pointer (some ⟨gr,0,none⟩),.agg (BZ (.dV (q:Int))).toArray] w (IH B X w gr gs gp p c key r (bN p key (.dV (q:Int)) r)):=by
 obtain⟨U,cq,l,al,cl,rfl,q1,V,q3,hm,E,I,m,W,t,a⟩:=h.queue T;obtain⟨Y,c3,Z,rl,sl,rf⟩:=zp6 (h.row.cell 0) (h.row.cell 3) (h.st.row.cell 1) h.row.lt h.st.row.lt (h.row.frozen 3);have be:=Aa h.sz;simp at Y c3 Z;have nr:¬gr=w.heap.size:=by omega
 have ns:¬gs=w.heap.size:=by omega
 have nq:¬U=w.heap.size:=by omega
 have u:bN p key (.dV (q:Int)) r=(if l=[]then .error Ma else .ok (if 0<(Bs l).bI then {r with s:={r.s with q:=r.s.q.set q (gI l (l.length-1) ((Bs l).bI-1))}}else r)):=by simp only[bN,m,St.bR,As]
 generalize bN p key (.dV (q:Int)) r=o at*;unfold BZ Dw CR Hc He C3 vs;unfold maxLen at V;obtain⟨H,b⟩:=zq2 h O;clear O;have v:=Aa u;cases l with
 |nil=>
  clear h u a E m t k;go_enter Mw,KU;go_wp2;go_region;go_wp2;go_end0;rw[v.out,Al trivial];have P:=H.out.oP b.out 12;exact P.1.lP b.out P.2 ((zAr.alloc (Ab _) _).drew)
 |cons y J=>
  have z:0<(y::J).length:=Ci _;have A:(y::J)≠ []:=by simp
  generalize y::J=l at*;have C:l[l.length-1]?=some (Bs l):=by unfold Bs Bm;rw[Ae (by omega)];rfl
  obtain⟨F,bJ,el,_,q4,q5,q6⟩:=a.form (by omega);injection el with K bO L;subst K L;have Q:=a.at_ (λ_=>rfl) C (j:=1) (by omega);simp[Cf]at Q;have bP:=k l (Aw E) (Bs l) (Aw C);obtain⟨cs,d⟩:=a.row (g:=F) rfl;have ng:F≠gr:=λe=>h.row.cZ d (by decide) e.symm;have bQ:F≠gs:=λe=>h.st.row.cZ d (by decide) e.symm;have fl:=d.frozen ((l.length-1)*2+1);have nl:¬F=w.heap.size:=by omega
  obtain⟨HX,M,HL,D⟩:=zq4 C t E A;obtain⟨n,G⟩:∃n,l.length=n+1:=⟨l.length-1,by omega⟩;rw[G,CM]at Q fl C;rw[G]at I q4 W;generalize R:(Bs l).bI=f at*;obtain⟨HF,HN⟩:=zq2 R G;clear h u a E m t k C d z A R G;unfold maxLen at q5;by_cases i:0<f
  ·have N:=Aa i;go_enter Mw,KU;go_wp2;go_region;go_wp2;go_region;go_wp2;go_region;go_wp2;go_end0;obtain rfl:n=l.length-1:=by have:=HN.out;omega
   rw[v.out,Ai D.out,Al N.out];have hF:=H.out.oX b.out M.out HL.out HX.out (f-1);exact hF.1.lP b.out hF.2 (((zAr.alloc (Ab _) _).drew).drew.drew)
  ·have N:=Aa i;go_enter Mw,KU;go_wp2;go_region;go_wp2;go_region;go_wp2;go_end0;rw[v.out,Ai D.out,Ai (by have:=N.out;omega)];exact H.out.lP b.out zAr (((zAr.alloc (Ab _) _).drew).drew)
end
theorem Yy (a b:Int) (w:World):(Instr.field 117 (.agg #[.int .u64 a,.int .i64 b]) 0).run prog w= .ok (.int .u64 a) w:=by kernel_rfl
theorem Za {l:List Gp}{n:Nat}(h:l.length=n+1):Bm l n=Bs l:=by unfold Bs;rw[h,CM]
theorem pE {s:St}{q n:Nat}{l:List Gp}(a:s.q[q]?=some l) (b:l.length=n+1):s.out q n={s with q:=s.q.set q l.dropLast}:=by unfold St.out;rw[a,Ih,List.dropLast_eq_take,b,CM];congr 2;rw[jB,UI (by omega),AO]
section
variable {B:Nat}{w w':World}{gr gs gp:Nat}{vq vv vg:Value}{vl:List Value}{p:Ax}{c:Km}{key:Int}{r:DQ}{e:Nat}{X:Nat->Prop}
theorem Dz.ov (h:Dz B w gr gs gp vq vv vg vl p c key r e) (t:EQ X w) {W:World}(u:Ac (λb=>w.heap.size<=b) w W) (E:w.heap.size<W.heap.size) {q n:Nat}{l:List Gp}(v:r.s.q[q]?=some l) (x:l.length=n+1):
  Calls prog 44 #[.pointer (some ⟨gs,0,none⟩),.int .i64 q,.int .i64 n] W λy j=>y= .returned (.agg #[.int .u64 (Bs l).key,.int .i64 (Bs l).bI])/\
   Ac (λb=>(B<=b/\¬X b)/\b≠w.heap.size) W j/\∃d,Dz B j gr gs gp vq vv vg d p c key {r with s:={r.s with q:=r.s.q.set q l.dropLast}} e:=by
 have g:=h.later u;have k:Ew (λb=>(((B<=b/\b≠gr)/\vg.ownBlock≠some b)/\¬X b)/\b≠w.heap.size) W gs gp vq vv r.s c vl:=((h.apart.jk t).mono (S':=λb=>(((B<=b/\b≠gr)/\vg.ownBlock≠some b)/\¬X b)/\b≠w.heap.size) (λb a A=>⟨A,by omega⟩)).later u;have m:Up (λb=>(((B<=b/\b≠gr)/\vg.ownBlock≠some b)/\¬X b)/\b≠w.heap.size) W:=λb a=>⟨⟨g.jF b a,λC=>by have:=t.lt C;omega⟩,λe=>by omega⟩;have D:=VC k m g.qb v (i:=n) (by omega);refine D.mono ?_;rintro y j ⟨rfl,f,d,o⟩;refine⟨by rw[Za x],f.mono (λb a=>⟨⟨a.1.1.1.1,a.1.2⟩,a.2⟩),d,?_⟩;have z:=g.dS (f.mono (λb a=>a.1)) (o.mono (λb _ a=>a.1.1)) (g.gi.out q n);rw[pE v x]at z;exact z.1
theorem aP (h:Dz B w gr gs gp vq vv vg vl p c key r 0) (m:EQ X w) (T:r.gone.length<=3000000) {q:Nat}(U:q<p.decls.length):
  Calls prog 109 #[.pointer (some ⟨gr,0,none⟩),.agg (BZ (.cu (q:Int))).toArray] w (IH B X w gr gs gp p c key r (bN p key (.cu (q:Int)) r)):=by
 obtain⟨V,cq,l,al,cl,rfl,q1,Y,q3,hm,G,I,f,Z,t,u⟩:=h.queue U;obtain⟨c0,c3,s1,rl,sl,rf⟩:=zp6 (h.row.cell 0) (h.row.cell 3) (h.st.row.cell 1) h.row.lt h.st.row.lt (h.row.frozen 3);have J:=Aa h.sz;simp at c0 c3 s1;have nr:¬gr=w.heap.size:=by omega
 have ns:¬gs=w.heap.size:=by omega
 have nq:¬V=w.heap.size:=by omega
 have g:bN p key (.cu (q:Int)) r=(if l=[]then .error Ma else .ok (DQ.leaves p.decls q (Bs l).key {r with s:={r.s with q:=r.s.q.set q l.dropLast}})):=by simp only[bN,f,St.bR,As]
 have K:((q:Int)= -1\/Ix p.decls.length (q:Int)):=.inr ⟨by omega,by omega⟩;generalize bN p key (.cu (q:Int)) r=o at*;unfold BZ Dw CR Hc He C3 vs;unfold maxLen at Y;obtain⟨H,i,v⟩:=zq3 h m g;cases l with
 |nil=>
  clear m h g u G f t;go_enter Mw,KU;go_wp2;go_region;go_wp2;go_end0;rw[v.out,Al trivial];have R:=H.out.oP i.out 12;exact R.1.lP i.out R.2 ((zAr.alloc (Ab _) _).drew)
 |cons y L=>
  have x:(y::L)≠ []:=by simp
  obtain⟨n,M⟩:∃n,(y::L).length=n+1:=⟨_,rfl⟩;generalize y::L=l at*;rw[M]at I Z;have z:IntKind.i64.wrap (n:Int)=(n:Int):=CV _ (by omega);have N:=Aa z;have bJ:=Yy;have a:=λW hk hW=>h.ov m (W:=W) hk hW G M;obtain⟨HD,O⟩:=zq2 a x;have E:Ac (λb=>w.heap.size<=b) w (w.alloc (.cells #[.string ⟨Et.toArray⟩,.int .i64 (q:Int),.int .i64 0,.bool false,.string ⟨#[]⟩,.int .i64 0,.string ⟨#[]⟩,.int .i64 0,.string ⟨#[]⟩,.int .i64 0,.int .i64 0,A6,A6,.bool false] 155)).drew.drew:=((Ac.refl _ w).alloc (Ab _) _).drew.drew;have k:AF (w.alloc (.cells #[.string ⟨Et.toArray⟩,.int .i64 (q:Int),.int .i64 0,.bool false,.string ⟨#[]⟩,.int .i64 0,.string ⟨#[]⟩,.int .i64 0,.string ⟨#[]⟩,.int .i64 0,.int .i64 0,A6,A6,.bool false] 155)).drew.drew w.heap.size 155 [.string ⟨Et.toArray⟩,.int .i64 (q:Int),.int .i64 0,.bool false,.string ⟨#[]⟩,.int .i64 0,.string ⟨#[]⟩,.int .i64 0,.string ⟨#[]⟩,.int .i64 0,.int .i64 0,A6,A6,.bool false]:=(AF.new w 155 [.string ⟨Et.toArray⟩,.int .i64 (q:Int),.int .i64 0,.bool false,.string ⟨#[]⟩,.int .i64 0,.string ⟨#[]⟩,.int .i64 0,.string ⟨#[]⟩,.int .i64 0,.int .i64 0,A6,A6,.bool false]).drewN 2;obtain⟨HO,RX,P,KX⟩:=zq4 (a _ E k.lt) k (m.later E) E;clear m h g u G f t x M a E k HD z;go_enter Mw,KU;go_wp2;go_region;go_wp2
  go_region_law (first|(go_simp;go_at_call 44;rw[N.out];refine HO.out.mono ?_;rintro y w2 ⟨rfl,d,bS,A⟩;have k:=RX.out.kept d (λj=>j.2 rfl);have x1:=k.cell 1;simp at x1;have Q:=Aa (O7 A (P.out.kept d (λb j hh=>hh.1.2 j)) K T (Bs l).key);have F:=Aa d;clear d A k)|(go_simp;go_at_call 108;refine Q.out.mono ?_;rintro y w4 ⟨rfl,C,bV,bW,bX,bY,D⟩;have S:=Aa (And.intro C D);clear C D))
  all_goals
   go_wp2;go_end0;rw[v.out,Ai O.out];exact⟨rfl,((KX.out.mono (λb j=>⟨Ad J.out j,λhx=>by have:=i.out.lt hx;omega⟩)).trans (F.out.mono (λb j=>j.1))).trans S.out.1,_,_,_,_,S.out.2⟩
end
def Fd (B:Nat) (X:Nat->Prop) (w:World) (gr gs gp:Nat) (p:Ax) (c:Km) (key:Int) (o:Except Nat DQ) (y:Ending) (w':World):Prop:=
 match o with
 | .ok r'=>YH B X w gr gs gp p c key r' 0 y w'
 | .error k=>∃r',YH B X w gr gs gp p c key r' k y w'
section
variable {B:Nat}{X X':Nat->Prop}{w w1 w':World}{gr gs gp:Nat}{p:Ax}{c:Km}{key:Int}{r2:DQ}{o:Except Nat DQ}{y:Ending}
theorem IH.pr (f:Ac (λb=>B<=b/\¬X b) w w1) (g:∀b,X b->X' b) (h:IH B X' w1 gr gs gp p c key r2 o y w'):Fd B X w gr gs gp p c key o y w':=by
 cases o with
 |ok r'=>exact⟨h.1,f.trans (h.2.1.mono (λb a=>⟨a.1,λd=>a.2 (g b d)⟩)),h.2.2⟩
 |error k=>exact⟨r2,h.1,f.trans (h.2.1.mono (λb a=>⟨a.1,λd=>a.2 (g b d)⟩)),h.2.2⟩
theorem IH.ends (h:IH B X w gr gs gp p c key r2 o y w'):y= .returned (.tuple #[]):=by
 cases o with
 |ok r'=>exact h.1
 |error k=>exact h.1
theorem IH.kept (h:IH B X w gr gs gp p c key r2 o y w'):Ac (λb=>B<=b/\¬X b) w w':=by
 cases o with
 |ok r'=>exact h.2.1
 |error k=>exact h.2.1
theorem IH.cell0 (h:IH B X w gr gs gp p c key r2 o y w'):w'.cell? ⟨gr,0,none⟩=some (.pointer (some ⟨gs,0,none⟩)):=by
 cases o with
 |ok r'=>obtain⟨_,_,_,_,_,_,a⟩:=h;exact a.row.cell 0
 |error k=>obtain⟨_,_,_,_,_,_,a⟩:=h;exact a.row.cell 0
end
section
variable {B:Nat}{w w':World}{gr gs gp:Nat}{vq vv vg:Value}{vl:List Value}{p:Ax}{c:Km}{key:Int}{r:DQ}{e:Nat}{X:Nat->Prop}
theorem aO (h:Dz B w gr gs gp vq vv vg vl p c key r 0) (v:EQ X w) (hg:r.gone.length<=3000000) {q t:Nat}(hq:q<p.decls.length) (ht:t<p.decls.length) (tl:Bool):
  Calls prog 109 #[.pointer (some ⟨gr,0,none⟩),.agg (BZ (.shift (q:Int) (t:Int) tl)).toArray] w (Fd B X w gr gs gp p c key (bN p key (.shift (q:Int) (t:Int) tl) r)):=by
 obtain⟨gq,cq,l,al,cl,rfl,q1,q2,q3,hm,K,L,j,d0,x,z⟩:=h.queue hq;obtain⟨c0,c3,s1,rl,sl,rf⟩:=zp6 (h.row.cell 0) (h.row.cell 3) (h.st.row.cell 1) h.row.lt h.st.row.lt (h.row.frozen 3);have M:=Aa h.sz;simp at c0 c3 s1;have nr:¬gr=w.heap.size:=by omega
 have ns:¬gs=w.heap.size:=by omega
 have nq:¬gq=w.heap.size:=by omega
 have k:bN p key (.shift (q:Int) (t:Int) tl) r=(if l=[]then .error Ma else JK p.decls (Bs l) q t tl {r with s:={r.s with q:=r.s.q.set q l.dropLast}}):=by simp only[bN,j,St.bR,As]
 have N:((q:Int)= -1\/Ix p.decls.length (q:Int)):=.inr ⟨by omega,by omega⟩;generalize bN p key (.shift (q:Int) (t:Int) tl) r=o at*;unfold BZ Dw CR Hc He C3 vs;unfold maxLen at q2;obtain⟨H,m,A⟩:=zq3 h v k;cases l with
 |nil=>
  clear v h k z K j x;go_enter Mw,KU;go_wp2;go_region;go_wp2;go_end0;rw[A.out,Al trivial];have V:=H.out.oP m.out 12;exact⟨_,V.1.lP m.out V.2 ((zAr.alloc (Ab _) _).drew)⟩
 |cons y O=>
  have C:(y::O)≠ []:=by simp
  obtain⟨n,P⟩:∃n,(y::O).length=n+1:=⟨_,rfl⟩;generalize y::O=l at*;rw[P]at L d0;have D:IntKind.i64.wrap (n:Int)=(n:Int):=CV _ (by omega);have Q:=Aa D;have bQ:=Yy;have a:=λW hk hW=>h.ov v (W:=W) hk hW K P;obtain⟨HD,R⟩:=zq2 a C;have E:Ac (λb=>w.heap.size<=b) w (w.alloc (.cells #[.string ⟨Dq.toArray⟩,.int .i64 (q:Int),.int .i64 (t:Int),.bool tl,.string ⟨#[]⟩,.int .i64 0,.string ⟨#[]⟩,.int .i64 0,.string ⟨#[]⟩,.int .i64 0,.int .i64 0,A6,A6,.bool false] 155)).drew.drew:=((Ac.refl _ w).alloc (Ab _) _).drew.drew;have f:AF (w.alloc (.cells #[.string ⟨Dq.toArray⟩,.int .i64 (q:Int),.int .i64 (t:Int),.bool tl,.string ⟨#[]⟩,.int .i64 0,.string ⟨#[]⟩,.int .i64 0,.string ⟨#[]⟩,.int .i64 0,.int .i64 0,A6,A6,.bool false] 155)).drew.drew w.heap.size 155 [.string ⟨Dq.toArray⟩,.int .i64 (q:Int),.int .i64 (t:Int),.bool tl,.string ⟨#[]⟩,.int .i64 0,.string ⟨#[]⟩,.int .i64 0,.string ⟨#[]⟩,.int .i64 0,.int .i64 0,A6,A6,.bool false]:=(AF.new w 155 [.string ⟨Dq.toArray⟩,.int .i64 (q:Int),.int .i64 (t:Int),.bool tl,.string ⟨#[]⟩,.int .i64 0,.string ⟨#[]⟩,.int .i64 0,.string ⟨#[]⟩,.int .i64 0,.int .i64 0,A6,A6,.bool false]).drewN 2;obtain⟨HO,J,G0,S,KX⟩:=zq5 (a _ E f.lt) f ((h.later E).row.cell 0) (v.later E) E;clear v h k z K j x C P a E f HD D;go_enter Mw,KU;go_wp2;go_region;go_wp2;obtain⟨g1,g2,g3,g0⟩:=zp4 (J.out.cell 1) (J.out.cell 2) (J.out.cell 3) G0.out;simp only[BM,AJ]at g1 g2 g3
  go_region_held3 (λw'=>w'.cell? ⟨w.heap.size,1,none⟩=some (.int .i64 (q:Int))/\w'.cell? ⟨w.heap.size,2,none⟩=some (.int .i64 (t:Int))/\w'.cell? ⟨w.heap.size,3,none⟩=some (.bool tl)/\w'.cell? ⟨gr,0,none⟩=some (.pointer (some ⟨gs,0,none⟩)))
   ((repeat' apply And.intro)<;>assumption)
   (first
    |(go_at_call 44;rw[Q.out];refine HO.out.mono ?_;rintro y Y ⟨rfl,g,ci,u⟩;have f:=J.out.kept g (λd=>d.2 rfl);have x1:=f.cell 1;have x2:=f.cell 2;have x3:=f.cell 3;have x0:Y.cell? ⟨gr,0,none⟩=some (.pointer (some ⟨gs,0,none⟩)):=u.row.cell 0;simp only[BM,AJ]at x1 x2 x3;have G:EQ (λb=>X b\/b=w.heap.size) Y:=(λb d=>d.elim (λh1=>S.out.kept g (λb d hh=>hh.1.2 d) b h1) (λe=>e▸⟨_,f⟩));have T:=Aa (QG u G N ht hg (Bs l) tl);have U:=Aa f;have F:=Aa g;clear g u f G)
    |(go_at_call 107;refine T.out.mono ?_;intro y w4 I;obtain rfl:=IH.ends I;have Z:=IH.kept I;have i:=U.out.kept Z (λd=>d.2 (.inr rfl));have y1:=i.cell 1;have y2:=i.cell 2;have y3:=i.cell 3;have y0:=IH.cell0 I;simp only[BM,AJ]at y1 y2 y3;have F4:=Aa I;clear I Z i))
  all_goals
   go_wp2;go_end0;rw[A.out,Ai R.out];exact IH.pr ((KX.out.mono (λb d=>⟨Ad M.out d,λhx=>by have:=m.out.lt hx;omega⟩)).trans (F.out.mono (λb d=>d.1))) (λb d=>.inl d) F4.out
end
theorem SC {p:Ax}{key:Int}:∀(x t:Az) (r:DQ),exec p key (x.app t) r=(match exec p key x r with| .ok r1=>exec p key t r1| .error e=>.error e)
 | .nil,t,r=>rfl
 | .bN y b,t,r=>by
  show exec p key (.bN y (b.app t)) r=_;rw[exec,exec];cases bN p key y r with
  |ok r1=>exact SC b t r1
  |error e=>rfl
 | .ite c a o e1 b,t,r=>by
  show exec p key (.ite c a o e1 (b.app t)) r=_;rw[exec,exec];cases (if BF p.decls key r.s c then exec p key a r else if o then exec p key e1 r else .ok r)with
  |ok r1=>exact SC b t r1
  |error e=>rfl
 | .rep n c x b,t,r=>by
  show exec p key (.rep n c x (b.app t)) r=_;rw[exec,exec];cases Gt (λs=>BF p.decls key s c) (exec p key x) n.toNat r with
  |ok r1=>exact SC b t r1
  |error e=>rfl
theorem Pf:∀(x t:Az),(x.app t).bY=x.bY+t.bY
 | .nil,t=>by simp[Az.app,Az.bY]
 | .bN y b,t=>by simp only[Az.app,Az.bY,Pf b t];omega
 | .ite c a o e1 b,t=>by simp only[Az.app,Az.bY,Pf b t];omega
 | .rep n c x b,t=>by simp only[Az.app,Az.bY,Pf b t];omega
theorem Kc:∀(b r:Az),(b.app r).Form->b.Form/\r.Form
 | .nil,r,h=>⟨trivial,h⟩
 | .bN p x,r,h=>Kc x r h
 | .ite c t o e x,r,⟨d,a,f,g⟩=>⟨⟨d,a,(Kc x r f).1,g⟩,(Kc x r f).2⟩
 | .rep n c b x,r,⟨d,a⟩=>⟨⟨d,(Kc x r a).1⟩,(Kc x r a).2⟩
theorem GI.exec {p:Ax}{key:Int}{b:Az}{r r':DQ}(h:GI p r.s) (a:Em p) (d:MN p.decls b) (e:exec p key b r= .ok r'):GI p r'.s:=
 Hm (λr=>GI p r.s) (λx r r' f g e=>g.bN a f e) b r r' d h e
def Aba (cs:List Value):Prop:=∃(k:Ah) (n m:Int) (t:Bool) (a:Ah) (d:Int) (f:Ah) (g:Int) (h:Ah) (i:Int) (j:Int) (l:Option Addr) (n1 q:Nat) (s:Option Addr) (u c2:Nat) (o:Bool),
 cs=[vs k,.int .i64 n,.int .i64 m,.bool t,vs a,.int .i64 d,vs f,.int .i64 g,vs h,.int .i64 i,.int .i64 j,.slice l n1 q,.slice s u c2,.bool o]
theorem Lf (c:CK):∃d n1 f n3,IQ c=[vs d,.int .i64 n1,vs f,.int .i64 n3]:=by
 cases c with
 |less a b=>exact⟨_,_,_,_,rfl⟩
 |_=>exact⟨_,_,_,_,rfl⟩
theorem m9.fM {N:Nat->Prop}{w:World}{v:Value}{n:Nat}{cs:List Value}(h:m9 N w v n cs):∃a c,v= .slice a n c:=h.cB
theorem AN.part {N:Nat->Prop}{w:World}:∀(b:Az) (cs:List Value),b≠.nil->AN N w b cs->∃x tl d j,b=x.app tl/\x.length=1/\cs=d++j/\Aba d/\AN N w x d/\AN N w tl j/\b.length=tl.length+1/\x.size+tl.size=b.size
 | .nil,cs,h,_=>absurd rfl h
 | .bN p r,cs,_,⟨rest,l,z⟩=>
  ⟨.bN p .nil,r,BZ p,rest,rfl,rfl,l,⟨_,_,_,_,_,_,_,_,_,_,_,_,_,_,_,_,_,_,rfl⟩,⟨[],by simp,rfl⟩,z,by simp[Az.length],by simp[Az.size]⟩
 | .ite c t o e r,cs,_,⟨m,ve,rest,l,q,s,u⟩=>by
  obtain⟨A,f,_⟩:=id q;obtain⟨C,D,g⟩:=f.fM;have i:∃a n c,ve= .slice a n c:=by
   cases o with
   |true=>
    rw[Al rfl]at s;obtain⟨H,v,_⟩:=s;obtain⟨E,c2,h⟩:=v.fM;exact⟨_,_,_,h⟩
   |false=>
    rw[Ai A0]at s;exact⟨none,0,0,s.1⟩
  obtain⟨E,I,c2,i⟩:=i;obtain⟨F,n1,G,n3,y⟩:=Lf c.k;refine⟨.ite c t o e .nil,r,JE c m o ve,rest,rfl,rfl,l,?_,⟨m,ve,[],by simp,q,s,rfl⟩,u,by simp[Az.length],by simp[Az.size];try omega⟩;unfold JE Di;rw[y,g,i];exact⟨_,_,_,_,_,_,_,_,_,_,_,_,_,_,_,_,_,_,rfl⟩
 | .rep n c b r,cs,_,⟨m,rest,l,q,u⟩=>by obtain⟨A,f,_⟩:=id q;obtain⟨C,D,g⟩:=f.fM;obtain⟨F,n1,G,n3,y⟩:=Lf c.k;refine⟨.rep n c b .nil,r,Ie n c m,rest,rfl,rfl,l,?_,⟨m,[],by simp,q,rfl⟩,u,by simp[Az.length],by simp[Az.size];try omega⟩;unfold Ie Di;rw[y,g];exact⟨_,_,_,_,_,_,_,_,_,_,_,_,_,_,_,_,_,_,rfl⟩
def ZB (m:Nat):Prop:=∀(B:Nat) (X:Nat->Prop) (w:World) (gr gs gp:Nat) (a d f:Value) (g:List Value) (p:Ax) (c:Km) (key:Int) (r:DQ) (x:Az) (cs:List Value),
 Dz B w gr gs gp a d f g p c key r 0->EQ X w->GI p r.s->x.length=1->x.size<=m->Ed p.decls x->x.Form->AN (λb=>b<B) w x cs->r.gone.length+x.bY<=2000000->
  Calls prog 67 #[.pointer (some ⟨gr,0,none⟩),.agg cs.toArray] w (Fd B X w gr gs gp p c key (exec p key x r))
def SZ (m:Nat):Prop:=∀(B:Nat) (X:Nat->Prop) (w:World) (gr gs gp:Nat) (a d f:Value) (g:List Value) (p:Ax) (c:Km) (key:Int) (r:DQ) (b:Az) (v:Value),
 Dz B w gr gs gp a d f g p c key r 0->EQ X w->GI p r.s->b.size<=m->Ed p.decls b->b.Form->Ct (λb=>b<B) w v b->r.gone.length+b.bY<=2000000->
  Calls prog 41 #[.pointer (some ⟨gr,0,none⟩),v] w (Fd B X w gr gs gp p c key (exec p key b r))
structure WB (B:Nat) (X:Nat->Prop) (w0:World) (gr gs gp:Nat) (p:Ax) (c:Km) (key:Int) (b:Az) (cs:List Value) (o:Except Nat DQ) (k:Nat) (wr:World) (rest:Az) (be bI:List Value) (r:DQ) (e:Nat):Prop where
 cs:cs=be++bI
 mz:be.length=k*14
 k:k+rest.length=b.length
 sz:rest.size<=b.size
 w:Ed p.decls rest
 form:rest.Form
 nz:AN (λb=>b<B) w0 rest bI
 kept:Ac (λb=>B<=b/\¬X b) w0 wr
 run:∃vq vv vg vl,Dz B wr gr gs gp vq vv vg vl p c key r e
 so:if e=0 then o=exec p key rest r/\GI p r.s/\r.gone.length+rest.bY<=2000000 else o= .error e
section
variable {B:Nat}{X:Nat->Prop}{w0 wr:World}{gr gs gp k:Nat}{p:Ax}{c:Km}{key:Int}{b rest:Az}{cs be bI:List Value}{o:Except Nat DQ}{r:DQ}{e:Nat}
theorem WB.next {g f:Nat}(h:WB B X w0 gr gs gp p c key b cs o k wr rest be bI r e) (i:m9 (λb=>b<B) w0 (.slice (some ⟨g,0,none⟩) b.length f) b.length cs) (E:k<b.length):
  ∃x tl a d,rest=x.app tl/\x.length=1/\bI=a++d/\Aba a/\AN (λb=>b<B) w0 x a/\AN (λb=>b<B) w0 tl d/\rest.length=tl.length+1/\x.size+tl.size=rest.size/\
   (∀j,j<14->wr.cell? ⟨g,k*14+j,none⟩=a[j]?)/\g<wr.heap.size:=by
 have l:rest≠.nil:=by rintro rfl;have:=h.k;simp[Az.length]at this;omega
 obtain⟨x,tl,a,d,e1,s,m,n,t,u,v,w⟩:=AN.part rest bI l h.nz;have q:a.length=14:=by obtain⟨_,_,_,_,_,_,_,_,_,_,_,_,_,_,_,_,_,_,rfl⟩:=n;rfl
 refine⟨x,tl,a,d,e1,s,m,n,t,u,v,w,λj F=>?_,An (i.lt rfl) h.kept.size⟩;have y:k*14+j<b.length*14:=by omega
 have z:=i.1.cellAt _ y;have A:cs[k*14+j]?=a[j]?:=by rw[h.cs,m,BG (by rw[h.mz];omega),h.mz,B7,AX (by omega)]
 have C:g<B:=i.2 g rfl;exact((h.kept.cell (p:=⟨g,k*14+j,none⟩) (λD=>by have:=D.1;simp only at this;omega)).trans z).trans A
theorem WB.step {x tl:Az}{d f:List Value}{y:Ending}{w':World}(h:WB B X w0 gr gs gp p c key b cs o k wr rest be bI r 0) (D:Em p) (e1:rest=x.app tl) (v:bI=d++f) (z:d.length=14) (A:AN (λb=>b<B) w0 tl f)
  (H:rest.length=tl.length+1) (I:x.size+tl.size=rest.size) (m:Fd B X wr gr gs gp p c key (exec p key x r) y w'):
  y= .returned (.tuple #[])/\∃r' e',WB B X w0 gr gs gp p c key b cs o (k+1) w' tl (be++d) f r' e':=by
 have g:=h.so;rw[Al rfl]at g;obtain⟨i,E,F⟩:=g;have C:=h.w;have hF:=h.form;rw[e1]at C hF;obtain⟨n,j⟩:=(Ow x tl).1 C;obtain⟨q,l⟩:=Kc x tl hF;rw[e1,SC]at i;rw[e1,Pf]at F;have J:=h.k;have G:=h.sz;cases a:exec p key x r with
 |ok r1=>
  rw[a]at m i;obtain⟨s,t,u⟩:=m;have K:=EE x r r1 a;refine⟨s,r1,0,by rw[h.cs,v,AL],by rw[Ao,h.mz,z];omega,by omega,by omega,j,l,A,h.kept.trans t,u,?_⟩;rw[Al rfl];exact⟨i,E.exec D (Ed.ok x n q) a,by omega⟩
 |error e=>
  rw[a]at m i;obtain⟨r1,s,t,u⟩:=m;have L:=SB a;refine⟨s,r1,e,by rw[h.cs,v,AL],by rw[Ao,h.mz,z];omega,by omega,by omega,j,l,A,h.kept.trans t,u,?_⟩;rw[Ai (by omega)];exact i
end
theorem Fd.after {B:Nat}{X:Nat->Prop}{w w1 w':World}{gr gs gp:Nat}{p:Ax}{c:Km}{key:Int}{o:Except Nat DQ}{y:Ending}(a:Ac (λb=>B<=b/\¬X b) w w1) (h:Fd B X w1 gr gs gp p c key o y w'):Fd B X w gr gs gp p c key o y w':=by
 cases o with
 |ok r'=>exact⟨h.1,a.trans h.2.1,h.2.2⟩
 |error k=>
  obtain⟨r',d,f,g⟩:=h;exact⟨r',d,a.trans f,g⟩
theorem VG {m:Nat}(I:ZB m):SZ m:=by
 intro B X w gr gs gp vq vv vg vl p c key r b v h hX J K hW hF u U;obtain⟨cs,R,q⟩:=u;obtain⟨a,dV,rfl⟩:=R.cB;have hp:=h.pw;have dW:b.length<=9223372036854775807:=by
  rcases Nat.eq_zero_or_pos b.length with h0|h0
  ·omega
  ·obtain⟨_,_,_,_,h1,S,_⟩:=R.form h0;unfold maxLen at S;omega
 generalize ho:exec p key b r=o;have L:WB B X w gr gs gp p c key b cs o 0 w b [] cs r 0:=⟨by simp,by simp,by omega,Ab _,hW,hF,q,Ac.refl _ _,⟨_,_,_,_,h⟩,by rw[Al rfl];exact⟨ho.symm,J,U⟩⟩;obtain⟨V,W,M,Y,Z,HP,HB⟩:=zq7 I hX R L K hp h.sz;clear I h hX J K hW hF R L q hp ho U;go_enter func41,ntmps41;go_wp2_with fail
 go_loopg [8] b.length (λbJ s8 wr=>∃k rest be bI r1 e1,k<=b.length/\b.length-k<=bJ/\s8= .int .i64 (k:Nat)/\WB B X w gr gs gp p c key b cs o k wr rest be bI r1 e1)
 case atStart=>exact⟨0,b,[],cs,r,0,AM _,by omega,rfl,Y.out⟩
 case round=>
  obtain⟨k,rest,be,bI,r1,e1,fd,U,rfl,z⟩:=hrel;obtain⟨vq,vv,vg,vl,E⟩:=z.run;have f3:=E.row.cell 3;have fl:=E.row.lt;simp at f3;by_cases bK:k<b.length
  ·obtain⟨g,dK,ec,_⟩:=M.out.form (by omega);injection ec with ea _ ec;subst ea ec;obtain⟨x,tl,bM,fy,q1,q2,q3,q4,q5,q6,q7,q8,f,fB⟩:=z.next M.out bK;have s:bM.length=14:=by obtain⟨_,_,_,_,_,_,_,_,_,_,_,_,_,_,_,_,_,_,rfl⟩:=id q4;rfl
   have j:=Aa (And.intro q1 (And.intro q2 (And.intro q3 (And.intro s (And.intro q5 (And.intro q6 (And.intro q7 q8)))))));obtain⟨k_,n_,m_,t_,bO,bP,bQ,bR,bS,bT,bU,bV,bW,bX,bY,bZ,ci,o_,rfl⟩:=q4;have x0:=f 0 (by omega);have x1:=f 1 (by omega);have x2:=f 2 (by omega);have x3:=f 3 (by omega);have x4:=f 4 (by omega);have x5:=f 5 (by omega);have x6:=f 6 (by omega);have x7:=f 7 (by omega);have x8:=f 8 (by omega);have x9:=f 9 (by omega);have cj:=f 10 (by omega);have cu:=f 11 (by omega);have cw:=f 12 (by omega);have cy:=f 13 (by omega);have nr:¬gr=wr.heap.size:=by omega
   obtain⟨i,G⟩:=zq2 z E;clear z E f q1 q2 q3 q5 q6 q7 q8 s;unfold vs at*;simp only[BM,AJ,Mx]at x0 x1 x2 x3 x4 x5 x6 x7 x8 x9 cj cu cw cy;by_cases H:e1=0
   ·subst H;go_wp2_with fail;have T:Ac (λb=>wr.heap.size<=b) wr (wr.alloc (.cells #[.string ⟨k_.toArray⟩,.int .i64 n_,.int .i64 m_,.bool t_,.string ⟨bO.toArray⟩,.int .i64 bP,.string ⟨bQ.toArray⟩,.int .i64 bR,.string ⟨bS.toArray⟩,.int .i64 bT,.int .i64 bU,.slice bV bW bX,.slice bY bZ ci,.bool o_] 155)):=(Ac.refl _ wr).alloc (Ab _) _;have l:EQ X wr:=W.out.kept i.out.kept (λb u N=>N.2 u);have A:Ac (λb=>B<=b/\¬X b) wr _:=T.mono (λb u=>⟨Ad G.out.sz u,λhx=>by have:=l.lt hx;omega⟩);have d:=i.out.so;rw[Al rfl]at d;have C:=i.out.w;have D:=i.out.form;rw[j.out.1]at C D;have O:=d.2.2;rw[j.out.1,Pf]at O;refine(V.out B X _ gr gs gp vq vv vg vl p c key r1 x _ (G.out.later T) (l.later T) d.2.1 j.out.2.1 (by have:=i.out.sz;have:=j.out.2.2.2.2.2.2.2;have:=Z.out;omega) ((Ow x tl).1 C).1 (Kc x tl D).1
     (AN.kept (λk cs hk _=>(i.out.kept.trans A).block k (λN=>by have:=N.1;omega)) _ _ j.out.2.2.2.2.1) (by omega)).mono ?_
    intro y w2 S;obtain⟨rfl,r',e',P⟩:=i.out.step HP.out j.out.1 j.out.2.2.1 j.out.2.2.2.1 j.out.2.2.2.2.2.1 j.out.2.2.2.2.2.2.1 j.out.2.2.2.2.2.2.2 (S.after A);have F:=Aa P;clear T l A d C D O S P;go_wp2;go_roundg (b.length-(k+1))
    case measure=>omega
    case rel=>exact⟨k+1,_,_,_,_,_,by omega,by omega,by go_num,F.out⟩
   ·have e2:((e1:Int)==0)=false:=by simp;omega
    have e3:decide ((e1:Int)=0)=false:=by simp;omega
    have E0:=Aa H;clear H;go_wp2;go_end0;have d:=i.out.so;rw[Ai E0.out]at d;rw[d];have l:EQ X wr:=W.out.kept i.out.kept (λb u N=>N.2 u);exact⟨r1,G.out.lP W.out i.out.kept ((Ac.refl _ wr).alloc (Ab _) _)⟩
  ·have Q:rest= .nil:=by
    have:=z.k;cases rest with
    |nil=>rfl
    |bN p r=>simp[Az.length]at this;omega
    |ite c t o e r=>simp[Az.length]at this;omega
    |rep n c b r=>simp[Az.length]at this;omega
   subst Q;obtain⟨i,G⟩:=zq2 z E;clear z E;go_wp2;go_end0;have d:=i.out.so;by_cases H:e1=0
   ·subst H;rw[Al rfl]at d;rw[d.1];exact⟨rfl,i.out.kept,_,_,_,_,G.out⟩
   ·rw[Ai H]at d;rw[d];exact⟨r1,rfl,i.out.kept,_,_,_,_,G.out⟩
section
variable {B:Nat}{w w':World}{gr gs gp:Nat}{vq vv vg:Value}{vl:List Value}{p:Ax}{c:Km}{key:Int}{r:DQ}{e:Nat}{X:Nat->Prop}
theorem Dz.ny (h:Dz B w gr gs gp vq vv vg vl p c key r e):∀W,Ac (λb=>w.heap.size<=b) w W->Calls prog 39 #[.pointer (some ⟨gs,0,none⟩),.int .u64 key] W λe w'=>e= .returned (FI (r.s.find key))/\Ac (λb=>W.heap.size<=b) W w':=
 λW a=>NQ (h.later a).st h.qb key
theorem Dz.dN (h:Dz B w gr gs gp vq vv vg vl p c key r e) (k:EQ X w) {W:World}(m:Ac (λb=>w.heap.size<=b) w W) {q i:Nat}{l:List Gp}(z:r.s.q[q]?=some l) (A:i<l.length):
  Calls prog 44 #[.pointer (some ⟨gs,0,none⟩),.int .i64 q,.int .i64 i] W λy n=>y= .returned (.agg #[.int .u64 (Bm l i).key,.int .i64 (Bm l i).bI])/\
   Ac (λb=>(B<=b/\¬X b)/\¬(w.heap.size<=b/\b<W.heap.size)) W n/\∃d,∀w3,Ac (λb=>w.heap.size<=b/\b<W.heap.size) n w3->Dz B w3 gr gs gp vq vv vg d p c key {r with s:=r.s.out q i} e:=by
 have j:=h.later m;have o:Ew (λb=>(((B<=b/\b≠gr)/\vg.ownBlock≠some b)/\¬X b)/\¬(w.heap.size<=b/\b<W.heap.size)) W gs gp vq vv r.s c vl:=((h.apart.jk k).mono (S':=λb=>(((B<=b/\b≠gr)/\vg.ownBlock≠some b)/\¬X b)/\¬(w.heap.size<=b/\b<W.heap.size)) (λb a C=>⟨C,by omega⟩)).later m;have t:Up (λb=>(((B<=b/\b≠gr)/\vg.ownBlock≠some b)/\¬X b)/\¬(w.heap.size<=b/\b<W.heap.size)) W:=λb a=>⟨⟨j.jF b a,λu=>by have:=k.lt u;have:=m.size;omega⟩,λe=>by omega⟩;have D:=VC o t j.qb z A;refine D.mono ?_;rintro y n ⟨rfl,f,d,v⟩;refine⟨rfl,f.mono (λb a=>⟨⟨a.1.1.1.1,a.1.2⟩,a.2⟩),d,λw3 g=>?_⟩;have x:=v.kept g (λb a _ E=>a.2 E);have F:=h.sz;have G:=h.row.lt;exact(j.dS (X:=λb=>X b) ((f.mono (λb a=>a.1)).trans (g.mono (λb a=>⟨⟨⟨by omega,by omega⟩,λe=>by have:=h.gone.lt e;omega⟩,λu=>by have:=k.lt u;omega⟩))) (x.mono (λb _ a=>a.1.1)) (j.gi.out q i)).1
structure jz (B:Nat) (X:Nat->Prop) (w:World) (gr gs gp:Nat) (vq vv vg:Value) (vl:List Value) (p:Ax) (c:Km) (key:Int) (r:DQ) (cs:List Value) (wx:World):Prop where
 run:Dz B wx gr gs gp vq vv vg vl p c key r 0
 box:AF wx w.heap.size 155 cs
 dO:EQ (λb=>X b\/b=w.heap.size) wx
 kept:Ac (λb=>B<=b/\¬X b) w wx
theorem jz.of (h:Dz B w gr gs gp vq vv vg vl p c key r 0) (g:EQ X w) {cs:List Value}{d:World}(i:Ac (λb=>w.heap.size+1<=b) (w.alloc (.cells cs.toArray 155)) d):jz B X w gr gs gp vq vv vg vl p c key r cs d:=by have f:Ac (λb=>w.heap.size<=b) w d:=((Ac.refl _ w).alloc (Ab _) _).trans (i.mono (λb a=>by omega));have j:=(AF.new w 155 cs).kept i (by omega);exact⟨h.later f,j,λb a=>a.elim (λk=>g.later f b k) (λe=>e▸⟨cs,j⟩),f.mono (λb a=>⟨Ad h.sz a,λl=>by have:=g.lt l;omega⟩)⟩
theorem jz.fin {cs:List Value}{g:World}{o:Except Nat DQ}{y:Ending}(h:jz B X w gr gs gp vq vv vg vl p c key r cs g) (d:Fd B (λb=>X b\/b=w.heap.size) g gr gs gp p c key o y w'):Fd B X w gr gs gp p c key o y w':=by
 cases o with
 |ok r'=>exact⟨d.1,h.kept.trans (d.2.1.mono (λb a=>⟨a.1,λf=>a.2 (.inl f)⟩)),d.2.2⟩
 |error k=>
  obtain⟨r',i,j,l⟩:=d;exact⟨r',i,h.kept.trans (j.mono (λb a=>⟨a.1,λf=>a.2 (.inl f)⟩)),l⟩
end
end Go.Proofs.YtodkkholbjeioaaGreatDoor.Ev
