/- Lemmas for a law's walk. Conditions: none. -/
import Derived.Test.YtodkkholbjeioaaGreatDoorZu04
import Derived.Test.YtodkkholbjeioaaGreatDoorZu05
set_option linter.all false
set_option maxRecDepth 100000
set_option maxHeartbeats 8000000
namespace Go.Proofs.YtodkkholbjeioaaGreatDoor.Ev
open _root_.Go.Proofs.Tryz
open Go Go.RowKit
def Dx (d:Bi):List Value:=[.int .i64 d.kind,vs d.name,.int .i64 d.max]
def LJ (k:Nat):Nat:=
 if k=1 then 0 else if k=2 then 6 else if k=3 then 7 else if k=4 then 8 else if k=5 then 9 else if k=6 then 10
 else if k=7 then 11 else if k=8 then 12 else if k=9 then 13 else if k=10 then 1 else if k=11 then 4 else 5
def Ds (ea:Nat->Addr) (k:Nat):Value:=.iface 304 (.pointer (some (ea k)))
structure U6 (B:Nat) (ea:Nat->Addr) (w:World):Prop where
 size:B<=w.heap.size
 err:∀k,1<=k->k<=12->w.cell? ⟨LJ k,0,none⟩=some (Ds ea k)
 lt:∀k,1<=k->k<=12->LJ k<B
 kw:∀j,j<24->w.cell? ⟨14,j,none⟩=some (vs (A3.getD j []))
 pD:14<B
def IY (B:Nat) (ea:Nat->Addr) (w:World) (a:Value):Option (Nat×Nat)->Prop
 |none=>a= .pointer none
 |some (k,pos)=>∃gf,a= .pointer (some ⟨gf,0,none⟩)/\B<=gf/\AF w gf 129 [Ds ea k,.int .i64 pos]
def FT (N:Nat->Prop) (w:World) (b:Nat) (a:List (Int×Az)):Prop:=
 ∃M:G5,BR w b .i64 M/\M.map (·.1)=a.map (·.1)/\∀(i:Nat) (x:Int×Value) (y:Int×Az),M[i]?=some x->a[i]?=some y->DG N w x.2 y.2
structure sF (B:Nat) (w:World) (gp bm:Nat) (vd:Value) (p:Ax):Prop where
 row:AF w gp 106 [vd,.int .i64 p.bI,.map (some bm)]
 decls:Sl (λb=>B<=b) w 102 3 vd p.decls.length (p.decls.flatMap Dx)
 rules:FT (λb=>B<=b) w bm p.rules
 jo:B<=gp
 nD:B<=bm
def O6 (c:Nat) (b:Az):List Gm:=BP c 0 b++[.fin]
def WA (S:Nat->Prop) (w:World) (a:List (Int×Az)) (d:Nat) (k:Int) (v:Value):Prop:=
 ∃b c,Bj a k=some b/\Sl S w 172 3 v (O6 c b).length ((O6 c b).flatMap Cz)/\c+b.loops<=d
structure Uq (S:Nat->Prop) (w:World) (gg gp bc loops:Nat) (rules:List (Int×Az)):Prop where
 row:AF w gg 75 [.pointer (some ⟨gp,0,none⟩),.map (some bc),.int .i64 loops]
 map:∃M:G5,BR w bc .i64 M/\∀k,match Bj rules k with
  |some _=>∃v,FX M k=some v/\WA S w rules loops k v
  |none=>FX M k=none
 lo:loops<=490000
 sg:S gg
 sm:S bc
end Go.Proofs.YtodkkholbjeioaaGreatDoor.Ev
namespace Go.Proofs.YtodkkholbjeioaaGreatDoor.Ev
open _root_.Go.Proofs.Tryz
def LQ (nd:Nat->Node):Nat->List Nat->Nat->Prop
 |_,[],_=>True
 |p,x::r,s=>(nd x).prev=p/\(nd x).next=r.headD s/\LQ nd x r s
theorem LQ.congr {nd d:Nat->Node}:∀{l:List Nat}{p s:Nat},(∀m∈l,(d m).prev=(nd m).prev/\(d m).next=(nd m).next)->LQ nd p l s->LQ d p l s
 | [],_,_,_,_=>trivial
 |x::r,p,s,h,⟨a,b,c⟩=>⟨(h x (by simp)).1.trans a,(h x (by simp)).2.trans b,LQ.congr (λm e=>h m (by simp[e])) c⟩
theorem N3 (a b:List Nat) (s:Nat):(a++b).headD s=a.headD (b.headD s):=by cases a<;>simp
theorem JB (x:Nat) (r:List Nat) (p:Nat):(x::r).getLastD p=r.getLastD x:=by
 cases r with
 |nil=>rfl
 |cons y r=>rfl
theorem LQ.append {nd:Nat->Node}:∀{a b:List Nat}{p s:Nat},LQ nd p (a++b) s↔LQ nd p a (b.headD s)/\LQ nd (a.getLastD p) b s
 | [],b,p,s=>by simp[LQ]
 |x::r,b,p,s=>by rw[JB];simp only[Bz,LQ,N3,LQ.append (a:=r) (b:=b),and_assoc]
theorem LQ.je {nd b:Nat->Node}{a s s':Nat}:∀{l:List Nat}{p:Nat},(∀m,m≠a->b m=nd m)->(b a).prev=(nd a).prev->(b a).next=s'->(l++[a]).Nodup->
  LQ nd p (l++[a]) s->LQ b p (l++[a]) s'
 | [],p,c,d,f,_,⟨x,_,_⟩=>⟨d.trans x,f,trivial⟩
 |x::r,p,c,d,f,i,h=>by
  have j:x≠a:=by rintro rfl;simp at i
  obtain⟨k,n,o⟩:=h;have g:(r++[a]).Nodup:=(BC.1 i).2;have e:(r++[a]).headD s'=(r++[a]).headD s:=by cases r<;>simp
  exact⟨by rw[c x j];exact k,by rw[c x j];exact n.trans e.symm,LQ.je c d f g o⟩
theorem LQ.lS {nd a:Nat->Node}{b p c s:Nat}{r:List Nat}(d:∀m,m≠b->a m=nd m) (f:(a b).prev=c) (g:(a b).next=(nd b).next) (i:b∉r) (h:LQ nd p (b::r) s):LQ a c (b::r) s:=by obtain⟨_,j,k⟩:=h;exact⟨f,g.trans j,LQ.congr (λm l=>by rw[d m (λe=>i (e▸l))];exact⟨rfl,rfl⟩) k⟩
section
variable {A:Am}
theorem DI {a:Nat}(h:a<A.l.length) (x:Node) (m:Nat):(A.setNode a x).node m=if m=a then x else A.node m:=by
 unfold Am.setNode Am.node;simp only[Bk];by_cases e:m=a
 ·subst e;simp[h]
 ·rw[Ai (λh=>e h.symm),Ai e]
theorem BN {a:Nat}(h:a<A.qs.length) (x:Qi) (m:Nat):(A.bL a x).ends m=if m=a then x else A.ends m:=by
 unfold Am.bL Am.ends;simp only[Bk];by_cases e:m=a
 ·subst e;simp[h]
 ·rw[Ai (λh=>e h.symm),Ai e]
theorem I6 (a:Nat) (x:Node):(A.setNode a x).l.length=A.l.length:=by simp[Am.setNode]
theorem LD (a:Nat) (x:Qi):(A.bL a x).qs.length=A.qs.length:=by simp[Am.bL]
structure Am.Bd (A:Am):Prop where
 node:∀(n:Nat) (x:Node),A.l[n]?=some x->x.prev<A.l.length/\x.next<A.l.length/\x.q<=A.qs.length/\0<=x.bI/\x.bI<=1000
 ends:∀(q:Nat) (x:Qi),A.qs[q]?=some x->x.head<A.l.length/\x.tail<A.l.length/\x.n<=1000000
theorem Am.Bd.at_ (h:A.Bd) {n:Nat}(a:n<A.l.length):(A.node n).prev<A.l.length/\(A.node n).next<A.l.length/\(A.node n).q<=A.qs.length/\0<=(A.node n).bI/\(A.node n).bI<=1000:=
 h.node n _ (by unfold Am.node;rw[Ae a];rfl)
theorem Am.Bd.jG (h:A.Bd) {n:Nat}(a:n<A.qs.length):(A.ends n).head<A.l.length/\(A.ends n).tail<A.l.length/\(A.ends n).n<=1000000:=
 h.ends n _ (by unfold Am.ends;rw[Ae a];rfl)
theorem Am.Bd.setNode (h:A.Bd) (a:Nat) (x:Node) (d:x.prev<A.l.length/\x.next<A.l.length/\x.q<=A.qs.length/\0<=x.bI/\x.bI<=1000):(A.setNode a x).Bd:=by
 refine⟨λn y c=>?_,λq y c=>?_⟩
 ·rw[I6];have b:(A.l.set a x)[n]?=some y:=c;rw[Bk]at b;split at b
  ·split at b
   ·injection b with b;subst b;exact d
   ·cases b
  ·exact h.node n y b
 ·rw[I6];exact h.ends q y c
theorem Am.Bd.bL (h:A.Bd) (a:Nat) (x:Qi) (d:x.head<A.l.length/\x.tail<A.l.length/\x.n<=1000000):(A.bL a x).Bd:=by
 refine⟨λn y c=>?_,λq y c=>?_⟩
 ·rw[LD];exact h.node n y c
 ·have b:(A.qs.set a x)[q]?=some y:=c;rw[Bk]at b;split at b
  ·split at b
   ·injection b with b;subst b;exact d
   ·cases b
  ·exact h.ends q y b
structure KV (A A':Am):Prop where
 l:A'.l.length=A.l.length
 q:A'.qs.length=A.qs.length
 free:A'.free=A.free
 at_:A'.at_=A.at_
 node:∀m,(A'.node m).key=(A.node m).key/\(A'.node m).bI=(A.node m).bI/\(A'.node m).q=(A.node m).q
theorem KV.trans {A B C:Am}(h:KV A B) (k:KV B C):KV A C:=
 ⟨k.l.trans h.l,k.q.trans h.q,k.free.trans h.free,k.at_.trans h.at_,λm=>⟨(k.node m).1.trans (h.node m).1,(k.node m).2.1.trans (h.node m).2.1,(k.node m).2.2.trans (h.node m).2.2⟩⟩
theorem KV.bL (A:Am) (a:Nat) (x:Qi):KV A (A.bL a x):=⟨rfl,LD _ _,rfl,rfl,λ_=>⟨rfl,rfl,rfl⟩⟩
theorem KV.setNode {a:Nat}(h:a<A.l.length) (x:Node) (b:x.key=(A.node a).key/\x.bI=(A.node a).bI/\x.q=(A.node a).q):KV A (A.setNode a x):=
 ⟨I6 _ _,rfl,rfl,rfl,λm=>by
  rw[DI h];split
  ·rename_i e;subst e;exact b
  ·exact⟨rfl,rfl,rfl⟩⟩
theorem Yh {l:List Nat}(c:∀m∈l,m≠0) (h:l.getLastD 0=0):l=[]:=by
 rcases Dj l with b|⟨d,a,b⟩
 ·exact b
 ·rw[Dk]at b;rw[b]at h;simp at h;exact absurd h (c a (by rw[b];simp))
theorem Yt {l:List Nat}(a:∀m∈l,m≠0) (h:l.headD 0=0):l=[]:=by
 cases l with
 |nil=>rfl
 |cons x r=>exact absurd h (a x (by simp))
structure sy (A A':Am) (k:Nat) (l1 l2:List Nat):Prop where
 ju:KV A A'
 bd:A'.Bd
 oh:LQ A'.node 0 (l1++l2) 0
 head:(A'.ends k).head=(l1++l2).headD 0
 tail:(A'.ends k).tail=(l1++l2).getLastD 0
 n:(A'.ends k).n=(A.ends k).n-1
 others:∀m,m≠k->A'.ends m=A.ends m
 dK:∀m,m∉l1++l2->A'.node m=A.node m
theorem oJ (D:A.Bd) {k n:Nat}{l1 l2:List Nat}(y:k<A.qs.length) (d:∀m∈l1++n::l2,m≠0/\m<A.l.length) (hq:(A.node n).q=k) (hd:LQ A.node 0 (l1++n::l2) 0) (hn:(l1++n::l2).Nodup)
  (hh:(A.ends k).head=(l1++n::l2).headD 0) (ht:(A.ends k).tail=(l1++n::l2).getLastD 0):sy A (A.unlink n) k l1 l2:=by
 obtain⟨R,d2⟩:=LQ.append.1 hd;obtain⟨e1,E,S⟩:=d2;have w:(A.node n).q.toNat=k:=by omega
 have F:∀m∈l1,m≠0/\m<A.l.length:=λm h=>d m (by simp[h]);have G:∀m∈l2,m≠0/\m<A.l.length:=λm h=>d m (by simp[h]);have O:=d n (by simp);have o:=Cp.1 hn;have H:n∉l2/\l2.Nodup:=BC.1 o.2.1;have bO:n∉l1:=λh=>o.2.2 n h n (by simp) rfl;have I:∀m,m∈l1->m∉l2:=λm J h2=>o.2.2 m J m (by simp[h2]) rfl;have x:=D.at_ O.2;have s1:KV A (A.bT (A.node n))/\(A.bT (A.node n)).Bd/\LQ (A.bT (A.node n)).node 0 l1 (l2.headD 0)/\LQ (A.bT (A.node n)).node n l2 0/\
   ((A.bT (A.node n)).ends k).head=(l1++l2).headD 0/\((A.bT (A.node n)).ends k).tail=(A.ends k).tail/\((A.bT (A.node n)).ends k).n=(A.ends k).n/\
   (∀m,m≠k->(A.bT (A.node n)).ends m=A.ends m)/\(∀m,m∉l1->(A.bT (A.node n)).node m=A.node m):=by
  unfold Am.bT;by_cases s:(A.node n).prev=0
  ·rw[Al s,w];have f:l1=[]:=Yh (λm h=>(F m h).1) (e1.symm.trans s);subst f;have u:=D.jG y;refine⟨KV.bL _ _ _,D.bL _ _ ⟨x.2.1,u.2.1,u.2.2⟩,trivial,S,?_,?_,?_,?_,λ_ _=>rfl⟩
   ·rw[BN y,Al rfl];exact E
   ·rw[BN y,Al rfl]
   ·rw[BN y,Al rfl]
   ·intro m g;rw[BN y,Ai g]
  ·rw[Ai s];obtain⟨L,a,f⟩:∃L a,l1=L++[a]:=by
    rcases Dj l1 with J|⟨L,a,J⟩
    ·rw[J]at e1;exact absurd e1 s
    ·exact⟨L,a,by rw[J,Dk]⟩
   have P:(A.node n).prev=a:=by rw[e1,f];simp
   have i:a∈l1:=by rw[f];simp
   have j:=F a i;have t:=D.at_ j.2;rw[P];refine⟨KV.setNode j.2 _ ⟨rfl,rfl,rfl⟩,D.setNode _ _ ⟨t.1,x.2.1,t.2.2⟩,?_,?_,?_,rfl,rfl,λ_ _=>rfl,?_⟩
   ·rw[f]at R ⊢;refine LQ.je (nd:=A.node) (λm d=>by rw[DI j.2,Ai d]) ?_ ?_ ?_ R
    ·rw[DI j.2,Al rfl]
    ·rw[DI j.2,Al rfl];exact E
    ·rw[←f];exact o.1
   ·exact LQ.congr (λm d=>by rw[DI j.2,Ai (λ(e:m=a)=>I a i (e▸d))];exact⟨rfl,rfl⟩) S
   ·show(A.ends k).head=_;rw[hh,f];simp[N3]
   ·intro m d;rw[DI j.2,Ai (λ(e:m=a)=>d (e▸i))]
 obtain⟨M,N,T,U,V,f4,W,X,Y⟩:=s1;have hx:A.unlink n=((A.bT (A.node n)).bU (A.node n)).dR (A.node n):=rfl;rw[hx];generalize A.bT (A.node n)=B at*;have p:k<B.qs.length:=by rw[M.q];exact y
 have s2:KV B (B.bU (A.node n))/\(B.bU (A.node n)).Bd/\LQ (B.bU (A.node n)).node 0 l1 (l2.headD 0)/\LQ (B.bU (A.node n)).node (l1.getLastD 0) l2 0/\
   ((B.bU (A.node n)).ends k).head=(l1++l2).headD 0/\((B.bU (A.node n)).ends k).tail=(l1++l2).getLastD 0/\((B.bU (A.node n)).ends k).n=(A.ends k).n/\
   (∀m,m≠k->(B.bU (A.node n)).ends m=A.ends m)/\(∀m,m∉l1++l2->(B.bU (A.node n)).node m=A.node m):=by
  have v:(A.node n).prev<B.l.length:=by rw[M.l];exact x.1
  unfold Am.bU;by_cases s:(A.node n).next=0
  ·rw[Al s,w];have f:l2=[]:=Yt (λm h=>(G m h).1) (E.symm.trans s);subst f;have u:=N.jG p;refine⟨KV.bL _ _ _,N.bL _ _ ⟨u.1,v,u.2.2⟩,T,trivial,?_,?_,?_,?_,λm d=>Y m (by simpa using d)⟩
   ·rw[BN p,Al rfl];exact V
   ·rw[BN p,Al rfl];simpa using e1
   ·rw[BN p,Al rfl];exact W
   ·intro m g;rw[BN p,Ai g];exact X m g
  ·rw[Ai s];obtain⟨b,z,f⟩:∃b z,l2=b::z:=by
    cases l2 with
    |nil=>exact absurd E s
    |cons b z=>exact⟨b,z,rfl⟩
   have P:(A.node n).next=b:=by rw[E,f];rfl
   have i:b∈l2:=by rw[f];simp
   have Q:=G b i;have c:b<B.l.length:=by rw[M.l];exact Q.2
   have t:=N.at_ c;rw[P];refine⟨KV.setNode c _ ⟨rfl,rfl,rfl⟩,N.setNode _ _ ⟨v,t.2⟩,?_,?_,V,?_,W,X,?_⟩
   ·exact LQ.congr (λm d=>by rw[DI c,Ai (λ(e:m=b)=>I m d (e▸i))];exact⟨rfl,rfl⟩) T
   ·rw[f]at U ⊢;refine LQ.lS (nd:=B.node) (λm d=>by rw[DI c,Ai d]) ?_ ?_ ?_ U
    ·rw[DI c,Al rfl];exact e1
    ·rw[DI c,Al rfl]
    ·rw[f]at H;exact(BC.1 H.2).1
   ·show(B.ends k).tail=_;rw[f4,ht,f];have:(l1++n::b::z)=(l1++[n])++(b::z):=by simp
    rw[this,Kq,Kq];simp[List.getLast?_append]
   ·intro m d;have K:m∉l1/\m∉l2:=by simpa using d
    rw[DI c,Ai (λ(e:m=b)=>K.2 (e▸i))];exact Y m K.1
 obtain⟨Z,b2,g1,g2,g3,g4,g5,g6,g7⟩:=s2;generalize B.bU (A.node n)=C at*;have r:k<C.qs.length:=by rw[Z.q];exact p
 have u:=b2.jG r;unfold Am.dR;rw[w];refine⟨(M.trans Z).trans (KV.bL _ _ _),b2.bL _ _ ⟨u.1,u.2.1,by show(C.ends k).n-1<=_;omega⟩,LQ.append.2 ⟨g1,g2⟩,?_,?_,?_,?_,g7⟩
 ·rw[BN r,Al rfl];exact g3
 ·rw[BN r,Al rfl];exact g4
 ·rw[BN r,Al rfl];show(C.ends k).n-1=_;rw[g5]
 ·intro m g;rw[BN r,Ai g];exact g6 m g
structure Abf (A A':Am) (n k:Nat) (l:List Nat):Prop where
 len:A'.l.length=A.l.length
 q:A'.qs.length=A.qs.length
 free:A'.free=A.free
 at_:A'.at_=A.at_
 node:∀m,(A'.node m).key=(A.node m).key/\(A'.node m).bI=(A.node m).bI/\(A'.node m).q=if m=n then(k:Int)else(A.node m).q
 bd:A'.Bd
 oh:LQ A'.node 0 l 0
 head:(A'.ends k).head=l.headD 0
 tail:(A'.ends k).tail=l.getLastD 0
 n:(A'.ends k).n=(A.ends k).n+1
 others:∀m,m≠k->A'.ends m=A.ends m
 dK:∀m,m∉l->A'.node m=A.node m
theorem zW14 (hb:A.Bd) {k n:Nat}{l:List Nat}(tl:Bool) (hk:k<A.qs.length) (t:∀m∈l,m≠0/\m<A.l.length) (V:n≠0/\n<A.l.length) (M:n∉l) (hd:LQ A.node 0 l 0) (N:l.Nodup)
  (hh:(A.ends k).head=l.headD 0) (ht:(A.ends k).tail=l.getLastD 0) (O:(A.ends k).n+1<=1000000):Abf A (A.link n k tl) n k (if tl then l++[n]else n::l):=by
 have eb:=hb.jG hk;have nb:=hb.at_ V.2;have k0:∀m,((A.setNode n (AW A n k tl)).node m).key=(A.node m).key/\((A.setNode n (AW A n k tl)).node m).bI=(A.node m).bI/\((A.setNode n (AW A n k tl)).node m).q=if m=n then(k:Int)else(A.node m).q:=by
  intro m;rw[DI V.2];split
  ·rename_i e;subst e;exact⟨rfl,rfl,rfl⟩
  ·exact⟨rfl,rfl,rfl⟩
 have P:(A.setNode n (AW A n k tl)).Bd:=by
  refine hb.setNode _ _ ⟨?_,?_,?_,nb.2.2.2⟩
  ·unfold AW;cases tl<;>simp<;>omega
  ·unfold AW;cases tl<;>simp<;>omega
  ·show(k:Int)<=_;omega
 have Y:LQ (A.setNode n (AW A n k tl)).node 0 l 0:=LQ.congr (λm t=>by rw[DI V.2,Ai (λ(e:m=n)=>M (e▸t))];exact⟨rfl,rfl⟩) hd;have J:(A.setNode n (AW A n k tl)).node n=AW A n k tl:=by rw[DI V.2,Al rfl]
 have l0:(A.setNode n (AW A n k tl)).l.length=A.l.length:=I6 _ _;have W:∀m,m≠n->(A.setNode n (AW A n k tl)).node m=A.node m:=λm t=>by rw[DI V.2,Ai t]
 have hx:A.link n k tl=(((A.setNode n (AW A n k tl)).dL n k (AW A n k tl)).link2 n k (AW A n k tl)).iG k:=rfl;rw[hx];have q0:(A.setNode n (AW A n k tl)).qs.length=A.qs.length:=rfl;have bK:(A.setNode n (AW A n k tl)).free=A.free:=rfl;have bM:(A.setNode n (AW A n k tl)).at_=A.at_:=rfl;have u:∀m,(A.setNode n (AW A n k tl)).ends m=A.ends m:=λ_=>rfl;have F:(AW A n k tl).prev=if tl then l.getLastD 0 else 0:=by unfold AW;simp[ht]
 have G:(AW A n k tl).next=if tl then 0 else l.headD 0:=by unfold AW;simp[hh]
 generalize A.setNode n (AW A n k tl)=B at*;generalize AW A n k tl=x at*;have c:k<B.qs.length:=by omega
 have j:n<B.l.length:=by omega
 suffices H:∀C:Am,C=(B.dL n k x).link2 n k x->KV B C/\C.Bd/\LQ C.node 0 (if tl then l++[n]else n::l) 0/\(C.ends k).head=(if tl then l++[n]else n::l).headD 0/\(C.ends k).tail=(if tl then l++[n]else n::l).getLastD 0/\
   (C.ends k).n=(B.ends k).n/\(∀m,m≠k->C.ends m=B.ends m)/\(∀m,m∉n::l->C.node m=B.node m) by
  obtain⟨T,c2,c3,c4,c5,c6,c7,c8⟩:=H _ rfl;generalize (B.dL n k x).link2 n k x=C at*;have v:k<C.qs.length:=by rw[T.q];exact c
  have ec:=c2.jG v;unfold Am.iG;refine⟨T.l.trans l0,(LD _ _).trans (T.q.trans q0),T.free.trans bK,T.at_.trans bM,?_,c2.bL _ _ ⟨ec.1,ec.2.1,by show(C.ends k).n+1<=_;rw[c6,u];exact O⟩,c3,?_,?_,?_,?_,?_⟩
  ·intro m;have Q:=T.node m;have h2:=k0 m;exact⟨Q.1.trans h2.1,Q.2.1.trans h2.2.1,Q.2.2.trans h2.2.2⟩
  ·rw[BN v,Al rfl];exact c4
  ·rw[BN v,Al rfl];exact c5
  ·rw[BN v,Al rfl];show(C.ends k).n+1=_;rw[c6,u]
  ·intro m d;rw[BN v,Ai d,c7 m d,u]
  ·intro m w;have K:m∉n::l:=by
    intro h;apply w;cases tl with
    |false=>exact h
    |true=>rcases AA.1 h with h|h<;>simp[h]
   show C.node m=_;rw[c8 m K,W m (λe=>K (by simp[e]))]
 intro C L;cases tl with
 |false=>
  simp only[Ap,A8]at F G ⊢;have e1:B.dL n k x=B.bL k {(B.ends k)with head:=n}:=by unfold Am.dL;rw[Al F]
  rw[e1]at L;have R:=P.jG c;have I:(B.bL k {(B.ends k)with head:=n}).Bd:=P.bL _ _ ⟨j,R.2⟩;have f:k<(B.bL k {(B.ends k)with head:=n}).qs.length:=by rw[LD];exact c
  by_cases z:x.next=0
  ·have g:l=[]:=Yt (λm h=>(t m h).1) (G.symm.trans z);subst g;have X:C=(B.bL k {(B.ends k)with head:=n}).bL k {((B.bL k {(B.ends k)with head:=n}).ends k)with tail:=n}:=by rw[L];unfold Am.link2;rw[Al z]
   subst X;have i:=I.jG f;refine⟨(KV.bL _ _ _).trans (KV.bL _ _ _),I.bL _ _ ⟨i.1,j,i.2.2⟩,?_,?_,?_,?_,?_,λ_ _=>rfl⟩
   ·exact⟨by show(B.node n).prev=0;rw[J];exact F,by show(B.node n).next=0;rw[J];exact z,trivial⟩
   ·rw[BN f,Al rfl];show((B.bL k _).ends k).head=_;rw[BN c,Al rfl];rfl
   ·rw[BN f,Al rfl];rfl
   ·rw[BN f,Al rfl];show((B.bL k _).ends k).n=_;rw[BN c,Al rfl]
   ·intro m d;rw[BN f,Ai d,BN c,Ai d]
  ·obtain⟨b,r,g⟩:∃b r,l=b::r:=by
    cases l with
    |nil=>exact absurd G z
    |cons b r=>exact⟨b,r,rfl⟩
   have S:x.next=b:=by rw[G,g];rfl
   have bO:=t b (by rw[g];simp);have o:b<B.l.length:=by omega
   have E:b≠n:=λe=>M (by rw[←e,g];simp);have X:C=(B.bL k {(B.ends k)with head:=n}).setNode b {(B.node b)with prev:=n}:=by rw[L];unfold Am.link2;rw[Ai z,S];rfl
   subst X;have U:=P.at_ o;have p:∀m,((B.bL k {(B.ends k)with head:=n}).setNode b {(B.node b)with prev:=n}).node m=if m=b then {(B.node b)with prev:=n}else B.node m:=λm=>DI (A:=B.bL k {(B.ends k)with head:=n}) o _ m;refine⟨(KV.bL B k {(B.ends k)with head:=n}).trans (KV.setNode (A:=B.bL k {(B.ends k)with head:=n}) o {(B.node b)with prev:=n} ⟨rfl,rfl,rfl⟩),I.setNode _ _ ⟨j,U.2.1,by rw[LD];exact U.2.2.1,U.2.2.2⟩,?_,?_,?_,?_,?_,?_⟩
   ·refine⟨?_,?_,?_⟩
    ·rw[p,Ai (λe=>E e.symm),J];exact F
    ·rw[p,Ai (λe=>E e.symm),J];exact G
    ·rw[g]at Y ⊢;refine LQ.lS (nd:=B.node) (λm t=>by rw[p,Ai t]) ?_ ?_ ?_ Y
     ·rw[p,Al rfl]
     ·rw[p,Al rfl]
     ·rw[g]at N;exact(BC.1 N).1
   ·show((B.bL k _).ends k).head=_;rw[BN c,Al rfl];rfl
   ·show((B.bL k _).ends k).tail=_;rw[BN c,Al rfl];show(B.ends k).tail=_;rw[u,ht,JB,g,JB,JB]
   ·show((B.bL k _).ends k).n=_;rw[BN c,Al rfl]
   ·intro m d;show(B.bL k _).ends m=_;rw[BN c,Ai d]
   ·intro m w;rw[p,Ai (λe=>w (by rw[e,g];simp))]
 |true=>
  simp only[A7]at F G ⊢;have X:∀D:Am,D.link2 n k x=D.bL k {(D.ends k)with tail:=n}:=by intro D;unfold Am.link2;rw[Al G]
  rw[X]at L;by_cases z:x.prev=0
  ·have g:l=[]:=Yh (λm h=>(t m h).1) (F.symm.trans z);subst g;have e1:B.dL n k x=B.bL k {(B.ends k)with head:=n}:=by unfold Am.dL;rw[Al z]
   rw[e1]at L;subst L;have R:=P.jG c;have I:(B.bL k {(B.ends k)with head:=n}).Bd:=P.bL _ _ ⟨j,R.2⟩;have f:k<(B.bL k {(B.ends k)with head:=n}).qs.length:=by rw[LD];exact c
   have i:=I.jG f;refine⟨(KV.bL _ _ _).trans (KV.bL _ _ _),I.bL _ _ ⟨i.1,j,i.2.2⟩,?_,?_,?_,?_,?_,λ_ _=>rfl⟩
   ·exact⟨by show(B.node n).prev=0;rw[J];exact z,by show(B.node n).next=0;rw[J];exact G,trivial⟩
   ·rw[BN f,Al rfl];show((B.bL k _).ends k).head=_;rw[BN c,Al rfl];rfl
   ·rw[BN f,Al rfl];rfl
   ·rw[BN f,Al rfl];show((B.bL k _).ends k).n=_;rw[BN c,Al rfl]
   ·intro m d;rw[BN f,Ai d,BN c,Ai d]
  ·obtain⟨r,b,g⟩:∃r b,l=r++[b]:=by
    rcases Dj l with Q|⟨l0,a,Q⟩
    ·rw[Q]at F;exact absurd F z
    ·exact⟨l0,a,by rw[Q,Dk]⟩
   have S:x.prev=b:=by rw[F,g];simp
   have bO:=t b (by rw[g];simp);have o:b<B.l.length:=by omega
   have E:b≠n:=λe=>M (by rw[←e,g];simp);have e1:B.dL n k x=B.setNode b {(B.node b)with next:=n}:=by unfold Am.dL;rw[Ai z,S]
   rw[e1]at L;subst L;have U:=P.at_ o;have I:(B.setNode b {(B.node b)with next:=n}).Bd:=P.setNode _ _ ⟨U.1,j,U.2.2⟩;have i:=I.jG (n:=k) c;have p:∀m,(B.setNode b {(B.node b)with next:=n}).node m=if m=b then {(B.node b)with next:=n}else B.node m:=λm=>DI o _ m;have Z:∀y m,((B.setNode b {(B.node b)with next:=n}).bL k y).ends m=if m=k then y else B.ends m:=λy m=>BN (A:=B.setNode b {(B.node b)with next:=n}) c y m;refine⟨(KV.setNode o {(B.node b)with next:=n} ⟨rfl,rfl,rfl⟩).trans (KV.bL _ _ _),I.bL _ _ ⟨i.1,by rw[I6];exact j,i.2.2⟩,?_,?_,?_,?_,?_,?_⟩
   ·show LQ (B.setNode b {(B.node b)with next:=n}).node 0 (l++[n]) 0;refine LQ.append.2 ⟨?_,?_⟩
    ·rw[g]at Y ⊢;refine LQ.je (nd:=B.node) (s:=0) (s':=n) (λm t=>by rw[p,Ai t]) ?_ ?_ ?_ Y
     ·rw[p,Al rfl]
     ·rw[p,Al rfl]
     ·rw[←g];exact N
    ·refine⟨?_,?_,trivial⟩
     ·rw[p,Ai (λe=>E e.symm),J];exact F
     ·rw[p,Ai (λe=>E e.symm),J];exact G
   ·rw[Z,Al rfl];show(B.ends k).head=_;rw[u,hh,g];simp[N3]
   ·rw[Z,Al rfl];simp
   ·rw[Z,Al rfl];rfl
   ·intro m d;rw[Z,Ai d]
   ·intro m w;show(B.setNode b _).node m=_;rw[p,Ai (λe=>w (by rw[e,g];simp))]
end
def CW (A:Am) (n:Nat):Gp:=⟨(A.node n).key,(A.node n).bI⟩
structure CE (A:Am) (ns:List (List Nat)) (qs:List (List Gp)):Prop where
 bd:A.Bd
 len:ns.length=A.qs.length
 q8:A.qs.length<=8
 ends:∀(k:Nat) l,ns[k]?=some l->(A.ends k).head=l.headD 0/\(A.ends k).tail=l.getLastD 0/\(A.ends k).n=l.length
 oh:∀(k:Nat) l,ns[k]?=some l->LQ A.node 0 l 0
 mem:∀(k:Nat) l,ns[k]?=some l->∀n∈l,n≠0/\n<A.l.length/\(A.node n).q=k
 nodup:∀(k:Nat) l,ns[k]?=some l->l.Nodup
 iy:∀(k:Nat) l,ns[k]?=some l->l.length<=50
 nH:qs=ns.map (λl=>l.map (CW A))
 idx:∀key n,A.idx key=some n↔∃(k:Nat) (l:List Nat),ns[k]?=some l/\n∈l/\(A.node n).key=key
 qP:(A.at_.map (·.1)).Nodup
 free:∀n∈A.free,n≠0/\n<A.l.length/\(A.node n).q= -1
 nI:A.free.Nodup
 qN:A.l.length=1+(ns.map List.length).sum+A.free.length
 lb:A.l.length<=1+50*A.qs.length
theorem YS:∀(l:List Nat) (k x y:Nat),l[k]?=some x->(l.set k y).sum+x=l.sum+y
 | [],k,x,y,h=>by simp at h
 |a::l,0,x,y,h=>by simp at h;subst h;simp;omega
 |a::l,k+1,x,y,h=>by have:=YS l k x y (by simpa using h);simp;omega
theorem Vn:∀(l:List Nat) (b:Nat),(∀x∈l,x<=b)->l.sum<=b*l.length
 | [],_,_=>by simp
 |a::l,b,h=>by have d:=Vn l b (λx c=>h x (by simp[c]));have e:=h a (by simp);simp only[List.sum_cons,Af,og,GQ];omega
section
variable {A:Am}{ns:List (List Nat)}{qs:List (List Gp)}
theorem CE.ok (h:CE A ns qs):A.Ok:=by obtain⟨g,i,j⟩:=zp3 h.qN h.lb h.q8;refine⟨by omega,by omega,h.bd.node,λn f=>(h.free n f).2.1,by omega,h.bd.ends,λkey n f=>?_⟩;obtain⟨k,l,a,b,c⟩:=(h.idx key n).1 f;obtain⟨_,d,e⟩:=h.mem k l a n b;exact⟨d,by omega⟩
theorem LX {key:Int}:∀{l:List Gp}{i:Nat},(∀e∈l,e.key≠key)->C7 key l i=none
 | [],_,_=>rfl
 |e::l,i,h=>by rw[C7,Ai (h e (by simp))];exact LX (λx a=>h x (by simp[a]))
theorem O9 {key:Int}:∀{l1 l2:List Gp}{e:Gp}{i:Nat},(∀e∈l1,e.key≠key)->e.key=key->C7 key (l1++e::l2) i=some (i+l1.length)
 | [],_,e,i,_,h=>by simp[C7,h]
 |x::l1,l2,e,i,a,h=>by rw[Bz,C7,Ai (a x (by simp)),O9 (λx b=>a x (by simp[b])) h];simp;omega
theorem OW {key:Int}:∀{q:List (List Gp)}{k:Nat},(∀l∈q,∀e∈l,e.key≠key)->DY key q k=none
 | [],_,_=>rfl
 |l::q,k,h=>by rw[DY,LX (h l (by simp))];exact OW (λx a=>h x (by simp[a]))
theorem OV {key:Int}:∀{q:List (List Gp)}{j k:Nat}{l1 l2:List Gp}{e:Gp},(∀(i:Nat) l,i<j->q[i]?=some l->∀e∈l,e.key≠key)->q[j]?=some (l1++e::l2)->(∀e∈l1,e.key≠key)->e.key=key->
  DY key q k=some (k+j,l1.length)
 | [],j,k,_,_,_,_,h,_,_=>by simp at h
 |l::q,0,k,l1,l2,e,b,a,c,d=>by
  simp only[AJ,Co]at a;subst a;rw[DY,O9 c d];simp
 |l::q,j+1,k,l1,l2,e,b,a,c,d=>by rw[DY,LX (b 0 l (by omega) rfl)];have:=OV (q:=q) (j:=j) (k:=k+1) (λi l g f=>b (i+1) l (by omega) (by simpa using f)) (by simpa using a) c d;rw[show k+(j+1)=k+1+j by omega];exact this
theorem CE.uniq (h:CE A ns qs) {k b:Nat}{l l':List Nat}{n a:Nat}(d:ns[k]?=some l) (f:n∈l) (g:ns[b]?=some l') (i:a∈l') (e:(A.node n).key=(A.node a).key):n=a/\k=b:=by have j:=(h.idx (A.node a).key n).2 ⟨k,l,d,f,e⟩;have c:=(h.idx (A.node a).key a).2 ⟨b,l',g,i,rfl⟩;rw[j]at c;injection c with c;subst c;have m:=(h.mem k l d n f).2.2;have o:=(h.mem b l' g n i).2.2;exact⟨rfl,by omega⟩
theorem CE.jf (h:CE A ns qs) {k:Nat}{l:List Nat}(a:ns[k]?=some l):qs[k]?=some (l.map (CW A)):=by rw[h.nH,At,a];rfl
theorem CE.om (h:CE A ns qs) {k:Nat}{l:List Nat}(a:ns[k]?=some l):k<A.qs.length:=by rw[←h.len];exact(Aj.1 a).1
theorem CE.get (h:CE A ns qs) {k:Nat}(a:k<A.qs.length):∃l,ns[k]?=some l:=⟨_,Ae (by rw[h.len];exact a)⟩
theorem CE.jg (h:CE A ns qs):qs.length=A.qs.length:=by rw[h.nH,Ft,h.len]
theorem CE.fG (h:CE A ns qs) {key:Int}{n:Nat}(u:A.idx key=some n) (g:List Int):
  ∃(k:Nat) (l1 l2:List Nat),ns[k]?=some (l1++n::l2)/\(⟨qs,g⟩:St).find key=some (k,l1.length)/\(A.node n).key=key/\(A.node n).q=k:=by
 obtain⟨k,l,a,b,c⟩:=(h.idx key n).1 u;obtain⟨l1,l2,rfl⟩:=List.append_of_mem b;refine⟨k,l1,l2,a,?_,c,(h.mem k _ a n b).2.2⟩;have r:=h.nodup k _ a;have o:=Cp.1 r;unfold St.find;have v:=h.jf a;rw[Cb,BS]at v;have:=OV (key:=key) (q:=qs) (j:=k) (k:=0) (l1:=l1.map (CW A)) (l2:=l2.map (CW A)) (e:=CW A n) ?_ v ?_ c
 ·rw[this];simp
 ·intro i l u f e s d;rw[h.nH,At]at f;cases t:ns[i]? with
  |none=>rw[t]at f;cases f
  |some l'=>
   rw[t]at f;simp at f;subst f;obtain⟨m,p,rfl⟩:=AE.1 s;have:=(h.uniq t p a b (d.trans c.symm)).2;omega
 ·intro e s d;obtain⟨m,p,rfl⟩:=AE.1 s;have:=(h.uniq a (by simp[p]) a b (d.trans c.symm)).1;subst this;exact o.2.2 m p m (by simp) rfl
theorem CE.fK (h:CE A ns qs) {key:Int}(f:A.idx key=none) (a:List Int):(⟨qs,a⟩:St).find key=none:=by refine OW λl d e g b=>?_;rw[h.nH]at d;obtain⟨l',c,rfl⟩:=AE.1 d;obtain⟨m,i,rfl⟩:=AE.1 g;obtain⟨k,j⟩:=Jh.1 c;have:=(h.idx key m).2 ⟨k,l',j,i,b⟩;rw[f]at this;cases this
theorem CE.cz (h:CE A ns qs) (key:Int) (e:List Int):A.cz key=En ⟨qs,e⟩ key:=by
 unfold Am.cz En;cases f:A.idx key with
 |none=>rw[h.fK f e]
 |some n=>
  obtain⟨k,l1,l2,a,b,c,d⟩:=h.fG f e;rw[b];exact d
theorem CE.len_ (h:CE A ns qs) (a:List Int) {k:Nat}(c:k<A.qs.length):A.len k=((⟨qs,a⟩:St).queue (k:Int)).length:=by obtain⟨l,b⟩:=h.get c;unfold Am.len St.queue;rw[(h.ends k l b).2.2];simp[h.jf b]
theorem CE.queue (h:CE A ns qs) (a:List Int) {k:Nat}{l:List Nat}(b:ns[k]?=some l):(⟨qs,a⟩:St).queue (k:Int)=l.map (CW A):=by unfold St.queue;simp[h.jf b]
theorem Nx (A:Am) (l1 l2:List Nat) (n:Nat):Bm ((l1++n::l2).map (CW A)) l1.length=CW A n:=by unfold Bm;simp
theorem T6 (A:Am) (l:List Nat) (h:l≠ []):Bs (l.map (CW A))=CW A (l.getLastD 0):=by
 rcases Dj l with b|⟨c,a,b⟩
 ·exact absurd b h
 ·rw[Dk]at b;subst b;unfold Bs;have:=Nx A c [] a;simp at this ⊢;simpa using this
theorem CE.lT (h:CE A ns qs) (a:List Int) {k:Nat}(e:k<A.qs.length) (b:(⟨qs,a⟩:St).queue (k:Int)≠ []):A.tail k=(Bs ((⟨qs,a⟩:St).queue (k:Int))).key:=by
 obtain⟨l,d⟩:=h.get e;rw[h.queue a d]at b ⊢;have c:l≠ []:=by rintro rfl;exact b rfl
 rw[T6 A l c];unfold Am.tail;rw[(h.ends k l d).2.1];rfl
theorem CE.jd (h:CE A ns qs) (e:List Int) (key:Int):A.dW key=dW ⟨qs,e⟩ key:=by
 unfold Am.dW dW;cases f:A.idx key with
 |none=>rw[h.fK f e]
 |some n=>
  obtain⟨k,l1,l2,a,b,c,d⟩:=h.fG f e;rw[b];show _=(Bm ((⟨qs,e⟩:St).queue (k:Int)) l1.length).bI;rw[h.queue e a,Nx];rfl
theorem CE.iA (h:CE A ns qs) (c:List Int) {k:Nat}(r:k<A.qs.length) (g:(⟨qs,c⟩:St).queue (k:Int)≠ []):
  (⟨qs,c⟩:St).find (Bs ((⟨qs,c⟩:St).queue (k:Int))).key=some (k,((⟨qs,c⟩:St).queue (k:Int)).length-1):=by
 obtain⟨l,f⟩:=h.get r;rw[h.queue c f]at g ⊢;have i:l≠ []:=by rintro rfl;exact g rfl
 rw[T6 A l i];rcases Dj l with d|⟨o,a,d⟩
 ·exact absurd d i
 ·rw[Dk]at d;subst d;have e:(o++[a]).getLastD 0=a:=by simp
  rw[e];have s:=(h.idx (CW A a).key a).2 ⟨k,_,f,by simp,rfl⟩;obtain⟨p,l1,l2,q,t,w,x⟩:=h.fG s c;have j:p=k:=by have:=(h.mem k _ f a (by simp)).2.2;omega
  subst j;rw[q]at f;injection f with f;have m:=h.nodup p _ q;have:l2=[]:=by
   rcases Dj l2 with d|⟨u,b,d⟩
   ·exact d
   ·rw[Dk]at d;subst d;have n:(l1++a::u)++[b]=o++[a]:=by simpa using f
    have:=List.append_inj_right' n rfl;injection this with this;subst this;exact absurd m (by simp[Cp])
  subst this;have v:=List.append_inj_left' f rfl;rw[t,v];simp
theorem SK {A:Am}:∀{l:List Nat}{p:Nat},LQ A.node p l 0->(∀m∈l,m≠0/\m<A.l.length)->dM A (l.headD 0) l
 | [],_,_,_=>rfl
 |x::r,p,⟨a,b,c⟩,h=>⟨rfl,(h x (by simp)).1,(h x (by simp)).2,by rw[b];exact SK c (λm d=>h m (by simp[d]))⟩
theorem CE.chain (h:CE A ns qs) {k:Nat}{l:List Nat}(a:ns[k]?=some l):dM A (A.ends k).head l:=by rw[(h.ends k l a).1];exact SK (h.oh k l a) (λm b=>⟨(h.mem k l a m b).1,(h.mem k l a m b).2.1⟩)
theorem Yk {at_:List (Int×Nat)}(f:(at_.map (·.1)).Nodup) (key k:Int):
  ((at_.eraseP (λy=>y.1==key)).find? (λy=>y.1==k)).map (·.2)=if k=key then none else(at_.find? (λy=>y.1==k)).map (·.2):=by
 induction at_ with
 |nil=>simp
 |cons y l g=>
  have b:=BC.1 f;by_cases e:y.1=key
  ·have c:(λy:Int×Nat=>y.1==key) y=true:=by simpa using e
   rw[List.eraseP_cons_of_pos (p:=λy:Int×Nat=>y.1==key) c];by_cases a:k=key
   ·subst a;rw[Al rfl];have:l.find? (λy=>y.1==k)=none:=by
     rw[IL];intro z h i;refine b.1 ?_;have:z.1=y.1:=by simp at i;omega
     show y.1∈_;rw[←this];exact AE.2 ⟨z,h,rfl⟩
    rw[this];rfl
   ·rw[Ai a,EA];simp;omega
  ·have c:¬(λy:Int×Nat=>y.1==key) y=true:=by simpa using e
   rw[List.eraseP_cons_of_neg (p:=λy:Int×Nat=>y.1==key) c];by_cases a:y.1=k
   ·have d:k≠key:=by omega
    rw[Ai d,My (by simpa using a),My (by simpa using a)]
   ·rw[EA (by simpa using a),EA (by simpa using a)];exact g b.2
theorem Gd {α:Type}{l:List α}{k j:Nat}{x y:α}(h:(l.set k x)[j]?=some y):(j=k/\k<l.length/\y=x)\/(j≠k/\l[j]?=some y):=by
 rw[Bk]at h;split at h
 ·rename_i e;split at h
  ·injection h with h;exact .inl ⟨e.symm,by assumption,h.symm⟩
  ·cases h
 ·rename_i e;exact .inr ⟨λx=>e x.symm,h⟩
theorem Ph {a:Am}{k:Nat}{l:List Nat}(d:∀(j:Nat) (m:List Nat),j≠k->ns[j]?=some m->m.map (CW a)=m.map (CW A)):
  (ns.map (λl=>l.map (CW A))).set k (l.map (CW a))=(ns.set k l).map (λl=>l.map (CW a)):=by
 apply Fj;intro j;rw[Bk,At,At,Bk];by_cases b:k=j
 ·subst b;by_cases c:k<ns.length
  ·simp[c]
  ·simp[c]
 ·simp only[Ai b];cases f:ns[j]? with
  |none=>rfl
  |some m=>simp only[Ca];rw[d j m (λe=>b e.symm) f]
theorem CE.dN (h:CE A ns qs) {key:Int}{n k:Nat}{l1 l2:List Nat}(U:A.idx key=some n) (t:ns[k]?=some (l1++n::l2)):
  CE (A.dN key n) (ns.set k (l1++l2)) (qs.set k ((l1++l2).map (CW A)))/\A.fF n k/\((A.unlink n).node n).bI=(A.node n).bI:=by
 have H:=h.mem k _ t;have p:=H n (by simp);have L:=h.om t;have K:=h.ends k _ t;have E:=h.nodup k _ t;have v:(A.node n).key=key:=by obtain⟨_,_,_,_,c⟩:=(h.idx key n).1 U;exact c
 have u:=oJ h.bd L (λm d=>⟨(H m d).1,(H m d).2.1⟩) p.2.2 (h.oh k _ t) E K.1 K.2.1;have M:A.fF n k:=⟨p.2.1,p.2.2,by rw[K.2.2];simp;omega,L⟩;refine⟨?_,M,(u.ju.node n).2.1⟩;have D:=Cp.1 E;have N:=BC.1 D.2.1;have w:n∉l1++l2:=by
  intro o;rcases CD.1 o with o|o
  ·exact D.2.2 n o n (by simp) rfl
  ·exact N.1 o
 have I:n<(A.unlink n).l.length:=by rw[u.ju.l];exact p.2.1
 have nd:∀m,(A.dN key n).node m=if m=n then {((A.unlink n).node n)with q:= -1}else(A.unlink n).node m:=λm=>DI (A:=A.unlink n) I _ m;have V:∀m,(A.dN key n).ends m=(A.unlink n).ends m:=λ_=>rfl;have s:(A.dN key n).l.length=A.l.length:=(I6 (A:=A.unlink n) _ _).trans u.ju.l;have F:(A.dN key n).qs.length=A.qs.length:=u.ju.q;have x:∀m,((A.dN key n).node m).key=(A.node m).key/\((A.dN key n).node m).bI=(A.node m).bI:=by
  intro m;rw[nd];split
  ·rename_i e;subst e;exact⟨(u.ju.node m).1,(u.ju.node m).2.1⟩
  ·exact⟨(u.ju.node m).1,(u.ju.node m).2.1⟩
 have nq:∀m,m≠n->((A.dN key n).node m).q=(A.node m).q:=by intro m r;rw[nd,Ai r];exact(u.ju.node m).2.2
 have S:∀m,CW (A.dN key n) m=CW A m:=by intro m;unfold CW;rw[(x m).1,(x m).2]
 have y:∀(j:Nat) l,j≠k->ns[j]?=some l->∀m∈l,m∉l1++n::l2:=by intro j l B O m d o;have Y:=(h.mem j l O m d).2.2;have Z:=(H m o).2.2;omega
 have G:=u.bd.at_ I;have P:(A.dN key n).Bd:=by have:=u.bd.setNode n {((A.unlink n).node n)with q:= -1} ⟨G.1,G.2.1,by show(-1:Int)<=_;omega,G.2.2.2⟩;exact⟨this.node,this.ends⟩
 have J:=YS (ns.map List.length) k (l1++n::l2).length (l1++l2).length (by rw[At,t];rfl);refine⟨P,by rw[A9,F];exact h.len,by rw[F];exact h.q8,?_,?_,?_,?_,?_,?_,?_,?_,?_,?_,?_,by rw[s,F];exact h.lb⟩
 ·intro j l B;rw[V];rcases Gd B with⟨rfl,_,rfl⟩|⟨i,f⟩
  ·exact⟨u.head,u.tail,by rw[u.n,K.2.2];simp⟩
  ·rw[u.others j i];exact h.ends j l f
 ·intro j l B;rcases Gd B with⟨rfl,_,rfl⟩|⟨i,f⟩
  ·exact LQ.congr (λm d=>by rw[nd,Ai (λ(e:m=n)=>w (e▸d))];exact⟨rfl,rfl⟩) u.oh
  ·refine LQ.congr (λm d=>?_) (h.oh j l f);have o:=y j l i f m d;have Q:m≠n:=λe=>o (by simp[e]);have R:m∉l1++l2:=λe=>o (by simp at e ⊢;rcases e with e|e<;>simp[e]);rw[nd,Ai Q,u.dK m R];exact⟨rfl,rfl⟩
 ·intro j l B m d;rw[s];rcases Gd B with⟨rfl,_,rfl⟩|⟨i,f⟩
  ·have o:=H m (by simp at d ⊢;rcases d with e|e<;>simp[e]);rw[nq m (λe=>w (e▸d))];exact o
  ·have o:=y j l i f m d;rw[nq m (λe=>o (by simp[e]))];exact h.mem j l f m d
 ·intro j l B;rcases Gd B with⟨rfl,_,rfl⟩|⟨i,f⟩
  ·have:(l1++l2).Sublist (l1++n::l2):=List.Sublist.append (List.Sublist.refl _) (List.sublist_cons_self _ _);exact this.nodup E
  ·exact h.nodup j l f
 ·intro j l B;rcases Gd B with⟨rfl,_,rfl⟩|⟨i,f⟩
  ·have:=h.iy j _ t;simp at this ⊢;omega
  ·exact h.iy j l f
 ·have e1:(l1++l2).map (CW A)=(l1++l2).map (CW (A.dN key n)):=DS (λm _=>(S m).symm);rw[e1,h.nH,Ph (λj m _ _=>DS (λm _=>S m))]
 ·intro g m;have W:(A.dN key n).idx g=if g=key then none else A.idx g:=Yk h.qP key g;rw[W];constructor
  ·intro o;split at o
   ·cases o
   ·rename_i z;obtain⟨j,l,a,b,c⟩:=(h.idx g m).1 o;have r:m≠n:=by rintro rfl;exact z (c.symm.trans v)
    by_cases i:j=k
    ·subst i;rw[t]at a;injection a with a;subst a;refine⟨j,l1++l2,by rw[Bk];simp[h.len,L],?_,by rw[(x m).1];exact c⟩;simp at b ⊢;rcases b with b|b|b
     ·exact .inl b
     ·exact absurd b r
     ·exact .inr b
    ·exact⟨j,l,by rw[Bk,Ai (λe=>i e.symm)];exact a,b,by rw[(x m).1];exact c⟩
  ·rintro⟨j,l,a,b,c⟩;rw[(x m).1]at c;rcases Gd a with⟨rfl,_,rfl⟩|⟨i,f⟩
   ·have r:m≠n:=λe=>w (e▸b);have C:m∈l1++n::l2:=by simp at b ⊢;rcases b with e|e<;>simp[e]
    have z:g≠key:=by rintro rfl;exact r (h.uniq t C t (by simp) (c.trans v.symm)).1
    rw[Ai z];exact(h.idx g m).2 ⟨j,_,t,C,c⟩
   ·have z:g≠key:=by rintro rfl;exact i (h.uniq f b t (by simp) (c.trans v.symm)).2
    rw[Ai z];exact(h.idx g m).2 ⟨j,l,f,b,c⟩
 ·exact(List.Sublist.map _ (List.eraseP_sublist)).nodup h.qP
 ·intro m d;have C:m∈A.free++[n]:=d;rw[s];rcases CD.1 C with o|o
  ·obtain⟨a,b,c⟩:=h.free m o;have r:m≠n:=by rintro rfl;rw[p.2.2]at c;omega
   exact⟨a,b,by rw[nq m r];exact c⟩
  ·simp at o;subst o;exact⟨p.1,p.2.1,by rw[nd,Al rfl]⟩
 ·show(A.free++[n]).Nodup;rw[Cp];refine⟨h.nI,by simp,λa X b T=>?_⟩;simp at T;subst T;rintro rfl;have:=(h.free a X).2.2;rw[p.2.2]at this;omega
 ·show _=1+_+(A.free++[n]).length;rw[s,h.qN,PE];simp at J ⊢;omega
structure Ahf (A:Am) (ns:List (List Nat)):Prop where
 p0:A.place≠0
 lt:A.place<A.ready.l.length
 node:∀m,A.ready.node m=A.node m
 qs:A.ready.qs=A.qs
 at_:A.ready.at_=A.at_
 le:A.l.length<=A.ready.l.length
 free:∀m∈A.ready.free,m∈A.free/\m≠A.place
 nodup:A.ready.free.Nodup
 new:∀(k:Nat) (l:List Nat),ns[k]?=some l->A.place∉l
 qN:A.ready.l.length=1+(ns.map List.length).sum+A.ready.free.length+1
 bd:A.ready.Bd
 grow:A.ready.l.length=A.l.length\/(A.free=[]/\A.ready.l.length=A.l.length+1)
theorem CE.ready (h:CE A ns qs) (G:0<A.qs.length):Ahf A ns:=by
 have w:=h.qN;by_cases r:A.free=[]
 ·have t:A.place=A.l.length:=by unfold Am.place;rw[Al r]
  have f:A.ready={A with l:=A.l++[⟨0,0,0,0,0⟩]}:=by unfold Am.ready;rw[Al r]
  have y:A.ready.l.length=A.l.length+1:=by rw[f];simp
  rw[r]at w;refine⟨by omega,by omega,?_,by rw[f],by rw[f],by omega,?_,?_,?_,?_,?_,.inr ⟨r,y⟩⟩
  ·intro m;rw[f];unfold Am.node;show((A.l++[⟨0,0,0,0,0⟩])[m]?).getD _=_;rcases Be m A.l.length with i|i
   ·rw[AX i]
   ·rw[BG i,Bl i];cases m-A.l.length with
    |zero=>rfl
    |succ j=>rfl
  ·intro m i;rw[f]at i;simp[r]at i
  ·rw[f];simp[r]
  ·intro k l z s;have:=(h.mem k l z _ s).2.1;omega
  ·rw[y,f];simp[r]at w ⊢;omega
  ·refine⟨λn x s=>?_,λq x s=>?_⟩
   ·rw[y];have E:A.ready.qs=A.qs:=by rw[f]
    rw[E];have g:(A.l++[⟨0,0,0,0,0⟩])[n]?=some x:=by rw[f]at s;exact s
    rcases Be n A.l.length with i|i
    ·rw[AX i]at g;obtain⟨a,b,c,d⟩:=h.bd.node n x g;exact⟨by omega,by omega,c,d⟩
    ·rw[BG i]at g;cases u:n-A.l.length with
     |zero=>
      rw[u]at g;simp at g;subst g;exact⟨by show 0<_;omega,by show 0<_;omega,by show(0:Int)<=_;omega,by show(0:Int)<=0;omega,by show(0:Int)<=1000;omega⟩
     |succ j=>rw[u]at g;simp at g
   ·have g:A.qs[q]?=some x:=by rw[f]at s;exact s
    obtain⟨a,b,c⟩:=h.bd.ends q x g;exact⟨by omega,by omega,c⟩
 ·obtain⟨B,p,o⟩:∃B p,A.free=B++[p]:=by
   rcases Dj A.free with C|⟨F,a,C⟩
   ·exact absurd C r
   ·exact⟨F,a,by rw[C,Dk]⟩
  have t:A.place=p:=by unfold Am.place;rw[Ai r,o];simp
  have f:A.ready={A with free:=B}:=by unfold Am.ready;rw[Ai r,o];simp
  have D:=h.free p (by rw[o];simp);have u:=h.nI;rw[o]at u w;have v:=Cp.1 u;refine⟨by rw[t];exact D.1,by rw[t,f];exact D.2.1,λ_=>by rw[f];rfl,by rw[f],by rw[f],by rw[f];exact Ab _,?_,by rw[f];exact v.1,?_,?_,by rw[f];exact⟨h.bd.node,h.bd.ends⟩,.inl (by rw[f])⟩
  ·intro m i;rw[f]at i;rw[t];exact⟨by rw[o];exact CF _ i,λe=>v.2.2 m i p (by simp) e⟩
  ·intro k l z s;rw[t]at s;have:=(h.mem k l z p s).2.2;rw[D.2.2]at this;omega
  ·rw[f];show A.l.length=_;rw[w];simp;omega
theorem CE.lQ (h:CE A ns qs) {key f:Int}{k:Nat}(tl:Bool) {l:List Nat}(N:A.idx key=none) (G:ns[k]?=some l) (hf:0<=f/\f<=1000) (cu:l.length+1<=50):
  A.jR key f k/\CE (A.lQ key f k tl) (ns.set k (if tl then l++[A.place]else A.place::l)) (qs.set k (if tl then l.map (CW A)++[⟨key,f⟩]else⟨key,f⟩::l.map (CW A))):=by
 have hk:=h.om G;have R:=h.ready (by omega);obtain⟨hm,V,v,hc,cw,cy⟩:=zp6 (h.mem k l G) (h.ends k l G) (R.new k l G) h.qN h.lb h.q8;refine⟨⟨N,hk,hf,by omega,R.p0,?_,?_⟩,?_⟩
 ·rw[V.1];cases l with
  |nil=>exact λe=>R.p0 e.symm
  |cons x r=>exact λe=>v (by rw[←e];simp)
 ·rw[V.2.1];rcases Dj l with O|⟨l0,a,O⟩
  ·rw[O];exact λe=>R.p0 e.symm
  ·rw[Dk]at O;rw[O];simp;exact λe=>v (by rw[←e,O];simp)
 have b0:=R.bd.setNode A.place ⟨key,f,0,0,0⟩ ⟨by have:=R.lt;show 0<_;omega,by have:=R.lt;show 0<_;omega,by rw[R.qs];show(0:Int)<=_;omega,hf.1,hf.2⟩;have nb:∀m,(A.ready.setNode A.place ⟨key,f,0,0,0⟩).node m=if m=A.place then⟨key,f,0,0,0⟩else A.node m:=λm=>by rw[DI R.lt,R.node]
 have W:A.lQ key f k tl={(A.ready.setNode A.place ⟨key,f,0,0,0⟩)with at_:=A.at_++[(key,A.place)]}.link A.place k tl:=rfl;have X:(A.ready.setNode A.place ⟨key,f,0,0,0⟩).l.length=A.ready.l.length:=I6 _ _;have Q:(A.ready.setNode A.place ⟨key,f,0,0,0⟩).qs=A.qs:=R.qs;have Y:(A.ready.setNode A.place ⟨key,f,0,0,0⟩).free=A.ready.free:=rfl;rw[W];generalize A.ready.setNode A.place ⟨key,f,0,0,0⟩=B at*;have H:∀m,({B with at_:=A.at_++[(key,A.place)]}:Am).ends m=A.ends m:=λm=>by unfold Am.ends;show(B.qs[m]?).getD _=_;rw[Q]
 have K:∀m,({B with at_:=A.at_++[(key,A.place)]}:Am).node m=if m=A.place then⟨key,f,0,0,0⟩else A.node m:=nb;have bR:({B with at_:=A.at_++[(key,A.place)]}:Am).Bd:=⟨b0.node,b0.ends⟩;have bS:({B with at_:=A.at_++[(key,A.place)]}:Am).l.length=A.ready.l.length:=X;have bT:({B with at_:=A.at_++[(key,A.place)]}:Am).qs.length=A.qs.length:=by show B.qs.length=_;rw[Q]
 have S:({B with at_:=A.at_++[(key,A.place)]}:Am).free=A.ready.free:=Y;have Z:({B with at_:=A.at_++[(key,A.place)]}:Am).at_=A.at_++[(key,A.place)]:=rfl;clear nb W X Q Y b0;generalize ({B with at_:=A.at_++[(key,A.place)]}:Am)=C at*;have u:=zW14 bR tl (k:=k) (n:=A.place) (l:=l) (by omega) (λm g=>⟨(hm m g).1,by have:=(hm m g).2.1;have:=R.le;omega⟩) ⟨R.p0,by have:=R.lt;omega⟩ v
  (LQ.congr (λm g=>by rw[K,Ai (λ(e:m=A.place)=>v (e▸g))];exact⟨rfl,rfl⟩) (h.oh k l G)) (h.nodup k l G) (by rw[H];exact V.1) (by rw[H];exact V.2.1) (by rw[H,V.2.2];omega)
 generalize hL:(if tl then l++[A.place]else A.place::l)=L at*;have E:∀m,m∈L↔m=A.place\/m∈l:=by intro m;rw[←hL];cases tl<;>simp;exact⟨λh=>h.elim .inr .inl,λh=>h.elim .inr .inl⟩
 have bU:L.length=l.length+1:=by rw[←hL];cases tl<;>simp
 generalize C.link A.place k tl=D at*;have w:∀m,m≠A.place->(D.node m).key=(A.node m).key/\(D.node m).bI=(A.node m).bI/\(D.node m).q=(A.node m).q:=by intro m s;have:=u.node m;rw[K,Ai s,Ai s]at this;exact this
 have np:(D.node A.place).key=key/\(D.node A.place).bI=f/\(D.node A.place).q=k:=by have:=u.node A.place;rw[K,Al rfl,Al rfl]at this;exact this
 have eo:∀m,m≠A.place->CW D m=CW A m:=by intro m s;unfold CW;rw[(w m s).1,(w m s).2.1]
 have T:D.l.length=A.ready.l.length:=u.len.trans bS;have U:D.qs.length=A.qs.length:=u.q.trans bT;have I:∀(j:Nat) l',j≠k->ns[j]?=some l'->∀m∈l',m∉L:=by
  intro j l' F M m g o;rcases(E m).1 o with o|o
  ·exact R.new j l' M (o▸g)
  ·have a1:=(h.mem j l' M m g).2.2;have a2:=(hm m o).2.2;omega
 have cj:=YS (ns.map List.length) k l.length L.length (by rw[At,G];rfl);have P:∀(j:Nat) l' m,ns[j]?=some l'->m∈l'->(A.node m).key≠key:=by intro j l' m a b c;have:=(h.idx key m).2 ⟨j,l',a,b,c⟩;rw[N]at this;cases this
 refine⟨u.bd,by rw[A9,U];exact h.len,by rw[U];exact h.q8,?_,?_,?_,?_,?_,?_,?_,?_,?_,?_,?_,?_⟩
 ·intro j l' F;rcases Gd F with⟨rfl,_,rfl⟩|⟨t,i⟩
  ·exact⟨u.head,u.tail,by rw[u.n,H,V.2.2,bU]⟩
  ·rw[u.others j t,H];exact h.ends j l' i
 ·intro j l' F;rcases Gd F with⟨rfl,_,rfl⟩|⟨t,i⟩
  ·exact u.oh
  ·refine LQ.congr (λm g=>?_) (h.oh j l' i);have o:=I j l' t i m g;have J:m≠A.place:=λe=>o ((E m).2 (.inl e));rw[u.dK m o,K,Ai J];exact⟨rfl,rfl⟩
 ·intro j l' F m g;rw[T];have cz:=R.le;rcases Gd F with⟨rfl,_,rfl⟩|⟨t,i⟩
  ·rcases(E m).1 g with rfl|o
   ·exact⟨R.p0,R.lt,np.2.2⟩
   ·have J:m≠A.place:=λe=>v (e▸o);obtain⟨a,b,c⟩:=hm m o;exact⟨a,by omega,by rw[(w m J).2.2];exact c⟩
  ·have o:=I j l' t i m g;have J:m≠A.place:=λe=>o ((E m).2 (.inl e));obtain⟨a,b,c⟩:=h.mem j l' i m g;exact⟨a,by omega,by rw[(w m J).2.2];exact c⟩
 ·intro j l' F;rcases Gd F with⟨rfl,_,rfl⟩|⟨t,i⟩
  ·rw[←hL];have bJ:=h.nodup j l G;cases tl with
   |false=>exact BC.2 ⟨v,bJ⟩
   |true=>exact Cp.2 ⟨bJ,by simp,λa ha b hb=>by simp at hb;subst hb;exact λe=>v (e▸ha)⟩
  ·exact h.nodup j l' i
 ·intro j l' F;rcases Gd F with⟨rfl,_,rfl⟩|⟨t,i⟩
  ·omega
  ·exact h.iy j l' i
 ·have e1:(if tl then l.map (CW A)++[⟨key,f⟩]else⟨key,f⟩::l.map (CW A))=L.map (CW D):=by
   have e2:l.map (CW A)=l.map (CW D):=DS (λm g=>(eo m (λe=>v (e▸g))).symm);have e3:(⟨key,f⟩:Gp)=CW D A.place:=by unfold CW;rw[np.1,np.2.1]
   rw[←hL,e2,e3];cases tl<;>simp
  rw[e1,h.nH,Ph (λj l' _ M=>DS (λm g=>eo m (λe=>R.new j l' M (e▸g))))]
 ·intro p m;have e0:D.idx p=if p=key then some A.place else A.idx p:=by
   unfold Am.idx;rw[u.at_,Z,Jm];unfold Am.idx at N;by_cases bL:p=key
   ·subst bL;rw[Al rfl];cases o:A.at_.find? (λy=>y.1==p)with
    |some y=>rw[o]at N;cases N
    |none=>simp
   ·rw[Ai bL];cases o:A.at_.find? (λy=>y.1==p)with
    |some y=>simp
    |none=>simp;omega
  rw[e0];constructor
  ·intro o;split at o
   ·rename_i e;subst e;injection o with o;subst o;exact⟨k,L,by rw[Bk];simp[h.len,hk],(E _).2 (.inl rfl),np.1⟩
   ·obtain⟨j,l',a,b,c⟩:=(h.idx p m).1 o;have s:m≠A.place:=λe=>R.new j l' a (e▸b);by_cases t:j=k
    ·subst t;rw[G]at a;injection a with a;subst a;exact⟨j,L,by rw[Bk];simp[h.len,hk],(E _).2 (.inr b),by rw[(w m s).1];exact c⟩
    ·exact⟨j,l',by rw[Bk,Ai (λe=>t e.symm)];exact a,b,by rw[(w m s).1];exact c⟩
  ·rintro⟨j,l',a,b,c⟩;rcases Gd a with⟨rfl,_,rfl⟩|⟨t,i⟩
   ·rcases(E m).1 b with rfl|o
    ·rw[np.1]at c;rw[Al c.symm]
    ·have s:m≠A.place:=λe=>v (e▸o);rw[(w m s).1]at c;rw[Ai (λe=>P _ _ m G o (c.trans e))];exact(h.idx p m).2 ⟨j,l,G,o,c⟩
   ·have s:m≠A.place:=λe=>R.new j l' i (e▸b);rw[(w m s).1]at c;rw[Ai (λe=>P _ _ m i b (c.trans e))];exact(h.idx p m).2 ⟨j,l',i,b,c⟩
 ·rw[u.at_,Z,Cb,Cp];refine⟨h.qP,by simp,λa ha b hb=>?_⟩;simp at hb;subst hb;rintro rfl;obtain⟨y,hy,bW⟩:=AE.1 ha;unfold Am.idx at N;have:A.at_.find? (λy=>y.1==a)=none:=by
   cases o:A.at_.find? (λy=>y.1==a)with
   |none=>rfl
   |some z=>rw[o]at N;cases N
  rw[IL]at this;exact this y hy (by simpa using bW)
 ·intro m g;rw[u.free,S]at g;obtain⟨a,b⟩:=R.free m g;obtain⟨c,d,e⟩:=h.free m a;have:=R.le;exact⟨c,by omega,by rw[(w m b).2.2];exact e⟩
 ·rw[u.free,S];exact R.nodup
 ·rw[T,R.qN,u.free,S,PE];omega
 ·rw[T,U];rcases R.grow with O|⟨O,h2⟩
  ·omega
  ·rw[O]at hc;have hs:(ns.map List.length).sum+1<=50*A.qs.length:=by
    have e1:((ns.set k L).map List.length).sum<=50*A.qs.length:=by
     have:=Vn ((ns.set k L).map List.length) 50 (λx o=>by
      obtain⟨l',bX,rfl⟩:=AE.1 o;obtain⟨j,F⟩:=Jh.1 bX;rcases Gd F with⟨_,_,rfl⟩|⟨t,i⟩
      ·omega
      ·exact h.iy j l' i)
     simpa[h.len]using this
    rw[PE]at e1;omega
   simp at hc;omega
theorem CE.gI (h:CE A ns qs) {n k:Nat}{l1 l2:List Nat}(f:Int) (s:ns[k]?=some (l1++n::l2)) (z:0<=f/\f<=1000):
  CE (A.setNode n {(A.node n)with bI:=f}) ns (qs.set k ((l1++n::l2).map (CW A)|>.set l1.length ⟨(A.node n).key,f⟩)):=by
 have B:=h.mem k _ s n (by simp);have o:=B.2.1;have t:=h.bd.at_ o;have nd:∀m,(A.setNode n {(A.node n)with bI:=f}).node m=if m=n then {(A.node n)with bI:=f}else A.node m:=λm=>DI o _ m;have i:(A.setNode n {(A.node n)with bI:=f}).l.length=A.l.length:=I6 _ _;have C:=h.bd.setNode n {(A.node n)with bI:=f} ⟨t.1,t.2.1,t.2.2.1,z.1,z.2⟩;have g:∀m,((A.setNode n {(A.node n)with bI:=f}).node m).key=(A.node m).key/\((A.setNode n {(A.node n)with bI:=f}).node m).prev=(A.node m).prev/\
   ((A.setNode n {(A.node n)with bI:=f}).node m).next=(A.node m).next/\((A.setNode n {(A.node n)with bI:=f}).node m).q=(A.node m).q:=by
  intro m;rw[nd];split
  ·rename_i e;subst e;exact⟨rfl,rfl,rfl,rfl⟩
  ·exact⟨rfl,rfl,rfl,rfl⟩
 have u:∀m,m≠n->CW (A.setNode n {(A.node n)with bI:=f}) m=CW A m:=by intro m v;unfold CW;rw[nd,Ai v]
 have D:CW (A.setNode n {(A.node n)with bI:=f}) n=⟨(A.node n).key,f⟩:=by unfold CW;rw[nd,Al rfl]
 refine⟨C,h.len,h.q8,h.ends,λj l r=>LQ.congr (λm _=>⟨(g m).2.1,(g m).2.2.1⟩) (h.oh j l r),λj l r m d=>by rw[i,(g m).2.2.2];exact h.mem j l r m d,
  h.nodup,h.iy,?_,λkey m=>?_,h.qP,λm d=>by rw[i,(g m).2.2.2];exact h.free m d,h.nI,by rw[i];exact h.qN,by rw[i];exact h.lb⟩
 ·have p:=Cp.1 (h.nodup k _ s);have w:=(BC.1 p.2.1).1;have x:∀m∈l1,m≠n:=λm d=>p.2.2 m d n (by simp);have e1:((l1++n::l2).map (CW A)).set l1.length ⟨(A.node n).key,f⟩=(l1++n::l2).map (CW (A.setNode n {(A.node n)with bI:=f})):=by rw[Cb,BS,Nk _ _ (by simp)];simp only[Ft,PD,Qe,Cb,BS,D];rw[DS (λm d=>(u m (x m d)).symm),DS (l:=l2) (λm d=>(u m (λe=>w (e▸d))).symm)]
  rw[e1,h.nH,Ph (λj l r y=>DS (λm d=>u m (λe=>by
   have:=(h.mem j l y m d).2.2;rw[e,B.2.2]at this;omega)))]
  congr 1;apply Fj;intro j;rw[Bk];split
  ·rename_i e;subst e;split
   ·exact s.symm
   ·rw[Bl (by omega)]
  ·rfl
 ·rw[show(A.setNode n {(A.node n)with bI:=f}).idx key=A.idx key from rfl,h.idx key m];constructor
  ·rintro⟨j,l,a,b,c⟩;exact⟨j,l,a,b,(g m).1.trans c⟩
  ·rintro⟨j,l,a,b,c⟩;exact⟨j,l,a,b,(g m).1.symm.trans c⟩
theorem CE.new (n:Nat) (g:n<=8):CE ⟨[⟨0,0,0,0,0⟩],[],List.replicate n ⟨0,0,0⟩,[]⟩ (List.replicate n []) (List.replicate n []):=by
 have c:∀(k:Nat) (l:List Nat),(List.replicate n ([]:List Nat))[k]?=some l->l=[]/\k<n:=by
  intro k l h;rw[By]at h;split at h
  ·injection h with h;exact⟨h.symm,by assumption⟩
  ·cases h
 refine⟨⟨?_,?_⟩,by simp,by simpa using g,?_,?_,?_,?_,?_,by simp,?_,by simp,by simp,by simp,by simp,by simp⟩
 ·intro m x d;cases m with
  |zero=>
   simp at d;subst d;exact⟨by simp,by simp,by simp,by simp,by simp⟩
  |succ m=>simp at d
 ·intro q x d;simp only[By]at d;split at d
  ·injection d with d;subst d;exact⟨by simp,by simp,by simp⟩
  ·cases d
 ·intro k l e;obtain⟨rfl,f⟩:=c k l e;unfold Am.ends;simp[By,f]
 ·intro k l e;obtain⟨rfl,f⟩:=c k l e;trivial
 ·intro k l e;obtain⟨rfl,f⟩:=c k l e;simp
 ·intro k l e;obtain⟨rfl,f⟩:=c k l e;simp
 ·intro k l e;obtain⟨rfl,f⟩:=c k l e;simp
 ·intro key m;constructor
  ·intro h;cases h
  ·rintro⟨k,l,a,b,_⟩;obtain⟨rfl,f⟩:=c k l a;cases b
end
theorem O4 (p:UInt8->Bool) (s:Ah) (i:Nat) (h:i<=s.length):i<=skip p s i/\skip p s i<=s.length:=by unfold skip;have a:=(List.takeWhile_sublist (p:=p) (l:=s.drop i)).length_le;rw[TN]at a;omega
theorem NP (p:UInt8->Bool) (s:Ah) (i:Nat) (c:UInt8) (h:s[i]?=some c) (a:p c=true):i<skip p s i:=by obtain⟨b,d⟩:=Aj.1 h;unfold skip;rw[DO b,d];simp[a]
theorem J8 (s:Ah) (i:Nat) (h:i<=s.length):
  i<=(E9 s i).1.pos/\(E9 s i).1.pos<=(E9 s i).2/\(E9 s i).2<=s.length/\((E9 s i).1.kind≠Ek->(E9 s i).1.kind≠Bx->(E9 s i).1.pos<(E9 s i).2):=by
 obtain⟨b,f⟩:=O4 blank s i h;cases a:s[skip blank s i]? with
 |none=>
  have e:E9 s i=(⟨Ek,[],skip blank s i⟩,skip blank s i):=by unfold E9;simp only[a]
  rw[e];exact⟨b,Ab _,f,λh=>absurd rfl h⟩
 |some c=>
  have k:skip blank s i<s.length:=by
   rcases Be (skip blank s i) s.length with h|h
   ·exact h
   ·rw[Bl h]at a;cases a
  cases d:low c with
  |true=>
   obtain⟨l1,l2⟩:=O4 low s (skip blank s i) f;have l:=NP low s _ c a d;by_cases g:8<skip low s (skip blank s i)-skip blank s i
   ·have e:E9 s i=(⟨Bx,[],skip blank s i⟩,skip blank s i):=by unfold E9;simp only[a,d,A7,g]
    rw[e];exact⟨b,Ab _,f,λ_ h=>absurd rfl h⟩
   ·have e:(E9 s i).1.pos=skip blank s i/\(E9 s i).2=skip low s (skip blank s i):=by unfold E9;simp only[a,d,A7,g,A8,and_self]
    rw[e.1,e.2];exact⟨b,l1,l2,λ_ _=>l⟩
  |false=>
   cases j:Gq c with
   |true=>
    obtain⟨l1,l2⟩:=O4 Gq s (skip blank s i) f;have l:=NP Gq s _ c a j;by_cases g:3<skip Gq s (skip blank s i)-skip blank s i
    ·have e:E9 s i=(⟨Bx,[],skip blank s i⟩,skip blank s i):=by unfold E9;simp only[a,d,j,A7,g,Ap,A8]
     rw[e];exact⟨b,Ab _,f,λ_ h=>absurd rfl h⟩
    ·have e:(E9 s i).1.pos=skip blank s i/\(E9 s i).2=skip Gq s (skip blank s i):=by unfold E9;simp only[a,d,j,A7,g,A8,Ap,and_self]
     rw[e.1,e.2];exact⟨b,l1,l2,λ_ _=>l⟩
   |false=>
    cases m:Im c with
    |true=>
     have e:E9 s i=(⟨[c],[c],skip blank s i⟩,skip blank s i+1):=by unfold E9;simp only[a,d,j,m,A7,Ap,A8]
     rw[e];exact⟨b,Cc _,k,λ_ _=>Ef _⟩
    |false=>
     have e:E9 s i=(⟨Bx,[],skip blank s i⟩,skip blank s i):=by unfold E9;simp only[a,d,j,m,Ap,A8]
     rw[e];exact⟨b,Ab _,f,λ_ h=>absurd rfl h⟩
def UY (l:Ah):Prop:=1<=l.length/\l.length<=3/\∀c∈l,Gq c=true
theorem QH (p:UInt8->Bool) (s:Ah) (i:Nat):Dm s i (skip p s i)=(s.drop i).takeWhile p:=by unfold Dm skip;rw[XF,B7];exact(List.prefix_iff_eq_take.1 (List.takeWhile_prefix p)).symm
theorem T8:¬Bw∈A3:=by decide
theorem M6 (p:UInt8->Bool):∀(l:Ah),∀c∈l.takeWhile p,p c=true
 | [],c,h=>by simp at h
 |x::l,c,h=>by
  by_cases a:p x=true
  ·rw[List.takeWhile_cons_of_pos a]at h;rcases AA.1 h with rfl|h
   ·exact a
   ·exact M6 p l c h
  ·rw[List.takeWhile_cons_of_neg a]at h;cases h
theorem i9 (s:Ah) (i:Nat) (a:(E9 s i).1.kind=Bw):UY (E9 s i).1.text:=by
 cases b:s[skip blank s i]? with
 |none=>
  have e:E9 s i=(⟨Ek,[],skip blank s i⟩,skip blank s i):=by unfold E9;simp only[b]
  rw[e]at a;exact absurd (show Ek=Bw from a) (by decide)
 |some c=>
  cases d:low c with
  |true=>
   by_cases f:8<skip low s (skip blank s i)-skip blank s i
   ·have e:E9 s i=(⟨Bx,[],skip blank s i⟩,skip blank s i):=by unfold E9;simp only[b,d,A7,f]
    rw[e]at a;exact absurd (show Bx=Bw from a) (by decide)
   ·have e:(E9 s i).1.kind=if A3.contains (Dm s (skip blank s i) (skip low s (skip blank s i)))then Dm s (skip blank s i) (skip low s (skip blank s i))else Ch:=by unfold E9;simp only[b,d,A7,f,A8]
    rw[e]at a;by_cases h:A3.contains (Dm s (skip blank s i) (skip low s (skip blank s i)))=true
    ·rw[Al h]at a;rw[a]at h;exact absurd (CP.1 h) T8
    ·rw[Ai h]at a;exact absurd (show Ch=Bw from a) (by decide)
  |false=>
   cases g:Gq c with
   |true=>
    by_cases f:3<skip Gq s (skip blank s i)-skip blank s i
    ·have e:E9 s i=(⟨Bx,[],skip blank s i⟩,skip blank s i):=by unfold E9;simp only[b,d,g,A7,f,Ap,A8]
     rw[e]at a;exact absurd (show Bx=Bw from a) (by decide)
    ·have e:(E9 s i).1.text=Dm s (skip blank s i) (skip Gq s (skip blank s i)):=by unfold E9;simp only[b,d,g,A7,f,A8,Ap]
     have k:=NP Gq s _ c b g;rw[e,QH];have l:skip Gq s (skip blank s i)=skip blank s i+((s.drop (skip blank s i)).takeWhile Gq).length:=rfl;generalize skip Gq s (skip blank s i)=x at*;exact⟨by omega,by omega,M6 Gq _⟩
   |false=>
    cases j:Im c with
    |true=>
     have e:E9 s i=(⟨[c],[c],skip blank s i⟩,skip blank s i+1):=by unfold E9;simp only[b,d,g,j,A7,Ap,A8]
     rw[e]at a;have:=AH List.length (show [c]=Bw from a);exact absurd this (by simp)
    |false=>
     have e:E9 s i=(⟨Bx,[],skip blank s i⟩,skip blank s i):=by unfold E9;simp only[b,d,g,j,Ap,A8]
     rw[e]at a;exact absurd (show Bx=Bw from a) (by decide)
def sO (l:Ah):Prop:=1<=l.length/\l.length<=8/\(∀c∈l,low c=true)/\¬l∈A3
theorem lD:¬Ch∈A3:=by decide
theorem bu (s:Ah) (i:Nat) (a:(E9 s i).1.kind=Ch):sO (E9 s i).1.text:=by
 cases b:s[skip blank s i]? with
 |none=>
  have e:E9 s i=(⟨Ek,[],skip blank s i⟩,skip blank s i):=by unfold E9;simp only[b]
  rw[e]at a;exact absurd (show Ek=Ch from a) (by decide)
 |some c=>
  cases d:low c with
  |true=>
   by_cases f:8<skip low s (skip blank s i)-skip blank s i
   ·have e:E9 s i=(⟨Bx,[],skip blank s i⟩,skip blank s i):=by unfold E9;simp only[b,d,A7,f]
    rw[e]at a;exact absurd (show Bx=Ch from a) (by decide)
   ·have e:(E9 s i).1.kind=if A3.contains (Dm s (skip blank s i) (skip low s (skip blank s i)))then Dm s (skip blank s i) (skip low s (skip blank s i))else Ch:=by unfold E9;simp only[b,d,A7,f,A8]
    have e1:(E9 s i).1.text=Dm s (skip blank s i) (skip low s (skip blank s i)):=by unfold E9;simp only[b,d,A7,f,A8]
    rw[e]at a;by_cases g:A3.contains (Dm s (skip blank s i) (skip low s (skip blank s i)))=true
    ·rw[Al g]at a;rw[a]at g;exact absurd (CP.1 g) lD
    ·have m:=NP low s _ c b d;have k:¬(s.drop (skip blank s i)).takeWhile low∈A3:=by rw[←QH];exact λh=>g (CP.2 h)
     rw[e1,QH];have n:skip low s (skip blank s i)=skip blank s i+((s.drop (skip blank s i)).takeWhile low).length:=rfl;generalize skip low s (skip blank s i)=x at*;exact⟨by omega,by omega,M6 low _,k⟩
  |false=>
   cases j:Gq c with
   |true=>
    by_cases f:3<skip Gq s (skip blank s i)-skip blank s i
    ·have e:E9 s i=(⟨Bx,[],skip blank s i⟩,skip blank s i):=by unfold E9;simp only[b,d,j,A7,f,Ap,A8]
     rw[e]at a;exact absurd (show Bx=Ch from a) (by decide)
    ·have e:(E9 s i).1.kind=Bw:=by unfold E9;simp only[b,d,j,A7,f,A8,Ap]
     rw[e]at a;exact absurd (show Bw=Ch from a) (by decide)
   |false=>
    cases l:Im c with
    |true=>
     have e:E9 s i=(⟨[c],[c],skip blank s i⟩,skip blank s i+1):=by unfold E9;simp only[b,d,j,l,A7,Ap,A8]
     rw[e]at a;have:=AH List.length (show [c]=Ch from a);exact absurd this (by simp)
    |false=>
     have e:E9 s i=(⟨Bx,[],skip blank s i⟩,skip blank s i):=by unfold E9;simp only[b,d,j,l,Ap,A8]
     rw[e]at a;exact absurd (show Bx=Ch from a) (by decide)
def left (s:Ah) (st:PS):Nat:=s.length+1-st.t.pos
structure PS.Ok (s:Ah) (st:PS):Prop where
 i:st.i<=s.length
 pos:st.t.pos<=st.i
 more:st.t.kind≠Ek->st.t.kind≠Bx->st.t.pos<st.i
 num:st.t.kind=Bw->UY st.t.text
 name:st.t.kind=Ch->sO st.t.text
theorem Ce {s:Ah}{st:PS}(h:st.Ok s):(next s st).Ok s:=by obtain⟨a,b,c,d⟩:=J8 s st.i h.i;exact⟨c,b,d,i9 s st.i,bu s st.i⟩
theorem Yc {s:Ah}{st:PS}(h:st.Ok s) (e:st.t.kind≠Ek) (f:st.t.kind≠Bx):left s (next s st)<left s st:=by obtain⟨a,b,c,d⟩:=J8 s st.i h.i;have:=h.more e f;have:=h.i;unfold left;show s.length+1-(E9 s st.i).1.pos<_;omega
theorem az (s:Ah):(start s).Ok s:=by obtain⟨a,b,c,d⟩:=J8 s 0 (AM _);exact⟨c,b,d,i9 s 0,bu s 0⟩
theorem Pi {s:Ah}{st:PS}(h:st.Ok s):0<left s st:=by have:=h.pos;have:=h.i;unfold left;omega
structure Gn (s:Ah) (st st':PS):Prop where
 ok:st'.Ok s
 left:left s st'<=left s st
 decls:st'.decls=st.decls
 bI:st'.bI=st.bI
 bX:st'.bX=st.bX
 rules:st'.rules=st.rules
 depth:st'.depth=st.depth
 loops:st'.loops=st.loops
 bJ:st'.bJ=none->st.bJ=none
section
variable {s:Ah}{st st' be:PS}
theorem Gn.refl (h:st.Ok s):Gn s st st:=⟨h,Ab _,rfl,rfl,rfl,rfl,rfl,rfl,id⟩
theorem Gn.trans (h:Gn s st st') (k:Gn s st' be):Gn s st be:=
 ⟨k.ok,Ad k.left h.left,k.decls.trans h.decls,k.bI.trans h.bI,k.bX.trans h.bX,k.rules.trans h.rules,k.depth.trans h.depth,k.loops.trans h.loops,λx=>h.bJ (k.bJ x)⟩
theorem Gn.next (h:st.Ok s):Gn s st (next s st):=by refine⟨Ce h,?_,rfl,rfl,rfl,rfl,rfl,rfl,id⟩;obtain⟨a,b,c,d⟩:=J8 s st.i h.i;have:=h.pos;unfold Ev.left;show s.length+1-(E9 s st.i).1.pos<=_;omega
theorem zW11 (e pos:Nat) (st:PS):(note e pos st).t=st.t/\(note e pos st).i=st.i:=by unfold note;cases st.bJ<;>exact⟨rfl,rfl⟩
theorem Gn.note (h:st.Ok s) (e pos:Nat):Gn s st (note e pos st):=by
 obtain⟨a,b⟩:=zW11 e pos st;refine⟨⟨by rw[b];exact h.i,by rw[a,b];exact h.pos,by rw[a,b];exact h.more,by rw[a];exact h.num,by rw[a];exact h.name⟩,by unfold Ev.left;rw[a];exact Ab _,?_,?_,?_,?_,?_,?_,?_⟩
 all_goals unfold Ev.note
 all_goals cases c:st.bJ<;>simp_all
theorem Fy (e pos:Nat) (st:PS):(note e pos st).bJ≠none:=by unfold note;cases a:st.bJ<;>simp[a]
theorem BH {k:Ah}{t:M9}(h:want s k st= .ok t st'):st.t.kind=k/\t=st.t/\st'=next s st:=by
 unfold want at h;split at h
 ·injection h with a b;exact⟨by assumption,a.symm,b.symm⟩
 ·cases h
theorem AD {α β:Type}{x:AQ α}{f:α->PS->AQ β}{b:β}{st:PS}(h:x.bind f= .ok b st):∃a st1,x= .ok a st1/\f a st1= .ok b st:=by
 cases x with
 |ok a st1=>exact⟨a,st1,rfl,h⟩
 |bad e p=>cases h
theorem NY {α β:Type}{x:AQ α}{f:α->β}{b:β}{st:PS}(h:x.map f= .ok b st):∃a,x= .ok a st/\f a=b:=by
 cases x with
 |ok a st1=>injection h with c d;exact⟨a,by rw[d],c⟩
 |bad e p=>cases h
theorem D6 (h:st.Ok s) {k:Ah}(a:st.t.kind=k) (b:k≠Ek) (c:k≠Bx):left s (next s st)<left s st:=
 Yc h (by rw[a];exact b) (by rw[a];exact c)
theorem GB {a b n:Int}(h:st.Ok s) (e:number s a b st= .ok n st'):Gn s st st'/\left s st'<left s st/\(st'.bJ=none->a<=n/\n<=b):=by
 unfold number at e;obtain⟨t,st1,e1,c⟩:=AD e;obtain⟨i,rfl,rfl⟩:=BH e1;injection c with c d;subst c;have j:=Ce h;have g:=D6 h i (by decide) (by decide);split at d
 ·subst d;have f:=Gn.note j Lt st.t.pos;exact⟨(Gn.next h).trans f,dD f.left g,λk=>absurd k (Fy _ _ _)⟩
 ·subst d;exact⟨Gn.next h,g,λ_=>by omega⟩
theorem JC (name:Ah):∀(l:List Bi) (k:Nat),Dh name l k= -1\/∃(i:Nat) (d:Bi),l[i]?=some d/\d.name=name/\Dh name l k=((k+i:Nat):Int)
 | [],k=>.inl rfl
 |d::l,k=>by
  by_cases h:d.name=name
  ·exact .inr ⟨0,d,rfl,h,by rw[Dh,Al h];rfl⟩
  ·rcases JC name l (k+1)with a|⟨i,b,a,c,e⟩
   ·exact .inl (by rw[Dh,Ai h,a])
   ·exact .inr ⟨i+1,b,by simpa using a,c,by rw[Dh,Ai h,e];congr 1;omega⟩
def EH (l:List Bi) (v:Bool) (k:Int):Prop:=Ix l.length k/\((Aq l k).kind==2)=v
theorem E7 {v:Bool}{k:Int}(h:st.Ok s) (e:name s v st= .ok k st'):Gn s st st'/\left s st'<left s st/\(st'.bJ=none->EH st.decls v k):=by
 unfold name at e;obtain⟨t,st1,e1,b⟩:=AD e;obtain⟨m,rfl,rfl⟩:=BH e1;injection b with b a;have j:=Ce h;have c:=D6 h m (by decide) (by decide);have n:(next s st).decls=st.decls:=rfl;unfold Cw at a;rw[n]at b a;split at a
 ·subst a;have f:=Gn.note j YA st.t.pos;exact⟨(Gn.next h).trans f,dD f.left c,λg=>absurd g (Fy _ _ _)⟩
 ·split at a
  ·subst a;have f:=Gn.note j Uk st.t.pos;exact⟨(Gn.next h).trans f,dD f.left c,λg=>absurd g (Fy _ _ _)⟩
  ·rename_i o p;subst a;refine⟨Gn.next h,c,λ_=>⟨?_,?_⟩⟩
   ·rcases JC st.t.text st.decls 0 with l|⟨i,d,q,_,l⟩
    ·exact absurd (show find st.decls st.t.text<0 by unfold find;omega) o
    ·have:=(Aj.1 q).1;rw[←b];unfold find Ix;rw[l];omega
   ·rw[←b];simpa using p
def Wx (l:List Bi):Ra->Prop
 | .num n=>0<=n/\n<=999
 | .var n=>EH l true n
 | .len n=>EH l false n
 | .bI=>True
def Z3 (l:List Bi):CK->Prop
 | .full n=>EH l false n
 | .empty n=>EH l false n
 | .fC n=>EH l false n
 | .less a b=>Wx l a/\Wx l b
def jA (l:List Bi):D4->Prop
 | .put q _=>EH l false q
 | .cu q=>EH l false q
 | .dV q=>EH l false q
 | .shift q p _=>EH l false q/\EH l false p
 | .inc v=>EH l true v
 | .dec v=>EH l true v
 |_=>True
def Ed (l:List Bi):Az->Prop
 | .nil=>True
 | .bN p r=>jA l p/\Ed l r
 | .ite c t o e r=>Z3 l c.k/\Ed l t/\Ed l e/\Ed l r
 | .rep n c b r=>Z3 l c.k/\Ed l b/\Ed l r/\1<=n/\n<=50
def Az.Form:Az->Prop
 | .nil=>True
 | .bN _ r=>r.Form
 | .ite _ t o e r=>t.Form/\e.Form/\r.Form/\(o=false->e= .nil)
 | .rep _ _ b r=>b.Form/\r.Form
def Az.deep:Az->Nat
 | .nil=>0
 | .bN _ r=>r.deep
 | .ite _ t o e r=>max (1+t.deep) (max (if o then 1+e.deep else 0) r.deep)
 | .rep _ _ b r=>max (1+b.deep) r.deep
def Az.nest:Az->Nat
 | .nil=>0
 | .bN _ r=>r.nest
 | .ite _ t _ e r=>max t.nest (max e.nest r.nest)
 | .rep _ _ b r=>max (1+b.nest) r.nest
def Az.size:Az->Nat
 | .nil=>0
 | .bN _ r=>1+r.size
 | .ite _ t _ e r=>1+t.size+e.size+r.size
 | .rep _ _ b r=>1+b.size+r.size
theorem Ow {l:List Bi}:∀(b r:Az),Ed l (b.app r)↔Ed l b/\Ed l r
 | .nil,r=>by simp[Az.app,Ed]
 | .bN p x,r=>by simp[Az.app,Ed,Ow x r,and_assoc]
 | .ite c t o e x,r=>by simp[Az.app,Ed,Ow x r,and_assoc]
 | .rep n c b x,r=>by
  simp only[Az.app,Ed,Ow x r];constructor
  ·rintro⟨a,b,⟨c,d⟩,e⟩;exact⟨⟨a,b,c,e⟩,d⟩
  ·rintro⟨⟨a,b,c,e⟩,d⟩;exact⟨a,b,⟨c,d⟩,e⟩
theorem SR:∀(b r:Az),b.Form->r.Form->(b.app r).Form
 | .nil,r,_,h=>h
 | .bN p x,r,a,h=>SR x r a h
 | .ite c t o e x,r,⟨d,f,g,i⟩,h=>⟨d,f,SR x r g h,i⟩
 | .rep n c b x,r,⟨d,f⟩,h=>⟨d,SR x r f h⟩
theorem SQ:∀(b r:Az),(b.app r).deep=max b.deep r.deep
 | .nil,r=>by simp[Az.app,Az.deep]
 | .bN p x,r=>by simp[Az.app,Az.deep,SQ x r]
 | .ite c t o e x,r=>by simp only[Az.app,Az.deep,SQ x r];omega
 | .rep n c b x,r=>by simp only[Az.app,Az.deep,SQ x r];omega
theorem SP:∀(b r:Az),(b.app r).nest=max b.nest r.nest
 | .nil,r=>by simp[Az.app,Az.nest]
 | .bN p x,r=>by simp[Az.app,Az.nest,SP x r]
 | .ite c t o e x,r=>by simp only[Az.app,Az.nest,SP x r];omega
 | .rep n c b x,r=>by simp only[Az.app,Az.nest,SP x r];omega
theorem JN:∀(b r:Az),(b.app r).size=b.size+r.size
 | .nil,r=>by simp[Az.app,Az.size]
 | .bN p x,r=>by simp only[Az.app,Az.size,JN x r];omega
 | .ite c t o e x,r=>by simp only[Az.app,Az.size,JN x r];omega
 | .rep n c b x,r=>by simp only[Az.app,Az.size,JN x r];omega
theorem EH.ix {l:List Bi}{v:Bool}{k:Int}(h:EH l v k):Ix l.length k:=h.1
theorem Ed.ok {l:List Bi}:∀(b:Az),Ed l b->b.Form->MN l b
 | .nil,_,_=>trivial
 | .bN p r,⟨a,b⟩,h=>by
  refine⟨?_,Ed.ok r b h⟩;have v:∀{k:Int},EH l false k->(Aq l k).kind≠2:=λh e=>by have:=h.2;rw[e]at this;exact absurd this (by decide)
  cases p
  case shift=>exact⟨a.1.ix,a.2.ix,v a.2⟩
  case put=>exact⟨EH.ix a,v a⟩
  case drop=>trivial
  case bump=>trivial
  all_goals exact EH.ix a
 | .ite c t o e r,⟨a,b,d,f⟩,⟨j,m,w,z⟩=>by
  refine⟨?_,Ed.ok t b j,Ed.ok e d m,Ed.ok r f w,z⟩;cases i:c.k with
  |less x y=>
   rw[i]at a;obtain⟨q,u⟩:=a;constructor
   ·cases x<;>first|trivial|exact EH.ix q
   ·cases y<;>first|trivial|exact EH.ix u
  |full n=>rw[i]at a;exact EH.ix a
  |empty n=>rw[i]at a;exact EH.ix a
  |fC n=>rw[i]at a;exact EH.ix a
 | .rep n c b r,⟨a,d,f,g,_⟩,⟨j,m⟩=>by
  refine⟨?_,Ed.ok b d j,Ed.ok r f m,by omega⟩;cases i:c.k with
  |less x y=>
   rw[i]at a;obtain⟨q,u⟩:=a;constructor
   ·cases x<;>first|trivial|exact EH.ix q
   ·cases y<;>first|trivial|exact EH.ix u
  |full n=>rw[i]at a;exact EH.ix a
  |empty n=>rw[i]at a;exact EH.ix a
  |fC n=>rw[i]at a;exact EH.ix a
theorem Rz {v:Ra}(h:st.Ok s) (e:value s st= .ok v st'):Gn s st st'/\left s st'<left s st/\(st'.bJ=none->Wx st.decls v):=by
 unfold value at e;split at e
 ·obtain⟨a,e1,rfl⟩:=NY e;exact GB h e1
 ·split at e
  ·rename_i b;obtain⟨a,e1,rfl⟩:=NY e;obtain⟨f,l,w⟩:=E7 (Ce h) e1;exact⟨(Gn.next h).trans f,Nat.lt_trans l (D6 h b (by decide) (by decide)),w⟩
  ·split at e
   ·rename_i b;injection e with e1 c;subst e1 c;exact⟨Gn.next h,D6 h b (by decide) (by decide),λ_=>trivial⟩
   ·obtain⟨a,e1,rfl⟩:=NY e;exact E7 h e1
theorem cY {c:C5}(h:st.Ok s) (e:E4 s st= .ok c st'):Gn s st st'/\left s st'<left s st/\(st'.bJ=none->Z3 st.decls c.k):=by
 have d:∀{k:Ah} {f:Int->C5},st.t.kind=k->k≠Ek->k≠Bx->(∀n,EH st.decls false n->Z3 st.decls (f n).k)->(name s false (next s st)).map f= .ok c st'->
   Gn s st st'/\left s st'<left s st/\(st'.bJ=none->Z3 st.decls c.k):=by
  intro k f i p q r e;obtain⟨a,e1,rfl⟩:=NY e;obtain⟨g,l,w⟩:=E7 (Ce h) e1;exact⟨(Gn.next h).trans g,Nat.lt_trans l (D6 h i p q),λx=>r _ (w x)⟩
 unfold E4 at e;split at e
 ·rename_i i;exact d (f:=λn=>⟨.full n,0⟩) i (by decide) (by decide) (λ_ x=>x) e
 ·split at e
  ·rename_i i;exact d (f:=λn=>⟨.empty n,0⟩) i (by decide) (by decide) (λ_ x=>x) e
  ·split at e
   ·rename_i i;exact d (f:=λn=>⟨.fC n,0⟩) i (by decide) (by decide) (λ_ x=>x) e
   ·obtain⟨a,st1,e1,u⟩:=AD e;obtain⟨t,v,y,z⟩:=AD u;obtain⟨b,A,rfl⟩:=NY z;obtain⟨m,l1,w1⟩:=Rz h e1;obtain⟨_,_,rfl⟩:=BH y;have j:=Gn.next m.ok;obtain⟨o,B,w3⟩:=Rz j.ok A;refine⟨(m.trans j).trans o,by have:=j.left;omega,λx=>⟨w1 (j.bJ (o.bJ x)),?_⟩⟩;have:=w3 x;rw[j.decls,m.decls]at this;exact this
theorem JH:∀{n:Nat}{st:PS}{c:C5},st.Ok s->cond s n st= .ok c st'->Gn s st st'/\left s st'<left s st/\(st'.bJ=none->Z3 st.decls c.k)
 |0,_,_,_,e=>by cases e
 |n+1,st,c,h,e=>by
  unfold cond at e;split at e
  ·rename_i b;obtain⟨a,e1,rfl⟩:=NY e;obtain⟨f,l,w⟩:=JH (Ce h) e1;exact⟨(Gn.next h).trans f,Nat.lt_trans l (D6 h b (by decide) (by decide)),w⟩
  ·exact cY h e
structure tE (s:Ah) (st st':PS) (b:Az):Prop where
 fwd:Gn s st st'
 w:st'.bJ=none->Ed st.decls b
 form:b.Form
 deep:st.depth+b.deep<=8
 nest:st.loops+b.nest<=2
 size:b.size+left s st'<=left s st
theorem pz {st st':PS}{x:D4}(f:Gn s st st') (l:left s st'<left s st) (w:st'.bJ=none->jA st.decls x) (a:st.depth<=8) (b:st.loops<=2):tE s st st' (.bN x .nil):=
 ⟨f,λy=>⟨w y,trivial⟩,trivial,by simp[Az.deep];exact a,by simp[Az.nest];exact b,by simp[Az.size];omega⟩
mutual
theorem DW:∀{n:Nat}{st st':PS}{b:Az},st.Ok s->st.depth<=8->st.loops<=2->block s n st= .ok b st'->
  Gn s st st'/\(st'.bJ=none->Ed st.decls b)/\b.Form/\st.depth+1+b.deep<=8/\st.loops+b.nest<=2/\b.size+2+left s st'<=left s st
 |0,_,_,_,_,_,_,e=>by unfold block at e;cases e
 |n+1,st,st',b,h,hd,hl,e=>by
  unfold block at e;split at e
  ·cases e
  ·rename_i h8;obtain⟨t,st1,e1,e2⟩:=AD e;obtain⟨b',st2,e3,e4⟩:=AD e2;obtain⟨hk,_,rfl⟩:=BH e1;injection e4 with e4 e5;subst e4;have f1:=Gn.next h;have l1:=D6 h hk (by decide) (by decide);have hd':st.depth<8:=by
    rcases Be st.depth 8 with x|x
    ·exact x
    ·exact absurd ⟨hk,by omega⟩ h8
   have ok1:({next s st with depth:=(next s st).depth+1}:PS).Ok s:=⟨f1.ok.i,f1.ok.pos,f1.ok.more,f1.ok.num,f1.ok.name⟩;obtain⟨g,hkc⟩:=ay ok1 (by show st.depth+1<=8;omega) hl e3;have g2:(st2.depth-1)=st.depth:=by have:=g.fwd.depth;simp at this;rw[this];rfl
   have ok2:({st2 with depth:=st2.depth-1}:PS).Ok s:=⟨g.fwd.ok.i,g.fwd.ok.pos,g.fwd.ok.more,g.fwd.ok.num,g.fwd.ok.name⟩;have f3:=Gn.next ok2;have l3:left s (next s {st2 with depth:=st2.depth-1})<left s st2:=D6 ok2 hkc (by decide) (by decide);have gl:=g.size;have gl':b'.size+left s st2<=left s (next s st):=gl;subst e5;refine⟨⟨f3.ok,by omega,f3.decls.trans g.fwd.decls,f3.bI.trans g.fwd.bI,f3.bX.trans g.fwd.bX,f3.rules.trans g.fwd.rules,f3.depth.trans g2,f3.loops.trans g.fwd.loops,λx=>g.fwd.bJ (f3.bJ x)⟩,
    λx=>g.w (f3.bJ x),g.form,g.deep,g.nest,by omega⟩
theorem ay:∀{n:Nat}{st st':PS}{b:Az},st.Ok s->st.depth<=8->st.loops<=2->FA s n st= .ok b st'->tE s st st' b/\st'.t.kind=DC
 |0,_,_,_,_,_,_,e=>by unfold FA at e;cases e
 |n+1,st,st',b,h,hd,hl,e=>by
  unfold FA at e;split at e
  ·rename_i hk;injection e with e1 e2;subst e1 e2;exact⟨⟨Gn.refl h,λ_=>trivial,trivial,by simp[Az.deep];exact hd,by simp[Az.nest];exact hl,by simp[Az.size]⟩,hk⟩
  ·obtain⟨x,st1,e1,e2⟩:=AD e;obtain⟨r,e3,rfl⟩:=NY e2;have g1:=YU h hd hl e1;obtain⟨g2,hc⟩:=ay g1.fwd.ok (by rw[g1.fwd.depth];exact hd) (by rw[g1.fwd.loops];exact hl) e3;refine⟨⟨g1.fwd.trans g2.fwd,λy=>(Ow _ _).2 ⟨g1.w (g2.fwd.bJ y),by have:=g2.w y;rw[g1.fwd.decls]at this;exact this⟩,SR _ _ g1.form g2.form,?_,?_,?_⟩,hc⟩
   ·have a:=g1.deep;have b:=g2.deep;rw[g1.fwd.depth]at b;rw[SQ];omega
   ·have a:=g1.nest;have b:=g2.nest;rw[g1.fwd.loops]at b;rw[SP];omega
   ·have a:=g1.size;have b:=g2.size;rw[JN];omega
theorem YU:∀{n:Nat}{st st':PS}{b:Az},st.Ok s->st.depth<=8->st.loops<=2->stmt s n st= .ok b st'->tE s st st' b
 |0,_,_,_,_,_,_,e=>by unfold stmt at e;cases e
 |n+1,st,st',b,h,hd,hl,e=>by
  have semi:∀{x:D4} {st1:PS},Gn s st st1->left s st1<left s st->(st1.bJ=none->jA st.decls x)->((want s AP st1).bind λ_ st=>.ok (.bN x .nil) st)=AQ.ok b st'->tE s st st' b:=by intro x st1 f l w e;obtain⟨t,st2,e1,e2⟩:=AD e;obtain⟨hk,_,rfl⟩:=BH e1;injection e2 with e2 e3;subst e2 e3;have f2:=Gn.next f.ok;exact pz (f.trans f2) (by have:=f2.left;omega) (λy=>w (f2.bJ y)) hd hl
  have tk:∀{k:Ah} {st1:PS},st1.Ok s->Gn s st1 (take s k st1).2:=by
   intro k st1 h1;unfold take;split
   ·exact Gn.next h1
   ·exact Gn.refl h1
  have nx:∀{k:Ah},st.t.kind=k->k≠Ek->k≠Bx->Gn s st (next s st)/\left s (next s st)<left s st:=λhk h1 h2=>⟨Gn.next h,D6 h hk h1 h2⟩;have one:∀{k:Ah} {v:Bool} {x:Int->D4},st.t.kind=k->k≠Ek->k≠Bx->(∀q,EH st.decls v q->jA st.decls (x q))->
    ((name s v (next s st)).bind λq st=>(want s AP st).bind λ_ st=>.ok (.bN (x q) .nil) st)=AQ.ok b st'->tE s st st' b:=by
   intro k v x hk h1 h2 hx e;obtain⟨f,l⟩:=nx hk h1 h2;obtain⟨q,st1,e1,e2⟩:=AD e;obtain⟨f1,l1,w1⟩:=E7 f.ok e1;exact semi (f.trans f1) (by omega) (λy=>hx q (w1 y)) e2
  unfold stmt at e
  extract_lets sm at e
  by_cases hk:st.t.kind=KP
  ·rw[Al hk]at e;obtain⟨f,l⟩:=nx hk (by decide) (by decide);obtain⟨q,st1,e1,e2⟩:=AD e;obtain⟨f1,l1,w1⟩:=E7 f.ok e1;have f2:=tk (k:=CJ) f1.ok;exact semi (x:=.put q (take s CJ st1).1) ((f.trans f1).trans f2) (by have:=f2.left;omega) (λy=>w1 (f2.bJ y)) e2
  rw[Ai hk]at e;by_cases hk:st.t.kind=Et
  ·rw[Al hk]at e;exact one (x:=.cu) hk (by decide) (by decide) (λ_ x=>x) e
  rw[Ai hk]at e;by_cases hk:st.t.kind=Io
  ·rw[Al hk]at e;exact one (x:=.dV) hk (by decide) (by decide) (λ_ x=>x) e
  rw[Ai hk]at e;by_cases hk:st.t.kind=Dq
  ·rw[Al hk]at e;obtain⟨f,l⟩:=nx hk (by decide) (by decide);obtain⟨q,st1,e1,e2⟩:=AD e;obtain⟨f1,l1,w1⟩:=E7 f.ok e1;obtain⟨q',st2,e3,e4⟩:=AD e2;obtain⟨f2,l2,w2⟩:=E7 f1.ok e3;have f3:=tk (k:=CJ) f2.ok;refine semi (x:=.shift q q' (take s CJ st2).1) (((f.trans f1).trans f2).trans f3) (by have:=f3.left;omega) (λy=>⟨w1 (f2.bJ (f3.bJ y)),?_⟩) e4;have:=w2 (f3.bJ y);rw[f1.decls]at this;exact this
  rw[Ai hk]at e;by_cases hk:st.t.kind=Mo
  ·rw[Al hk]at e;exact one (x:=.inc) hk (by decide) (by decide) (λ_ x=>x) e
  rw[Ai hk]at e;by_cases hk:st.t.kind=Mq
  ·rw[Al hk]at e;exact one (x:=.dec) hk (by decide) (by decide) (λ_ x=>x) e
  rw[Ai hk]at e;by_cases hk:st.t.kind=Ja
  ·rw[Al hk]at e;obtain⟨f,l⟩:=nx hk (by decide) (by decide);exact semi (x:=.drop) f l (λ_=>trivial) e
  rw[Ai hk]at e;by_cases hk:st.t.kind=Jb
  ·rw[Al hk]at e;obtain⟨f,l⟩:=nx hk (by decide) (by decide);exact semi (x:=.bump) f l (λ_=>trivial) e
  rw[Ai hk]at e;by_cases hk:st.t.kind=Jk
  ·rw[Al hk]at e;obtain⟨f,l⟩:=nx hk (by decide) (by decide);obtain⟨c,st1,e1,e2⟩:=AD e;obtain⟨f1,l1,w1⟩:=JH f.ok e1;obtain⟨t,st2,e3,e4⟩:=AD e2;have d1:st1.depth=st.depth:=(f.trans f1).depth;have p1:st1.loops=st.loops:=(f.trans f1).loops;obtain⟨f2,w2,m2,dd2,nn2,z2⟩:=DW f1.ok (by omega) (by omega) e3;split at e4
   ·rename_i hk2;obtain⟨el,st3,e5,e6⟩:=AD e4;have f3:=Gn.next f2.ok;have l3:=D6 f2.ok hk2 (by decide) (by decide);have d2:(next s st2).depth=st.depth:=(f2.trans f3).depth.trans d1;have p2:(next s st2).loops=st.loops:=(f2.trans f3).loops.trans p1;obtain⟨f4,w4,m4,dd4,nn4,z4⟩:=DW f3.ok (by omega) (by omega) e5;injection e6 with e6 e7;subst e6 e7;have F:=(((f.trans f1).trans f2).trans f3).trans f4;refine⟨F,λy=>?_,⟨m2,m4,trivial,λx=>by cases x⟩,?_,?_,?_⟩
    ·have y3:=f4.bJ y;have y2:=f3.bJ y3;have y1:=f2.bJ y2;refine⟨w1 y1,?_,?_,trivial⟩
     ·have:=w2 y2;rw[f1.decls]at this;exact this
     ·have:=w4 y;rw[f3.decls,f2.decls,f1.decls]at this;exact this
    ·simp only[Az.deep,A7];omega
    ·simp only[Az.nest];omega
    ·simp only[Az.size];omega
   ·injection e4 with e6 e7;subst e6 e7;refine⟨(f.trans f1).trans f2,λy=>?_,⟨m2,trivial,trivial,λ_=>rfl⟩,?_,?_,?_⟩
    ·have y1:=f2.bJ y;refine⟨w1 y1,?_,trivial,trivial⟩;have:=w2 y;rw[f1.decls]at this;exact this
    ·simp only[Az.deep,Ap,A8];omega
    ·simp only[Az.nest];omega
    ·simp only[Az.size];omega
  rw[Ai hk]at e;by_cases hk:st.t.kind=Bf
  ·rw[Al hk]at e;split at e
   ·cases e
   ·rename_i h2;obtain⟨f,l⟩:=nx hk (by decide) (by decide);obtain⟨k,st1,e1,e2⟩:=AD e;obtain⟨f1,l1,w1⟩:=GB f.ok e1;obtain⟨t,st2,e3,e4⟩:=AD e2;obtain⟨hk2,_,rfl⟩:=BH e3;have f2:=Gn.next f1.ok;obtain⟨c,st3,e5,e6⟩:=AD e4;obtain⟨f3,l3,w3⟩:=JH f2.ok e5;obtain⟨b',st4,e7,e8⟩:=AD e6;have F3:=((f.trans f1).trans f2).trans f3;have ok3:({st3 with loops:=st3.loops+1}:PS).Ok s:=⟨f3.ok.i,f3.ok.pos,f3.ok.more,f3.ok.num,f3.ok.name⟩;have d3:=F3.depth;have p3:=F3.loops;obtain⟨f4,w4,m4,dd4,nn4,z4⟩:=DW ok3 (by show st3.depth<=8;omega) (by show st3.loops+1<=2;omega) e7;injection e8 with e8 e9;subst e8 e9;have dd4':st3.depth+1+b'.deep<=8:=dd4;have nn4':st3.loops+1+b'.nest<=2:=nn4;have z4':b'.size+2+left s st4<=left s st3:=z4;have z5:left s ({st4 with loops:=st4.loops-1}:PS)=left s st4:=rfl;have hl2:=f2.left;refine⟨⟨⟨f4.ok.i,f4.ok.pos,f4.ok.more,f4.ok.num,f4.ok.name⟩,by omega,f4.decls.trans F3.decls,f4.bI.trans F3.bI,f4.bX.trans F3.bX,f4.rules.trans F3.rules,f4.depth.trans F3.depth,?_,λy=>F3.bJ (f4.bJ y)⟩,λy=>?_,⟨m4,trivial⟩,?_,?_,?_⟩
    ·have:=f4.loops;show st4.loops-1=st.loops;simp at this;omega
    ·have y3:=f4.bJ y;have y2:=f3.bJ y3;have y1:=f2.bJ y2;refine⟨?_,?_,trivial,w1 y1⟩
     ·have:=w3 y3;rw[f2.decls,f1.decls]at this;exact this
     ·have:=w4 y;have hd3:({st3 with loops:=st3.loops+1}:PS).decls=st.decls:=F3.decls;rw[hd3]at this;exact this
    ·simp only[Az.deep];omega
    ·simp only[Az.nest];omega
    ·simp only[Az.size];omega
  rw[Ai hk]at e;cases e
end
end
structure Aix (d:Bi):Prop where
 kind:d.kind<=2
 name:sO d.name
 lo:1<=d.max
 hi:d.max<=if d.kind=2 then 99 else 50
structure Kl (l:List Bi):Prop where
 len:l.length<=8
 each:∀d∈l,Aix d
 nodup:(l.map (·.name)).Nodup
def jH (seen:Bool) (f:Int):Prop:=if seen then 1<=f/\f<=99 else f=0
structure Ahe (l:List Bi) (x:Int×Az):Prop where
 key:x.1= -1\/EH l false x.1
 w:Ed l x.2
 form:x.2.Form
 deep:1+x.2.deep<=8
 nest:x.2.nest<=2
structure ZA (l:List Bi) (r:List (Int×Az)):Prop where
 each:∀x∈r,Ahe l x
 nodup:(r.map (·.1)).Nodup
def KY (r:List (Int×Az)):Nat:=(r.map (λx=>x.2.size)).sum
structure na (s:Ah) (st:PS):Prop where
 ok:st.Ok s
 depth:st.depth=0
 loops:st.loops=0
 dl:st.decls.length+left s st<=701
 rl:st.rules.length+left s st<=701
 sz:KY st.rules+left s st<=701
 w:st.bJ=none->Kl st.decls/\jH st.bX st.bI/\ZA st.decls st.rules
section
variable {s:Ah}{st st':PS}
theorem J5 (e pos:Nat) (st:PS):(note e pos st).decls=st.decls/\(note e pos st).bI=st.bI/\(note e pos st).bX=st.bX/\(note e pos st).rules=st.rules/\(note e pos st).depth=st.depth/\(note e pos st).loops=st.loops/\
  left s (note e pos st)=left s st:=by
 unfold note;cases a:st.bJ<;>exact⟨rfl,rfl,rfl,rfl,rfl,rfl,rfl⟩
theorem Wq (n:M9) (h:st.Ok s):Gn s st (Bh n st)/\left s (Bh n st)=left s st/\((Bh n st).bJ=none->find st.decls n.text<0/\st.decls.length≠8):=by
 unfold Bh;have d:Gn s st (if 0<=find st.decls n.text then note CY n.pos st else st)/\left s (if 0<=find st.decls n.text then note CY n.pos st else st)=left s st/\
   ((if 0<=find st.decls n.text then note CY n.pos st else st).bJ=none->find st.decls n.text<0):=by
  split
  ·exact⟨Gn.note h _ _,(J5 _ _ _).2.2.2.2.2.2,λx=>absurd x (Fy _ _ _)⟩
  ·exact⟨Gn.refl h,rfl,λ_=>by omega⟩
 simp only;generalize (if 0<=find st.decls n.text then note CY n.pos st else st)=st1 at*;obtain⟨a,b,c⟩:=d;split
 ·exact⟨a.trans (Gn.note a.ok _ _),(J5 _ _ _).2.2.2.2.2.2.trans b,λx=>absurd x (Fy _ _ _)⟩
 ·rename_i e;exact⟨a,b,λx=>⟨c x,by rw[←a.decls];exact e⟩⟩
theorem cF {l:List Bi}{name:Ah}(h:find l name<0):name∉l.map (·.name):=by
 intro c;obtain⟨d,e,rfl⟩:=AE.1 c;have:∀(l:List Bi) (k:Nat),d∈l->0<=Dh d.name l k:=by
  intro l
  induction l with
  |nil=>intro k h;cases h
  |cons x l f=>
   intro k a;rw[Dh];split
   ·omega
   ·rename_i b;rcases AA.1 a with rfl|a
    ·exact absurd rfl b
    ·exact f _ a
 have:=this l 0 e;unfold find at h;omega
theorem SJ (h:na s st) (A:isDecl st.t.kind=true) (D:st.rules=[]) (e:decl s st= .ok () st'):na s st'/\st'.rules=[]/\left s st'<left s st:=by
 have u:st.t.kind≠Ek/\st.t.kind≠Bx:=by
  constructor
  ·intro x;rw[x]at A;exact absurd A (by decide)
  ·intro x;rw[x]at A;exact absurd A (by decide)
 have l:=Gn.next h.ok;have l0:=Yc h.ok u.1 u.2;unfold decl at e;simp only at e;split at e
 ·obtain⟨n,st1,e1,E⟩:=AD e;obtain⟨t,f,G,v⟩:=AD E;injection v with _ v;subst v;obtain⟨R,_,rfl⟩:=BH G;have S:∃x:PS,x=(if(next s st).bX=true then note CY st.t.pos (next s st)else next s st)/\Gn s (next s st) x/\(x.bJ=none->(next s st).bX=false):=by
   refine⟨_,rfl,?_⟩;split
   ·exact⟨Gn.note l.ok _ _,λx=>absurd x (Fy _ _ _)⟩
   ·rename_i T;exact⟨Gn.refl l.ok,λ_=>by simpa using T⟩
  obtain⟨x,z,g,w1⟩:=S;rw[←z]at e1;have H:({x with bX:=true}:PS).Ok s:=⟨g.ok.i,g.ok.pos,g.ok.more,g.ok.num,g.ok.name⟩;obtain⟨j,l2,I⟩:=GB H e1;have J:({st1 with bI:=n}:PS).Ok s:=⟨j.ok.i,j.ok.pos,j.ok.more,j.ok.num,j.ok.name⟩;have k:=Gn.next J;have l1:=g.left;have U:left s st1<left s x:=l2;have V:left s (next s {st1 with bI:=n})<=left s st1:=k.left;have p:(next s {st1 with bI:=n}).decls=st.decls:=k.decls.trans (j.decls.trans (g.decls.trans l.decls));have r1:(next s {st1 with bI:=n}).rules=st.rules:=k.rules.trans (j.rules.trans (g.rules.trans l.rules));refine⟨⟨k.ok,k.depth.trans (j.depth.trans (g.depth.trans (l.depth.trans h.depth))),k.loops.trans (j.loops.trans (g.loops.trans (l.loops.trans h.loops))),?_,?_,?_,?_⟩,r1.trans D,by omega⟩
  ·rw[p];have:=h.dl;omega
  ·rw[r1];have:=h.rl;omega
  ·rw[r1];have:=h.sz;omega
  ·intro K;have q:=k.bJ K;have B:=j.bJ q;obtain⟨a,b,c⟩:=h.w (l.bJ (g.bJ B));refine⟨by rw[p];exact a,?_,by rw[p,r1];exact c⟩;have W:(next s {st1 with bI:=n}).bX=true:=k.bX.trans j.bX;have X:(next s {st1 with bI:=n}).bI=n:=k.bI;rw[W,X];exact I q
 ·obtain⟨n,st1,e1,E⟩:=AD e;obtain⟨m,f,G,v⟩:=AD E;obtain⟨t,Y,Z,L⟩:=AD v;injection L with _ L;subst L;obtain⟨M,rfl,rfl⟩:=BH e1;obtain⟨be,_,rfl⟩:=BH Z;have g:=Gn.next l.ok;obtain⟨j,l2,I⟩:=Wq (next s st).t g.ok;obtain⟨k,V,w3⟩:=GB j.ok G;have o:=Gn.next k.ok;have F:=(((l.trans g).trans j).trans k).trans o;obtain⟨bK,l1,l4⟩:=zp3 F.left g.left o.left;have N:({next s f with decls:=(next s f).decls++[⟨Eu st.t.kind,(next s st).t.text,m⟩]}:PS).Ok s:=⟨o.ok.i,o.ok.pos,o.ok.more,o.ok.num,o.ok.name⟩;have C:left s ({next s f with decls:=(next s f).decls++[⟨Eu st.t.kind,(next s st).t.text,m⟩]}:PS)=left s (next s f):=rfl;have p:(next s f).decls=st.decls:=F.decls;have r1:(next s f).rules=st.rules:=F.rules;refine⟨⟨N,F.depth.trans h.depth,F.loops.trans h.loops,?_,?_,?_,?_⟩,r1.trans D,by rw[C];omega⟩
  ·rw[C];show((next s f).decls++[_]).length+_<=701;rw[p];have:=h.dl;simp;omega
  ·rw[C];show(next s f).rules.length+_<=701;rw[r1];have:=h.rl;omega
  ·rw[C];show KY (next s f).rules+_<=701;rw[r1];have:=h.sz;omega
  ·intro K;have y4:(next s f).bJ=none:=K;have q:=o.bJ y4;have B:=k.bJ q;obtain⟨a,b,c⟩:=h.w (l.bJ (g.bJ (j.bJ B)));obtain⟨n1,n2⟩:=I B;have O:(next s (next s st)).decls=st.decls:=g.decls.trans l.decls;rw[O]at n1 n2;refine⟨?_,?_,?_⟩
   ·show Kl ((next s f).decls++[_]);rw[p];refine⟨by have:=a.len;simp;omega,?_,?_⟩
    ·intro d r;rcases CD.1 r with r|r
     ·exact a.each d r
     ·simp at r;subst r;refine⟨?_,l.ok.name M,(w3 q).1,?_⟩
      ·unfold Eu;simp only;split<;>(try split)<;>omega
      ·have:=(w3 q).2;unfold Cq at this;unfold Eu;simp only;split at this
       ·rename_i P;rw[Al P];simpa using this
       ·rename_i P;rw[Ai P];split<;>simpa using this
    ·rw[Cb,Cp];refine⟨a.nodup,by simp,λx z y Q=>?_⟩;simp at Q;subst Q;rintro rfl;exact cF n1 z
   ·show jH (next s f).bX (next s f).bI;rw[F.bX,F.bI];exact b
   ·show ZA ((next s f).decls++[_]) (next s f).rules;rw[r1,D];exact⟨λx z=>(by cases z),(by simp)⟩
theorem Wo:∀(n:Nat) {st st':PS},na s st->st.rules=[]->DF s n st= .ok () st'->na s st'/\st'.rules=[]
 |0,_,_,_,_,e=>by cases e
 |n+1,st,st',h,c,e=>by
  unfold DF at e;split at e
  ·rename_i d;obtain⟨u,st1,e1,f⟩:=AD e;obtain⟨a,b,_⟩:=SJ h d c e1;exact Wo n a b f
  ·injection e with _ e;subst e;exact⟨h,c⟩
theorem aI {r:List (Int×Az)}{k:Int}(h:(Bj r k).isSome=false):k∉r.map (·.1):=by intro a;obtain⟨x,b,rfl⟩:=AE.1 a;unfold Bj at h;rw[Option.isSome_map,Option.isSome_eq_false_iff,Option.isNone_iff_eq_none,IL]at h;exact h x b (by simp)
theorem Ge {k:Int}(h:st.Ok s) (o:st.t.kind=T9) (e:CQ s st= .ok k st'):
  Gn s st st'/\left s st'<left s st/\(st'.bJ=none->(k= -1\/EH st.decls false k)/\k∉st.rules.map (·.1)):=by
 have d:=Gn.next h;have r:=D6 h o (by decide) (by decide);unfold CQ at e;simp only at e;obtain⟨l,st1,e1,g⟩:=AD e;injection g with g i;subst g;have p:Gn s (next s st) st1/\(st1.bJ=none->l= -1\/EH st.decls false l):=by
  split at e1
  ·injection e1 with e1 q;subst e1 q;exact⟨Gn.next d.ok,λ_=>.inl rfl⟩
  ·obtain⟨a,b,c⟩:=E7 d.ok e1;exact⟨a,λx=>.inr (c x)⟩
 obtain⟨f,w1⟩:=p;have u:=f.left;have j:st1.rules=st.rules:=f.rules.trans d.rules;split at i
 ·subst i;have m:=Gn.note f.ok J1 st.t.pos;exact⟨(d.trans f).trans m,by have:=m.left;omega,λx=>absurd x (Fy _ _ _)⟩
 ·rename_i n;subst i;refine⟨d.trans f,by omega,λx=>⟨w1 x,aI ?_⟩⟩;rw[x,j]at n;simpa using n
theorem RM {n:Nat}(h:na s st) (v:st.t.kind=T9) (e:GJ s n st= .ok () st'):na s st'/\left s st'<left s st/\st'.decls=st.decls:=by
 unfold GJ at e;obtain⟨k,st1,e1,z⟩:=AD e;obtain⟨b,d,A,l⟩:=AD z;injection l with _ l;obtain⟨g,l1,w1⟩:=Ge h.ok v e1;obtain⟨r,B,C,m,o,H⟩:=DW g.ok (by rw[g.depth,h.depth];omega) (by rw[g.loops,h.loops];omega) A;rw[g.depth,h.depth]at m;rw[g.loops,h.loops]at o;have F:=g.trans r;split at l
 ·rename_i p;have j:d.bJ=none:=by simpa using p
  subst l;have q:left s ({d with rules:=d.rules++[(k,b)]}:PS)=left s d:=rfl;refine⟨⟨⟨F.ok.i,F.ok.pos,F.ok.more,F.ok.num,F.ok.name⟩,F.depth.trans h.depth,F.loops.trans h.loops,?_,?_,?_,?_⟩,by omega,F.decls⟩
  ·rw[q];show d.decls.length+_<=701;rw[F.decls];have:=h.dl;omega
  ·rw[q];show(d.rules++[(k,b)]).length+_<=701;rw[F.rules];have:=h.rl;simp;omega
  ·rw[q];show KY (d.rules++[(k,b)])+_<=701;rw[F.rules];have:=h.sz;unfold KY at*;simp;omega
  ·intro _;obtain⟨a,D,c⟩:=h.w (F.bJ j);obtain⟨E,G⟩:=w1 (r.bJ j);refine⟨by rw[show({d with rules:=d.rules++[(k,b)]}:PS).decls=st.decls from F.decls];exact a,?_,?_⟩
   ·show jH d.bX d.bI;rw[F.bX,F.bI];exact D
   ·show ZA d.decls (d.rules++[(k,b)]);rw[F.decls,F.rules];refine⟨λx f=>?_,?_⟩
    ·rcases CD.1 f with f|f
     ·exact c.each x f
     ·simp at f;subst f;exact⟨E,by have:=B j;rw[g.decls]at this;exact this,C,by show 1+b.deep<=8;omega,by show b.nest<=2;omega⟩
    ·rw[Cb,Cp];refine⟨c.nodup,by simp,λx f y u=>?_⟩;simp at u;subst u;rintro rfl;exact G f
 ·rename_i p;subst l;refine⟨⟨F.ok,F.depth.trans h.depth,F.loops.trans h.loops,by rw[F.decls];have:=h.dl;omega,by rw[F.rules];have:=h.rl;omega,by rw[F.rules];have:=h.sz;omega,λx=>by simp[x]at p⟩,by omega,F.decls⟩
theorem Vx {m:Nat}:∀(n:Nat) {st st':PS},na s st->Ee s m n st= .ok () st'->na s st'
 |0,_,_,_,e=>by cases e
 |n+1,st,st',h,e=>by
  unfold Ee at e;split at e
  ·rename_i a;obtain⟨u,st1,e1,b⟩:=AD e;exact Vx n (RM h a e1).1 b
  ·injection e with _ e;subst e;exact h
theorem Tn (s:Ah) (h:s.length<=700):na s (start s):=by
 have a:left s (start s)<=701:=by unfold left;omega
 refine⟨az s,rfl,rfl,by simpa[start]using a,by simpa[start]using a,by simpa[start,KY]using a,λ_=>⟨⟨by simp[start],λd b=>(by cases b),by simp[start]⟩,rfl,⟨λx c=>(by cases c),by simp[start]⟩⟩⟩
structure Em (p:Ax):Prop where
 decls:Kl p.decls
 bI:0<=p.bI/\p.bI<=99
 rules:ZA p.decls p.rules
 qp:(Es p.rules).isSome
 size:KY p.rules<=700
 rl:p.rules.length<=700
theorem eV {p:Ax}(h:read s= .ok p):Em p:=by
 unfold read at h;split at h
 ·cases h
 ·rename_i g;split at h
  ·cases h
  ·rename_i t st e;split at h
   ·cases h
   ·rename_i i;split at h
    ·cases h
    ·rename_i j;injection h with h;subst h;unfold Fm at e;obtain⟨u,st1,e1,k⟩:=AD e;obtain⟨n,d,l,m⟩:=AD k;obtain⟨a,b⟩:=Wo 702 (Tn s (by omega)) rfl e1;have c:=Vx 702 a l;obtain⟨_,_,rfl⟩:=BH m;have f:=Gn.next c.ok;obtain⟨x,y,z⟩:=c.w (f.bJ i);have o:=Pi c.ok;refine⟨x,?_,z,by simpa[Option.isSome_iff_ne_none]using j,?_,?_⟩
     ·show 0<=d.bI/\d.bI<=99;unfold jH at y;split at y<;>omega
     ·have:=c.sz;show KY d.rules<=700;omega
     ·have:=c.rl;show d.rules.length<=700;omega
end
structure G4 (p:Ax) (s:St):Prop where
 q:s.q.length=p.decls.length
 v:s.vars.length=p.decls.length
 fr:∀(k:Nat) l,s.q[k]?=some l->∀e∈l,0<=e.bI/\e.bI<=p.bI
 vr:∀(k:Nat) (x:Int),s.vars[k]?=some x->0<=x/\x<=(Aq p.decls (k:Int)).max
structure AR where
 A:Am
 vars:List Int
 out:List Int
def M7 (A:Am) (q:Int):Nat:=A.len q.toNat
def Md (l:List Bi) (A:Am) (q:Int):Bool:=decide ((Aq l q).max<=(M7 A q:Int))
def GY (p:Ax) (key:Int) (x:D4) (r:AR):Except Nat AR:=
 match x with
 | .dV _=>.ok {r with A:=r.A.iC key (-1) p.bI}
 | .cu q=>.ok {r with A:=r.A.out key,out:=if AY p.decls q then r.out++[key]else r.out}
 | .shift q t tl=>
  if Md p.decls (r.A.out key) t then .error Ul
  else .ok {r with A:=(r.A.out key).lQ key (r.A.bW key) t.toNat tl,out:=if AY p.decls q&&!AY p.decls t then r.out++[key]else r.out}
 |_=>.ok r
def JM (p:Ax) (key:Int) (x:D4) (r:AR):Except Nat AR:=
 match x with
 | .put q t=>
  if Md p.decls (r.A.out key) q then .error Ul
  else .ok {r with A:=(r.A.out key).lQ key (r.A.bW key) q.toNat t,out:=if AY p.decls (r.A.cz key)&&!AY p.decls q then r.out++[key]else r.out}
 | .drop=>.ok {r with A:=r.A.out key,out:=if AY p.decls (r.A.cz key)then r.out++[key]else r.out}
 | .inc v=>.ok {r with vars:=r.vars.set v.toNat (DV ((r.vars[v.toNat]?).getD 0) 1 (Aq p.decls v).max)}
 | .dec v=>.ok {r with vars:=r.vars.set v.toNat (DV ((r.vars[v.toNat]?).getD 0) (-1) (Aq p.decls v).max)}
 | .bump=>.ok {r with A:=r.A.iC key 1 p.bI}
 | .dV q=>if M7 r.A q=0 then .error Ma else GY p (r.A.tail q.toNat) (.dV q) r
 | .cu q=>if M7 r.A q=0 then .error Ma else GY p (r.A.tail q.toNat) (.cu q) r
 | .shift q t tl=>if M7 r.A q=0 then .error Ma else GY p (r.A.tail q.toNat) (.shift q t tl) r
section
variable {A:Am}{ns:List (List Nat)}{p:Ax}{s:St}
theorem SD {α:Type}(l1 l2:List α) (x:α):(l1++x::l2).eraseIdx l1.length=l1++l2:=by rw[List.eraseIdx_append_of_length_le (Ab _)];simp
theorem O8 (s:St) (k:Int):s.queue k=(s.q[k.toNat]?).getD []:=rfl
theorem Nq (s:St) (k:Nat):s.queue (k:Int)=(s.q[k]?).getD []:=rfl
theorem QI (h:CE A ns s.q) (key:Int):
  (∀n,A.idx key=some n->∃q,A.fF n q)/\(A.out key).idx key=none/\(A.out key).qs.length=A.qs.length/\
  match s.find key with
  |none=>A.out key=A/\A.bW key=0/\A.cz key= -1
  |some (k,i)=>(∃j,CE (A.out key) j (s.out k i).q)/\A.bW key=(Bm (s.queue k) i).bI/\(Bm (s.queue k) i).key=key/\A.cz key=k/\(∃l,s.q[k]?=some l/\i<l.length):=by
 have f:s.find key=(⟨s.q,s.vars⟩:St).find key:=rfl;cases g:A.idx key with
 |none=>
  have e:A.out key=A:=by unfold Am.out;rw[g]
  rw[f,h.fK g s.vars,e];exact⟨λn u=>(by cases u),g,rfl,rfl,by unfold Am.bW;rw[g],by unfold Am.cz;rw[g]⟩
 |some n=>
  obtain⟨k,l1,l2,a,b,c,d⟩:=h.fG g s.vars;obtain⟨r,v,w⟩:=h.dN g a;have e:A.out key=A.dN key n:=by unfold Am.out;rw[g]
  have t:s.queue (k:Int)=(l1++n::l2).map (CW A):=by rw[Nq,h.jf a];rfl
  rw[f,b,e];refine⟨λm o=>(by injection o with o;subst o;exact⟨k,v⟩),?_,?_,?_⟩
  ·have:=Yk h.qP key key;rw[Al rfl]at this;exact this
  ·rw[←r.len,A9,h.len]
  ·refine⟨⟨ns.set k (l1++l2),?_⟩,?_,?_,?_,⟨_,h.jf a,by simp⟩⟩
   ·have x:(s.out k l1.length).q=s.q.set k ((l1++l2).map (CW A)):=by unfold St.out;simp only;rw[h.jf a];simp only[Ih];congr 1;have:=SD (l1.map (CW A)) (l2.map (CW A)) (CW A n);simpa using this
    rw[x];exact r
   ·rw[t,Nx];unfold Am.bW;rw[g];exact w
   ·rw[t,Nx];exact c
   ·unfold Am.cz;rw[g];exact d
theorem Adz (h:CE A ns s.q) {key f q:Int}(t:Bool) (i:A.idx key=none) (j:Ix s.q.length q) (m:0<=f/\f<=1000) (c:(s.queue q).length+1<=50):
  A.jR key f q.toNat/\∃d,CE (A.lQ key f q.toNat t) d (s.bR q (if t then s.queue q++[⟨key,f⟩]else⟨key,f⟩::s.queue q)).q:=by
 obtain⟨l,g⟩:=h.get (k:=q.toNat) (by rw[←h.jg];unfold Ix at j;omega);have e:s.queue q=l.map (CW A):=by rw[O8,h.jf g];rfl
 rw[e]at c ⊢;obtain⟨a,b⟩:=h.lQ t i g m (by simpa using c);exact⟨a,_,b⟩
theorem Ol (h:CE A ns s.q) {q:Int}(a:Ix s.q.length q):M7 A q=(s.queue q).length:=by
 unfold M7;have:=h.len_ s.vars (k:=q.toNat) (by rw[←h.jg];unfold Ix at a;omega);rw[this];unfold Ix at a;have e:((q.toNat:Nat):Int)=q:=by omega
 rw[e]
end
theorem Nn {α:Type}{l:List α}{k:Nat}{x:α}(h:l[k]?=some x):l.set k x=l:=by
 apply Fj;intro j;rw[Bk];split
 ·rename_i e;subst e;split
  ·exact h.symm
  ·rw[Bl (by omega)]
 ·rfl
section
variable {A:Am}{ns:List (List Nat)}{p:Ax}{s:St}
theorem iO (h:CE A ns s.q) (key by_ f:Int) (u:0<=f/\f<=99) (m:∀(k:Nat) l,s.q[k]?=some l->∀e∈l,0<=e.bI/\e.bI<=f) (v:by_=1\/by_= -1):
  match s.find key with
  |none=>A.iC key by_ f=A
  |some (k,i)=>∃l,s.q[k]?=some l/\i<l.length/\∃o,CE (A.iC key by_ f) o (s.q.set k (gI l i (DV (Bm l i).bI by_ f))):=by
 have g:s.find key=(⟨s.q,s.vars⟩:St).find key:=rfl;cases j:A.idx key with
 |none=>
  rw[g,h.fK j s.vars];unfold Am.iC;rw[j]
 |some n=>
  obtain⟨k,l1,l2,a,b,c,d⟩:=h.fG j s.vars;rw[g,b];refine⟨_,h.jf a,by simp,ns,?_⟩;have e:A.iC key by_ f=A.setNode n {(A.node n)with bI:=DV (A.node n).bI by_ f}:=by unfold Am.iC;rw[j]
  rw[e];have r:=m k _ (h.jf a) (CW A n) (by simp);have t:0<=(A.node n).bI/\(A.node n).bI<=f:=r;have:=h.gI (DV (A.node n).bI by_ f) a (by unfold DV;omega);unfold gI;rw[Nx];exact this
theorem VT (c:Em p) {q:Int}(d:Ix p.decls.length q):1<=(Aq p.decls q).max/\(Aq p.decls q).max<=99/\((Aq p.decls q).kind≠2->(Aq p.decls q).max<=50):=by
 unfold Ix at d;have a:q.toNat<p.decls.length:=by omega
 have b:=c.decls.each _ (Eg a);have e:Aq p.decls q=p.decls[q.toNat]:=by unfold Aq;rw[Ae a];rfl
 rw[e];have:=b.hi;refine⟨b.lo,?_,λh=>?_⟩
 ·split at this<;>omega
 ·rw[Ai h]at this;exact this
theorem G4.iB (a:G4 p s) {k:Nat}{l:List Gp}(d:∀e∈l,0<=e.bI/\e.bI<=p.bI):G4 p {s with q:=s.q.set k l}:=by
 refine⟨by simpa using a.q,a.v,λj m f e c=>?_,a.vr⟩;rcases Gd f with⟨_,_,rfl⟩|⟨_,b⟩
 ·exact d e c
 ·exact a.fr j m b e c
theorem G4.queue (c:G4 p s) (k:Int):∀e∈s.queue k,0<=e.bI/\e.bI<=p.bI:=by
 intro e a;rw[O8]at a;cases b:s.q[k.toNat]? with
 |none=>rw[b]at a;cases a
 |some l=>rw[b]at a;exact c.fr _ _ b e a
theorem G4.out (a:G4 p s) (k i:Nat):G4 p (s.out k i):=by unfold St.out;refine a.iB (λe b=>?_);have:=S4 b;exact a.queue k e (by rw[Nq];exact this)
theorem Nw {l:List Gp}{i:Nat}(h:i<l.length):Bm l i∈l:=by unfold Bm;rw[Ae h];exact Eg h
theorem wQ (e:Gp) {key f:Int}(a:e.key=key) (b:e.bI=f):e=⟨key,f⟩:=by cases e;simp at a b;subst a b;rfl
theorem JG {α:Type}(l:List α):l.eraseIdx (l.length-1)=l.dropLast:=by
 rcases Dj l with h|⟨b,a,h⟩
 ·subst h;rfl
 ·rw[Dk]at h;subst h;have:=SD b [] a;simpa using this
theorem I8 (l:List Bi) (f key:Int) (r:DQ):DQ.leaves l f key r=⟨r.s,if AY l f then r.gone++[key]else r.gone⟩:=by unfold DQ.leaves;split<;>rfl
theorem Pz (h:CE A ns s.q) (k:G4 p s) (o:Em p) {key f q from_:Int}(t:Bool) (d:List Int) (w:A.idx key=none) (r:Ix p.decls.length q) (l:(Aq p.decls q).kind≠2) (u:0<=f/\f<=p.bI):
  Md p.decls A q=decide ((Aq p.decls q).max<=((s.queue q).length:Int))/\
  (JK p.decls ⟨key,f⟩ from_ q t ⟨s,d⟩= .error Ul/\Md p.decls A q=true\/
   ∃r',JK p.decls ⟨key,f⟩ from_ q t ⟨s,d⟩= .ok r'/\Md p.decls A q=false/\r'.gone=(if AY p.decls from_&&!AY p.decls q then d++[key]else d)/\r'.s.vars=s.vars/\
    A.jR key f q.toNat/\(∃m,CE (A.lQ key f q.toNat t) m r'.s.q)/\G4 p r'.s):=by
 have g:Ix s.q.length q:=by rw[k.q];exact r
 have e:Md p.decls A q=decide ((Aq p.decls q).max<=((s.queue q).length:Int)):=by unfold Md;rw[Ol h g]
 refine⟨e,?_⟩;obtain⟨B,C,v⟩:=VT o r;have v:=v l;have y:=o.bI;unfold JK;by_cases c:(Aq p.decls q).max<=((s.queue q).length:Int)
 ·left;rw[Al c,e];exact⟨rfl,by simpa using c⟩
 ·right;rw[Ai c,e];obtain⟨a,b⟩:=Adz h t w g ⟨u.1,by omega⟩ (by omega);have i:∀x∈(if t then s.queue q++[⟨key,f⟩]else⟨key,f⟩::s.queue q),0<=x.bI/\x.bI<=p.bI:=by
   intro x j;have:x∈s.queue q\/x=⟨key,f⟩:=by
    cases t
    ·simp at j;exact j.elim .inr .inl
    ·simp at j;exact j
   rcases this with n|n
   ·exact k.queue q x n
   ·subst n;exact u
  have z:G4 p (s.bR q (if t then s.queue q++[⟨key,f⟩]else⟨key,f⟩::s.queue q)):=k.iB i;refine⟨_,rfl,by simpa using c,?_,?_,a,?_,?_⟩
  ·cases D:AY p.decls q with
   |true=>simp
   |false=>simp[I8]
  ·simp only[I8];split<;>rfl
  ·simp only[I8];split<;>exact b
  ·simp only[I8];split<;>exact z
theorem Ry (b:G4 p s) {v:Int}(c:Ix p.decls.length v):∃x,s.vars[v.toNat]?=some x/\s.var v=x/\0<=x/\x<=(Aq p.decls v).max:=by
 have f:v.toNat<s.vars.length:=by rw[b.v];unfold Ix at c;omega
 have a:=Ae f;have d:=b.vr _ _ a;have e:((v.toNat:Nat):Int)=v:=by unfold Ix at c;omega
 rw[e]at d;exact⟨_,a,by unfold St.var;rw[a];rfl,d⟩
theorem G4.lU (a:G4 p s) {v x:Int}(c:Ix p.decls.length v) (d:0<=x/\x<=(Aq p.decls v).max):G4 p {s with vars:=s.vars.set v.toNat x}:=by
 refine⟨a.q,by simpa using a.v,a.fr,λj y f=>?_⟩;rcases Gd f with⟨rfl,_,rfl⟩|⟨_,b⟩
 ·have e:((v.toNat:Nat):Int)=v:=by unfold Ix at c;omega
  rw[e];exact d
 ·exact a.vr j y b
theorem Y4 (h:CE A ns s.q) (b:G4 p s) (X:Em p) (key:Int) (x:D4) (g:Ki p.decls x) (C:List Int):
  match bN p key x ⟨s,C⟩with
  | .error e=>JM p key x ⟨A,s.vars,C⟩= .error e
  | .ok r'=>∃A' d,JM p key x ⟨A,s.vars,C⟩= .ok ⟨A',r'.s.vars,r'.gone⟩/\CE A' d r'.s.q/\G4 p r'.s:=by
 have N:=X.bI;cases x with
 |put q t=>
  obtain⟨_,o2,Y,z⟩:=QI h key;unfold bN JM;dsimp only;cases m:s.find key with
  |none=>
   rw[m]at z;obtain⟨e1,B,I⟩:=z;rw[e1]at o2 ⊢;rw[B,I];obtain⟨_,c⟩:=Pz (from_:= -1) h b X t C o2 g.1 g.2 ⟨Int.le_refl 0,N.1⟩;rcases c with⟨F,c2⟩|⟨r',F,c2,c3,c4,c5,⟨d,Q⟩,R⟩
   ·simp only[F,c2,A7]
   ·simp only[F,c2,Ap,A8];exact⟨_,d,by rw[c3,c4],Q,R⟩
  |some S=>
   obtain⟨k,i⟩:=S;dsimp only;rw[m]at z;obtain⟨⟨G,J⟩,B,I,T,l,e5,e6⟩:=z;have Z:Bm (s.queue (k:Int)) i∈s.queue (k:Int):=Nw (by rw[Nq,e5];exact e6);have D:=b.queue (k:Int) _ Z;rw[←B]at D;rw[wQ _ I B.symm,T];obtain⟨_,c⟩:=Pz (s:=s.out k i) (from_:=k) J (b.out k i) X t C o2 g.1 g.2 D;rcases c with⟨F,c2⟩|⟨r',F,c2,c3,c4,c5,⟨d,Q⟩,R⟩
   ·simp only[F,c2,A7]
   ·simp only[F,c2,Ap,A8];exact⟨_,d,by rw[c3,c4];rfl,Q,R⟩
 |drop=>
  obtain⟨_,o2,Y,z⟩:=QI h key;unfold bN JM;dsimp only;cases m:s.find key with
  |none=>
   rw[m]at z;obtain⟨e1,B,I⟩:=z;rw[e1,I];exact⟨A,ns,rfl,h,b⟩
  |some S=>
   obtain⟨k,i⟩:=S;dsimp only;rw[m]at z;obtain⟨⟨G,J⟩,B,I,T,_⟩:=z;rw[T];simp only[I8];exact⟨_,G,rfl,J,b.out k i⟩
 |inc v=>
  obtain⟨y,U,y2,y3,y4⟩:=Ry b g;unfold bN JM;dsimp only;simp only[U,y2,Ih];have e:DV y 1 (Aq p.decls v).max=if y<(Aq p.decls v).max then y+1 else y:=by unfold DV;split<;>omega
  rw[e];split
  ·exact⟨A,ns,rfl,h,b.lU g (by omega)⟩
  ·rw[Nn U];exact⟨A,ns,rfl,h,b⟩
 |dec v=>
  obtain⟨y,U,y2,y3,y4⟩:=Ry b g;unfold bN JM;dsimp only;simp only[U,y2,Ih];have e:DV y (-1) (Aq p.decls v).max=if 0<y then y-1 else y:=by unfold DV;split<;>omega
  rw[e];split
  ·exact⟨A,ns,rfl,h,b.lU g (by omega)⟩
  ·rw[Nn U];exact⟨A,ns,rfl,h,b⟩
 |bump=>
  have O:=iO h key 1 p.bI N b.fr (.inl rfl);unfold bN JM;dsimp only;cases m:s.find key with
  |none=>rw[m]at O;rw[O];exact⟨A,ns,rfl,h,b⟩
  |some S=>
   obtain⟨k,i⟩:=S;dsimp only;rw[m]at O;obtain⟨l,K,V,d,E⟩:=O;have hq:s.queue (k:Int)=l:=by rw[Nq,K];rfl
   simp only[hq];have D:=b.fr k l K _ (Nw V);have e:DV (Bm l i).bI 1 p.bI=if(Bm l i).bI<p.bI then(Bm l i).bI+1 else(Bm l i).bI:=by unfold DV;split<;>omega
   rw[e]at E;split
   ·rename_i j;rw[Al j]at E;refine⟨_,d,rfl,E,b.iB (λx g=>?_)⟩;rcases EJ g with g|rfl
    ·exact b.fr k l K x g
    ·simp;omega
   ·rename_i j;rw[Ai j]at E;have B:gI l i (Bm l i).bI=l:=by unfold gI;exact Nn (by unfold Bm;rw[Ae V];rfl)
    rw[B,Nn K]at E;exact⟨_,d,rfl,E,b⟩
 |dV q=>
  have n:Ix s.q.length q:=by rw[b.q];exact g
  unfold bN JM;dsimp only;rw[Ol h n];by_cases a:s.queue q=[]
  ·simp[a]
  ·have H:(s.queue q).length≠0:=λe=>a (LP.1 e);rw[Ai a,Ai H];have L:((q.toNat:Nat):Int)=q:=by have P:Ix p.decls.length q:=g;unfold Ix at P;omega
   have M:q.toNat<A.qs.length:=by rw[←h.jg];unfold Ix at n;omega
   have f:(⟨s.q,s.vars⟩:St).queue (q.toNat:Int)≠ []:=by rw[L];exact a
   have o:=h.lT s.vars M f;have r:=h.iA s.vars M f;rw[L]at o r;have u:A.tail q.toNat=(Bs (s.queue q)).key:=o;have w:s.find (Bs (s.queue q)).key=some (q.toNat,(s.queue q).length-1):=r;have O:=iO h (Bs (s.queue q)).key (-1) p.bI N b.fr (.inr rfl);rw[w]at O;obtain⟨l,K,V,d,E⟩:=O;have hq:s.queue q=l:=by rw[O8,K];rfl
   rw[u];unfold GY;simp only[hq]at*;have D:=b.fr _ l K _ (Nw V);have e:DV (Bm l (l.length-1)).bI (-1) p.bI=if 0<(Bm l (l.length-1)).bI then(Bm l (l.length-1)).bI-1 else(Bm l (l.length-1)).bI:=by unfold DV;split<;>omega
   rw[e]at E;have el:Bs l=Bm l (l.length-1):=rfl;split
   ·rename_i j;rw[el]at j;rw[Al j]at E;refine⟨_,d,rfl,E,b.iB (λx g=>?_)⟩;rcases EJ g with g|rfl
    ·exact b.fr _ l K x g
    ·simp[el];omega
   ·rename_i j;rw[el]at j;rw[Ai j]at E;have B:gI l (l.length-1) (Bm l (l.length-1)).bI=l:=by unfold gI;exact Nn (by unfold Bm;rw[Ae V];rfl)
    rw[B,Nn K]at E;exact⟨_,d,rfl,E,b⟩
 |cu q=>
  have n:Ix s.q.length q:=by rw[b.q];exact g
  unfold bN JM;dsimp only;rw[Ol h n];by_cases a:s.queue q=[]
  ·simp[a]
  ·have H:(s.queue q).length≠0:=λe=>a (LP.1 e);rw[Ai a,Ai H];have L:((q.toNat:Nat):Int)=q:=by have P:Ix p.decls.length q:=g;unfold Ix at P;omega
   have M:q.toNat<A.qs.length:=by rw[←h.jg];unfold Ix at n;omega
   have f:(⟨s.q,s.vars⟩:St).queue (q.toNat:Int)≠ []:=by rw[L];exact a
   have o:=h.lT s.vars M f;have r:=h.iA s.vars M f;rw[L]at o r;have u:A.tail q.toNat=(Bs (s.queue q)).key:=o;have w:s.find (Bs (s.queue q)).key=some (q.toNat,(s.queue q).length-1):=r;obtain⟨_,o2,Y,z⟩:=QI h (Bs (s.queue q)).key;rw[w]at z;obtain⟨⟨G,J⟩,B,I,T,_⟩:=z;have W:s.out q.toNat ((s.queue q).length-1)=s.bR q (s.queue q).dropLast:=by unfold St.out St.bR;rw[←JG];rfl
   rw[W]at J;rw[u];unfold GY;simp only[I8];exact⟨_,G,rfl,J,by rw[←W];exact b.out _ _⟩
 |shift q t tl=>
  have n:Ix s.q.length q:=by rw[b.q];exact g.1
  have bL:=g.1;unfold bN JM;dsimp only;rw[Ol h n];by_cases a:s.queue q=[]
  ·simp[a]
  ·have H:(s.queue q).length≠0:=λe=>a (LP.1 e);rw[Ai a,Ai H];have L:((q.toNat:Nat):Int)=q:=by unfold Ix at bL;omega
   have M:q.toNat<A.qs.length:=by rw[←h.jg];unfold Ix at n;omega
   have f:(⟨s.q,s.vars⟩:St).queue (q.toNat:Int)≠ []:=by rw[L];exact a
   have o:=h.lT s.vars M f;have r:=h.iA s.vars M f;rw[L]at o r;have u:A.tail q.toNat=(Bs (s.queue q)).key:=o;have w:s.find (Bs (s.queue q)).key=some (q.toNat,(s.queue q).length-1):=r;obtain⟨_,o2,Y,z⟩:=QI h (Bs (s.queue q)).key;rw[w]at z;obtain⟨⟨G,J⟩,B,I,T,_⟩:=z;have W:s.out q.toNat ((s.queue q).length-1)=s.bR q (s.queue q).dropLast:=by unfold St.out St.bR;rw[←JG];rfl
   have bM:G4 p (s.bR q (s.queue q).dropLast):=by rw[←W];exact b.out _ _
   rw[W]at J;rw[L]at B I;have Z:Bs (s.queue q)∈s.queue q:=Nw (by omega);have D:=b.queue q _ Z;have bO:A.bW (Bs (s.queue q)).key=(Bs (s.queue q)).bI:=B;rw[u];unfold GY;rw[bO];obtain⟨_,c⟩:=Pz (s:=s.bR q (s.queue q).dropLast) (from_:=q) J bM X tl C o2 g.2.1 g.2.2 D;have ee:(⟨(Bs (s.queue q)).key,(Bs (s.queue q)).bI⟩:Gp)=Bs (s.queue q):=rfl;rw[ee]at c;rcases c with⟨F,c2⟩|⟨r',F,c2,c3,c4,c5,⟨d,Q⟩,R⟩
   ·simp only[F,c2,A7]
   ·simp only[F,c2,Ap,A8];exact⟨_,d,by rw[c3,c4];rfl,Q,R⟩
end
def Qw (c:Km) (hit:Bool) (n:Nat):Km:=⟨c.fx+(if hit then 1 else 0),c.dH+(if hit then 0 else 1),c.cw+n⟩
theorem NW {l:List Bi}:∀(b:Az) (k:Nat),Ed l b->b.nest<=k->b.bY<=50^k*b.size
 | .nil,k,_,_=>AM _
 | .bN x r,k,h,a=>by
  have d:=NW r k h.2 a;have f:1<=50^k:=Nat.one_le_pow _ _ (by omega);simp only[Az.bY,Az.size,og,GQ];omega
 | .ite c t o e r,k,h,a=>by
  simp only[Az.nest]at a;have d:=NW t k h.2.1 (by omega);have f:=NW e k h.2.2.1 (by omega);have g:=NW r k h.2.2.2 (by omega);simp only[Az.bY,Az.size,og];omega
 | .rep n c b r,0,h,a=>by
  simp only[Az.nest]at a;omega
 | .rep n c b r,k+1,h,a=>by
  simp only[Az.nest]at a;have d:=NW b k h.2.1 (by omega);have g:=NW r (k+1) h.2.2.1 (by omega);have i:=h.2.2.2;have j:n.toNat*b.bY<=50*(50^k*b.size):=Nat.mul_le_mul (by omega) d;have e:50^(k+1)*b.size=50*(50^k*b.size):=by rw[Nat.pow_succ,Nat.mul_comm (50^k) 50,Nat.mul_assoc]
  simp only[Az.bY,Az.size,og];omega
theorem Kv {r:List (Int×Az)}{k:Int}{b:Az}(h:Bj r k=some b):(k,b)∈r:=by
 unfold Bj at h;rw[AU]at h;obtain⟨x,a,rfl⟩:=h;have c:=List.find?_some a;have d:=zF a;have e:x.1=k:=by simpa using c
 rw[←e];exact d
theorem Vp:∀{l:List (Int×Az)}{x:Int×Az},x∈l->x.2.size<=KY l
 | [],x,h=>by cases h
 |y::l,x,h=>by
  have e:KY (y::l)=y.2.size+KY l:=by simp[KY]
  rcases AA.1 h with rfl|h
  ·omega
  ·have:=Vp h;omega
theorem To {p:Ax}(a:Em p) {k:Int}{b:Az}(h:Bj p.rules k=some b):b.bY<=1750000:=by have c:=Kv h;have d:=a.rules.each _ c;have e:=NW b 2 d.w d.nest;have f:b.size<=KY p.rules:=Vp (x:=(k,b)) c;have g:=a.size;have i:(50:Nat)^2*b.size<=2500*700:=Nat.mul_le_mul (by decide) (by omega);omega
theorem iS {p:Ax}(c:Em p) {k:Int}{b:Az}(h:Bj p.rules k=some b):MN p.decls b:=by have a:=c.rules.each _ (Kv h);exact Ed.ok b a.w a.form
end Go.Proofs.YtodkkholbjeioaaGreatDoor.Ev
namespace Go.Proofs.YtodkkholbjeioaaGreatDoor.Ev
open _root_.Go.Proofs.Tryz
open Go Go.RowKit
def JF (n:Int):Value:=.int .i64 n
def KE (n:Int):Value:=.int .u64 n
structure uh (B:Nat) (w:World) (gg gp:Nat) (vd qx qz:Value) (lp:Nat) (p:Ax):Prop where
 prog:AF w gg 75 [.pointer (some ⟨gp,0,none⟩),qz,.int .i64 lp]
 bQ:AF w gp 106 [vd,.int .i64 p.bI,qx]
 decls:Sl (λb=>b<B) w 102 3 vd p.decls.length (p.decls.flatMap Dx)
 rG:gg<B
 jo:gp<B
structure RV where
 gr:Nat
 gg:Nat
 gp:Nat
 gs:Nat
 ga:Nat
 vd:Value
 qx:Value
 qz:Value
 lp:Nat
 nw:Value
 lV:Value
 iT:Value
 mu:Value
def jJ (u v:Value):Prop:=∀b,u.ownBlock=some b->v.ownBlock≠some b
structure Cr (B:Nat) (w:World) (x:RV) (SA:Nat->Prop) (p:Ax) (key:Int) (A:Am) (v:VS):Prop where
 ro:uh B w x.gg x.gp x.vd x.qx x.qz x.lp p
 row:AF w x.gr 169 [.pointer (some ⟨x.gg,0,none⟩),.pointer (some ⟨x.gs,0,none⟩),.int .u64 key,x.nw,.bool v.yes,x.lV,x.iT]
 bS:AF w x.gs 92 [.pointer (some ⟨x.ga,0,none⟩),x.mu]
 stack:Sl (λb=>B<=b) w 3 1 x.nw v.stack.length (v.stack.reverse.map JF)
 loops:Sl (λb=>B<=b) w 3 1 x.lV v.loops.length (v.loops.map JF)
 out:Sl (λb=>B<=b) w 25 1 x.iT v.r.gone.length (v.r.gone.map KE)
 vars:Sl (λb=>B<=b) w 3 1 x.mu v.r.s.vars.length (v.r.s.vars.map JF)
 ar:∃vl vf vq bm,BL SA w x.ga A vl vf vq bm
 iI:B<=x.gr
 nJ:B<=x.gs
 sa:∀b,SA b->B<=b/\b<w.heap.size
 sr:¬SA x.gr
 ss:¬SA x.gs
 s1:∀b,x.nw.ownBlock=some b->¬SA b
 s2:∀b,x.lV.ownBlock=some b->¬SA b
 s3:∀b,x.iT.ownBlock=some b->¬SA b
 s4:∀b,x.mu.ownBlock=some b->¬SA b
 a1:jJ x.nw x.lV
 a2:jJ x.nw x.mu
 a3:jJ x.lV x.mu
theorem Sl.shrink {S:Nat->Prop}{w:World}{e:TypeId}{size n:Nat}{v:Value}{xs:List Value}(h:Sl S w e size v n xs):Sl (λb=>S b/\b<w.heap.size) w e size v n xs:=⟨h.1,λg a=>⟨h.2 g a,h.lt a⟩⟩
theorem BL.shrink {S:Nat->Prop}{w:World}{g a:Nat}{A:Am}{c d e:Value}(h:BL S w g A c d e a):BL (λb=>S b/\b<w.heap.size) w g A c d e a:=
 ⟨h.row,h.l.shrink,h.f.shrink,h.q.shrink,h.m,⟨h.sg,h.row.lt⟩,⟨h.sm,h.m.lt⟩⟩
theorem Sl.fH {S S':Nat->Prop}{w:World}{e e':TypeId}{size a n g:Nat}{v f:Value}{xs b:List Value}(h:Sl S w e size v n xs) (i:Sl S' w e' a f g b) (c:e≠e'):jJ v f:=λ_ j d=>h.da i c d j
section
variable {B:Nat}{w w':World}{gg gp:Nat}{vd qx qz:Value}{lp:Nat}{p:Ax}
theorem uh.kept (h:uh B w gg gp vd qx qz lp p) {S:Nat->Prop}(c:Ac S w w') (d:∀b,S b->B<=b):uh B w' gg gp vd qx qz lp p:=
 ⟨h.prog.kept c (λa=>by have:=d _ a;have:=h.rG;omega),h.bQ.kept c (λa=>by have:=d _ a;have:=h.jo;omega),
  h.decls.kept c (λb e a=>by have g:=d b a;have f:=h.decls.2 b e;simp only at f;omega),h.rG,h.jo⟩
end
section
variable {B:Nat}{w w':World}{x:RV}{SA:Nat->Prop}{p:Ax}{key:Int}{A:Am}{v:VS}
theorem Cr.kept (h:Cr B w x SA p key A v) {T:Nat->Prop}(a:Ac T w w') (d:∀b,T b->B<=b) (e:¬T x.gr) (f:¬T x.gs) (g:∀b,x.nw.ownBlock=some b->¬T b) (i:∀b,x.lV.ownBlock=some b->¬T b)
  (j:∀b,x.iT.ownBlock=some b->¬T b) (k:∀b,x.mu.ownBlock=some b->¬T b) (l:∀b,SA b->¬T b):Cr B w' x SA p key A v:=by
 obtain⟨m,n,o,q,r⟩:=h.ar;exact⟨h.ro.kept a d,h.row.kept a e,h.bS.kept a f,h.stack.kept a g,h.loops.kept a i,h.out.kept a j,h.vars.kept a k,⟨m,n,o,q,r.kept a l⟩,h.iI,h.nJ,
  λb c=>⟨(h.sa b c).1,An (h.sa b c).2 a.size⟩,h.sr,h.ss,h.s1,h.s2,h.s3,h.s4,h.a1,h.a2,h.a3⟩
theorem Cr.grown (h:Cr B w x SA p key A v) (d:Ac (λb=>w.heap.size<=b) w w') (e:B<=w.heap.size):Cr B w' x SA p key A v:=by
 have r1:=h.row.lt;have f:=h.bS.lt;refine h.kept d (λb a=>Ad e a) (by omega) (by omega) (λb a c=>?_) (λb a c=>?_) (λb a c=>?_) (λb a c=>?_) (λb a c=>?_)
 ·have:=h.stack.lt a;omega
 ·have:=h.loops.lt a;omega
 ·have:=h.out.lt a;omega
 ·have:=h.vars.lt a;omega
 ·have:=(h.sa b a).2;omega
theorem Cr.base (h:Cr B w x SA p key A v):B<=w.heap.size:=by have:=h.row.lt;have:=h.iI;omega
theorem Cr.setStack (h:Cr B w x SA p key A v) {T:Nat->Prop}(d:Ac T w w') (g:∀b,T b->x.nw.ownBlock=some b\/w.heap.size<=b) {u:Value}{st:List Int}
  (f:Sl (λb=>B<=b) w' 3 1 u st.length (st.reverse.map JF)) (l:∀b,u.ownBlock=some b->x.nw.ownBlock=some b\/w.heap.size<=b):
  Cr B (w'.setCell ⟨x.gr,3,none⟩ u) {x with nw:=u} SA p key A {v with stack:=st}:=by
 have m:=h.base;have n1:x.nw.ownBlock≠some x.gr:=h.stack.bK h.row (by decide);have n:x.nw.ownBlock≠some x.gs:=h.stack.bK h.bS (by decide);have r1:=h.row.lt;have D:=h.bS.lt;have E:=h.kept d (λb a=>(g b a).elim (λe=>h.stack.2 b e) (λe=>Ad m e)) (λa=>(g _ a).elim n1 (λe=>by omega)) (λa=>(g _ a).elim n (λe=>by omega));have o2:∀b,x.lV.ownBlock=some b->¬T b:=λb a j=>(g b j).elim (λe=>h.a1 b e a) (λe=>by have:=h.loops.lt a;omega);have o:∀b,x.iT.ownBlock=some b->¬T b:=λb a j=>(g b j).elim (λe=>(h.stack.fH h.out (by decide)) b e a) (λe=>by have:=h.out.lt a;omega);have q:∀b,x.mu.ownBlock=some b->¬T b:=λb a j=>(g b j).elim (λe=>h.a2 b e a) (λe=>by have:=h.vars.lt a;omega);have r:∀b,SA b->¬T b:=λb a j=>(g b j).elim (λe=>h.s1 b e a) (λe=>by have:=(h.sa b a).2;omega);have c:=h.row.kept d (λa=>(g _ a).elim n1 (λe=>by omega));have k:=h.bS.kept d (λa=>(g _ a).elim n (λe=>by omega));have i:Ac (λb=>b=x.gr) w' (w'.setCell ⟨x.gr,3,none⟩ u):=Ac.one w' ⟨x.gr,3,none⟩ u;obtain⟨s,t,y,z,C⟩:=h.ar;have pk:=c.bM 3 u;refine⟨(h.ro.kept d (λb a=>(g b a).elim (λe=>h.stack.2 b e) (λe=>Ad m e))).kept i (λb a=>a▸h.iI),pk,k.kept i (k.cZ c (by decide)),
  f.kept i (λb a e=>f.bK c (by decide) (e▸a)),(h.loops.kept d o2).kept i (λb a e=>(h.loops.kept d o2).bK c (by decide) (e▸a)),
  (h.out.kept d o).kept i (λb a e=>(h.out.kept d o).bK c (by decide) (e▸a)),(h.vars.kept d q).kept i (λb a e=>(h.vars.kept d q).bK c (by decide) (e▸a)),
  ⟨s,t,y,z,(C.kept d r).kept i (λb a e=>h.sr (e▸a))⟩,h.iI,h.nJ,λb a=>⟨(h.sa b a).1,An (h.sa b a).2 (Ad d.size i.size)⟩,h.sr,h.ss,?_,h.s2,h.s3,h.s4,?_,?_,h.a3⟩
 ·exact λb a f=>(l b a).elim (λe=>h.s1 b e f) (λe=>by have:=(h.sa b f).2;omega)
 ·exact λb a f=>(l b a).elim (λe=>h.a1 b e f) (λe=>by have:=h.loops.lt f;omega)
 ·exact λb a f=>(l b a).elim (λe=>h.a2 b e f) (λe=>by have:=h.vars.lt f;omega)
theorem Cr.px (h:Cr B w x SA p key A v) {T:Nat->Prop}(d:Ac T w w') (g:∀b,T b->x.iT.ownBlock=some b\/w.heap.size<=b) {u:Value}{l:List Int}
  (j:Sl (λb=>B<=b) w' 25 1 u l.length (l.map KE)) (o:∀b,u.ownBlock=some b->x.iT.ownBlock=some b\/w.heap.size<=b):
  Cr B (w'.setCell ⟨x.gr,6,none⟩ u) {x with iT:=u} SA p key A {v with r:={v.r with gone:=l}}:=by
 have q:=h.base;have n1:x.iT.ownBlock≠some x.gr:=h.out.bK h.row (by decide);have s:x.iT.ownBlock≠some x.gs:=h.out.bK h.bS (by decide);have r1:=h.row.lt;have F:=h.bS.lt;have m:∀b,x.nw.ownBlock=some b->¬T b:=λb a i=>(g b i).elim (λe=>(h.stack.fH h.out (by decide)) b a e) (λe=>by have:=h.stack.lt a;omega);have o2:∀b,x.lV.ownBlock=some b->¬T b:=λb a i=>(g b i).elim (λe=>(h.loops.fH h.out (by decide)) b a e) (λe=>by have:=h.loops.lt a;omega);have n:∀b,x.mu.ownBlock=some b->¬T b:=λb a i=>(g b i).elim (λe=>(h.vars.fH h.out (by decide)) b a e) (λe=>by have:=h.vars.lt a;omega);have t:∀b,SA b->¬T b:=λb a i=>(g b i).elim (λe=>h.s3 b e a) (λe=>by have:=(h.sa b a).2;omega);have c:=h.row.kept d (λa=>(g _ a).elim n1 (λe=>by omega));have k:=h.bS.kept d (λa=>(g _ a).elim s (λe=>by omega));have f:Ac (λb=>b=x.gr) w' (w'.setCell ⟨x.gr,6,none⟩ u):=Ac.one w' ⟨x.gr,6,none⟩ u;obtain⟨y,z,C,D,E⟩:=h.ar;have pk:=c.bM 6 u;refine⟨(h.ro.kept d (λb a=>(g b a).elim (λe=>h.out.2 b e) (λe=>Ad q e))).kept f (λb a=>a▸h.iI),pk,k.kept f (k.cZ c (by decide)),
  (h.stack.kept d m).kept f (λb a e=>(h.stack.kept d m).bK c (by decide) (e▸a)),(h.loops.kept d o2).kept f (λb a e=>(h.loops.kept d o2).bK c (by decide) (e▸a)),
  j.kept f (λb a e=>j.bK c (by decide) (e▸a)),(h.vars.kept d n).kept f (λb a e=>(h.vars.kept d n).bK c (by decide) (e▸a)),
  ⟨y,z,C,D,(E.kept d t).kept f (λb a e=>h.sr (e▸a))⟩,h.iI,h.nJ,λb a=>⟨(h.sa b a).1,An (h.sa b a).2 (Ad d.size f.size)⟩,h.sr,h.ss,h.s1,h.s2,?_,h.s4,h.a1,h.a2,h.a3⟩
 exact λb a j=>(o b a).elim (λe=>h.s3 b e j) (λe=>by have:=(h.sa b j).2;omega)
theorem Cr.dI (h:Cr B w x SA p key A v) (c:Ac (λb=>SA b\/w.heap.size<=b) w w') {l:Am}(f:∃g i j k,BL (λb=>SA b\/w.heap.size<=b) w' x.ga l g i j k):
  Cr B w' x (λb=>(SA b\/w.heap.size<=b)/\b<w'.heap.size) p key l v:=by
 obtain⟨m,r1,n⟩:=zp3 h.base h.row.lt h.bS.lt;have o:∀b,¬SA b->b<w.heap.size->¬(SA b\/w.heap.size<=b):=λb q s r=>r.elim q (λe=>by omega);obtain⟨g,i,j,k,f⟩:=f;refine⟨h.ro.kept c (λb a=>a.elim (λe=>(h.sa b e).1) (λe=>Ad m e)),h.row.kept c (o _ h.sr r1),h.bS.kept c (o _ h.ss n),h.stack.kept c (λb a=>o _ (h.s1 b a) (h.stack.lt a)),h.loops.kept c (λb a=>o _ (h.s2 b a) (h.loops.lt a)),
  h.out.kept c (λb a=>o _ (h.s3 b a) (h.out.lt a)),h.vars.kept c (λb a=>o _ (h.s4 b a) (h.vars.lt a)),⟨g,i,j,k,f.shrink⟩,h.iI,h.nJ,λb a=>⟨a.1.elim (λe=>(h.sa b e).1) (λe=>Ad m e),a.2⟩,
  λa=>o _ h.sr r1 a.1,λa=>o _ h.ss n a.1,λb a d=>o _ (h.s1 b a) (h.stack.lt a) d.1,λb a d=>o _ (h.s2 b a) (h.loops.lt a) d.1,λb a d=>o _ (h.s3 b a) (h.out.lt a) d.1,λb a d=>o _ (h.s4 b a) (h.vars.lt a) d.1,h.a1,h.a2,h.a3⟩
theorem Cr.jC (h:Cr B w x SA p key A v) (y:Bool):Cr B (w.setCell ⟨x.gr,4,none⟩ (.bool y)) x SA p key A {v with yes:=y}:=by
 have c:Ac (λb=>b=x.gr) w (w.setCell ⟨x.gr,4,none⟩ (.bool y)):=Ac.one w ⟨x.gr,4,none⟩ _;obtain⟨d,f,g,i,j⟩:=h.ar;exact⟨h.ro.kept c (λb a=>a▸h.iI),h.row.bM 4 _,h.bS.kept c (h.bS.cZ h.row (by decide)),h.stack.kept c (λb a e=>h.stack.bK h.row (by decide) (e▸a)),h.loops.kept c (λb a e=>h.loops.bK h.row (by decide) (e▸a)),
  h.out.kept c (λb a e=>h.out.bK h.row (by decide) (e▸a)),h.vars.kept c (λb a e=>h.vars.bK h.row (by decide) (e▸a)),⟨d,f,g,i,j.kept c (λb a e=>h.sr (e▸a))⟩,h.iI,h.nJ,
  λb a=>⟨(h.sa b a).1,An (h.sa b a).2 c.size⟩,h.sr,h.ss,h.s1,h.s2,h.s3,h.s4,h.a1,h.a2,h.a3⟩
theorem uR {f:Int->Value}(l:List Int) (i:Nat) (n:Int):(l.map f).set i (f n)=(l.set i n).map f:=by rw[PE]
theorem Sl.py {S:Nat->Prop}{e:TypeId}{l:List Int}{u:Value}(f:Int->Value) (h:Sl S w e 1 u l.length (l.map f)) {i g a:Nat}(c:u= .slice (some ⟨g,0,none⟩) l.length a) (n:Int):
  Sl S (w.setCell ⟨g,i,none⟩ (f n)) e 1 u (l.set i n).length ((l.set i n).map f):=by
 subst c;have b:=h.1.stored i (f n);rw[uR]at b;rw[A9];exact⟨b.1,h.2⟩
end
theorem L0:(prog.info? 3).map (λi=>(i.zero,i.size,i.bytes))=some (some (.int .i64 0),1,8):=by kernel_rfl
section
variable {B:Nat}{w:World}{x:RV}{SA:Nat->Prop}{p:Ax}{key:Int}{A:Am}{v:VS}
theorem RR (h:Cr B w x SA p key A v) (hl:v.stack.length<=1) (n:Int):
  Calls prog 94 #[.pointer (some ⟨x.gr,0,none⟩),.int .i64 n] w λe w'=>
   e= .returned (.tuple #[])/\Ac (λb=>B<=b) w w'/\∃u,Cr B w' {x with nw:=u} SA p key A {v with stack:=n::v.stack}:=by
 obtain⟨gr,gg,gp,gs,ga,vd,M,N,lp,nw,O,P,Q⟩:=x;obtain⟨R,S,rfl⟩:∃a c,nw= .slice a v.stack.length c:=h.stack.shape;have c3:=h.row.cell 3;have f:=λj=>h.row.frozen j;have r1:=h.row.lt;have m:=h.base;simp only at c3 f r1 ⊢;have T:¬gr=w.heap.size:=by omega
 have D:=h.grown ((Ac.refl _ w).alloc (Ab _) (.cells #[.int .i64 n] 3)) m;obtain⟨i0,q,r,s,t⟩:=Bg L0;have E:B<=(w.alloc (.cells #[.int .i64 n] 3)).heap.size:=Ad m (by simp);have F:=C9 w [.int .i64 n] 3;have G:∀u∈ [Value.int .i64 n],u.oneCell'=true:=by intro u I;simp at I;subst I;rfl
 have U:v.stack.length+1<=maxLen:=by unfold maxLen;omega
 have V:(v.stack.length+1)*8<=140737488355328:=by omega
 have J:¬((Value.slice R v.stack.length S).ownBlock=some gr\/(w.alloc (.cells #[.int .i64 n] 3)).heap.size<=gr):=by
  rintro(y|y)
  ·exact h.stack.bK h.row (by decide) y
  ·simp at y;omega
 obtain⟨H,o,W,X,Y,K⟩:=zq6 h D E F G J;clear h D E F G J;simp at c3;go_enter func94,ntmps94;go_wp2_with (at_builtin;go_must (refine DA Fg q r s t rfl (by decide) o.out.stack W.out rfl _ _ rfl rfl ⟨w.heap.size,0,none⟩ 1 1 [.int .i64 n] rfl rfl X.out Y.out U V (Ci _) ?_;intro g2 L Z k d g;have e1:=(o.out.row.kept d K.out).cell 3;have e5:∀j,Z.frozen? ⟨gr,j,none⟩=false:=λj=>(o.out.row.kept d K.out).frozen j;have z:=Aa k;have l:=Aa d;have HL:=Aa g;clear k d g;simp at e1));go_end0;have C:=o.out.setStack (st:=n::v.stack) l.out (λb i=>i) (by simpa[JF]using z.out) (λb i=>by
  injection i with i;simp only at i;subst i;exact HL.out.imp id (λe=>by rw[e];exact Ab _))
 refine⟨rfl,?_,_,C⟩;exact(((Ac.refl _ w).alloc m _).trans (l.out.mono (λb i=>i.elim (λe=>H.out.stack.2 b e) (λe=>Ad m (Ad (by simp) e))))).setCell (p:=⟨gr,3,none⟩) H.out.iI _
theorem iY (h:Cr B w x SA p key A v) {n:Int}{st:List Int}(k:v.stack=n::st) (y:v.stack.length<=2):
  Calls prog 97 #[.pointer (some ⟨x.gr,0,none⟩)] w λe w'=>
   e= .returned (.int .i64 n)/\Ac (λb=>B<=b) w w'/\∃u,Cr B w' {x with nw:=u} SA p key A {v with stack:=st}:=by
 obtain⟨gr,L,gp,gs,M,N,z,C,O,nw,D,E,F⟩:=x;have c:v.stack.length=st.length+1:=by rw[k];rfl
 obtain⟨l,a,rfl,_,d,m,G⟩:∃g a,nw= .slice (some ⟨g,0,none⟩) v.stack.length a/\B<=g/\v.stack.length<=a/\a<=maxLen/\g<w.heap.size:=h.stack.form (by omega);have o:=h.stack.1.cellAt st.length (by simp[c]);have t:(v.stack.reverse.map JF)[st.length]?=some (.int .i64 n):=by rw[k];simp[JF]
 rw[t]at o;have i:Sl (λb=>B<=b) w 3 1 (.slice (some ⟨l,0,none⟩) st.length a) st.length (st.reverse.map JF):=by
  have I:Sl (λb=>B<=b) w 3 1 (.slice (some ⟨l,0,none⟩) v.stack.length a) v.stack.length (v.stack.reverse.map JF):=h.stack;have q:=I.take st.length (by omega);rw[GQ]at q;have e:(v.stack.reverse.map JF).take st.length=st.reverse.map JF:=by rw[k,it,Cb,List.take_left' (by simp)]
  rw[e]at q;exact q
 have c3:=h.row.cell 3;have f:∀j,w.frozen? ⟨gr,j,none⟩=false:=λj=>h.row.frozen j;have r1:gr<w.heap.size:=h.row.lt;rw[c]at c3 y d;have J:w.cell? ⟨l,st.length,none⟩=some (.int .i64 n):=by simpa using o
 unfold maxLen at m;obtain⟨H,K⟩:=zq2 h i;clear h i k o t c;simp at c3;go_enter func97,ntmps97;go_wp2;go_quiet (fail);go_wp2;go_region;go_wp2;go_ret;have r:=(H.out.grown ((Ac.refl _ w).drewN _|>.drew) H.out.base).setStack (w':=(w.drewN nq).drew) (T:=λ_=>False) (st:=st) zAr (λb s=>s.elim) (K.out.of_heap rfl) (λb s=>.inl s);refine⟨rfl,?_,_,r⟩;exact(((Ac.refl _ w).drewN _).drew).setCell (p:=⟨gr,3,none⟩) H.out.iI _
end
theorem Wr {l:List Bi}{q:Int}(h:Ix l.length q):l[q.toNat]?=some (Aq l q):=by
 obtain⟨b,c⟩:=h;have a:q.toNat<l.length:=by omega
 unfold Aq;rw[Ae a];rfl
section
variable {B:Nat}{w:World}{x:RV}{SA:Nat->Prop}{p:Ax}{key:Int}{A:Am}{v:VS}
theorem uh.decl {k gp:Nat}{e b d:Value}{l:Nat}(h:uh B w k gp e b d l p) {q:Int}(i:Ix p.decls.length q):
  ∃g a,e= .slice (some ⟨g,0,none⟩) p.decls.length a/\p.decls.length<=a/\a<=maxLen/\w.cell? ⟨g,q.toNat*3,none⟩=some (.int .i64 (Aq p.decls q).kind)/\w.cell? ⟨g,q.toNat*3+2,none⟩=some (.int .i64 (Aq p.decls q).max):=by
 obtain⟨g,a,rfl,_,m,n,_⟩:=h.decls.form (by unfold Ix at i;omega);have c:=λj o=>h.decls.at_ (f:=Dx) (λ_=>rfl) (Wr i) (j:=j) o;exact⟨g,a,rfl,m,n,c 0 (by omega),c 2 (by omega)⟩
theorem Pt (h:Cr B w x SA p key A v) (i:A.Ok) (K:p.decls.length<=8) (j:A.qs.length=p.decls.length) {q:Int}(b:Ix p.decls.length q):
  Calls prog 98 #[.pointer (some ⟨x.gr,0,none⟩),.int .i64 q] w λe w'=>e= .returned (.bool (Md p.decls A q))/\∃n,w'=w.drewN n:=by
 obtain⟨gr,N,gp,gs,O,P,k,l,Q,o,r,s,t⟩:=x;obtain⟨u,y,z,C,E⟩:=zp5 (h.row.cell 0) (h.row.cell 1) (h.bS.cell 0) (h.ro.prog.cell 0) (h.ro.bQ.cell 0);obtain⟨F,R,e1,G,g,_,H⟩:=h.ro.decl b;simp only at e1;subst e1;obtain⟨S,T,U,V,c⟩:=h.ar;have d:q.toNat<A.qs.length:=by unfold Ix at b;omega
 have a:=λn=>(Sb (c.drewN n) i q.toNat d (by omega)).mono λe w' h=>(⟨h.1,h.2.symm⟩:e= .returned (.int .i64 (A.len q.toNat))/\w'=w.drewN n);have f:((q.toNat:Nat):Int)=q:=by unfold Ix at b;omega
 obtain⟨m,rfl⟩:∃m:Nat,q=(m:Int):=⟨q.toNat,f.symm⟩;rw[As]at*;have W:m<p.decls.length:=by unfold Ix at b;omega
 unfold Md M7;rw[As];generalize A.len m=L at*;generalize (Aq p.decls (m:Int)).max=M at*;generalize p.decls.length=D at*;have I:=Aa a;unfold maxLen at g;clear h c a f b i j d;simp at u y z C E;have J:w.cell? ⟨F,m*3+2,none⟩=some (.int .i64 M):=H;go_enter func98,ntmps98;go_wp2;go_quiet ((go_at_call 95;exact EF (I.out _)));go_wp2;go_ret;exact⟨rfl,_,rfl⟩
theorem Gf (h:Cr B w x SA p key A v) (t:p.decls.length<=8) {q:Int}(a:q= -1\/Ix p.decls.length q):
  Calls prog 100 #[.pointer (some ⟨x.gr,0,none⟩),.int .i64 q] w λe w'=>e= .returned (.bool (AY p.decls q))/\w'=w:=by
 obtain⟨gr,u,gp,gs,y,z,f,g,C,i,j,k,l⟩:=x;rcases a with rfl|a
 ·have e:AY p.decls (-1)=false:=rfl;rw[e];clear h;go_enter func100,ntmps100;go_wp2;go_ret;exact⟨rfl,rfl⟩
 ·have n:=h.row.cell 0;have o:=h.ro.prog.cell 0;have r:=h.ro.bQ.cell 0;obtain⟨E,F,e1,s,c,G,_⟩:=h.ro.decl a;simp only at e1;subst e1;have b:((q.toNat:Nat):Int)=q:=by unfold Ix at a;omega
  obtain⟨m,rfl⟩:∃m:Nat,q=(m:Int):=⟨q.toNat,b.symm⟩;rw[As]at*;have H:m<p.decls.length:=by unfold Ix at a;omega
  have e:AY p.decls (m:Int)=((Aq p.decls (m:Int)).kind==0):=by unfold AY;simp
  rw[e];generalize (Aq p.decls (m:Int)).kind=K at*;generalize p.decls.length=D at*;unfold maxLen at c;have d:(K==0)=decide ((K:Int)=0):=by rw[GH];simp
  rw[d];clear h b a e d;simp at n o r;go_enter func100,ntmps100;go_wp2;go_ret;exact⟨rfl,rfl⟩
end
end Go.Proofs.YtodkkholbjeioaaGreatDoor.Ev
namespace Go.Proofs.YtodkkholbjeioaaGreatDoor.Ev
open _root_.Go.Proofs.Tryz
structure Rf (p:Ax) (A:Am) (key:Int):Prop where
 ok:A.Ok
 un:∀n,A.idx key=some n->∃q,A.fF n q
 qB:(A.out key).Ok
 len:(A.out key).qs.length=A.qs.length
 frq:0<=A.bW key/\A.bW key<=99
 cin:∀q,Ix p.decls.length q->(Aq p.decls q).kind≠2->Md p.decls (A.out key) q=false->(A.out key).jR key (A.bW key) q.toNat
 wh:A.cz key= -1\/Ix p.decls.length (A.cz key)
 q8:A.qs.length<=8
 ql:A.qs.length=p.decls.length
theorem Sa {A:Am}{z:List (List Nat)}{p:Ax}{s:St}(h:CE A z s.q) (b:G4 p s) (m:Em p) (key:Int):Rf p A key:=by
 obtain⟨u,o2,v,f⟩:=QI h key;have d:A.qs.length=p.decls.length:=by rw[←h.jg,b.q]
 have n:=m.bI;cases e:s.find key with
 |none=>
  rw[e]at f;obtain⟨e1,g,w⟩:=f;refine⟨h.ok,u,by rw[e1];exact h.ok,v,by rw[g];omega,λq o r j=>?_,.inl w,h.q8,d⟩;rw[e1]at o2 j ⊢;rw[g];obtain⟨_,c⟩:=Pz (from_:= -1) h b m false [] o2 o r ⟨Int.le_refl 0,n.1⟩;rcases c with⟨_,c2⟩|⟨_,_,_,_,_,c5,_⟩
  ·rw[j]at c2;cases c2
  ·exact c5
 |some B=>
  obtain⟨k,i⟩:=B;rw[e]at f;obtain⟨⟨C,x⟩,g,w,D,l,y,E⟩:=f;have F:Bm (s.queue (k:Int)) i∈s.queue (k:Int):=Nw (by rw[Nq,y];exact E);have a:=b.queue (k:Int) _ F;rw[←g]at a;have t:k<s.q.length:=(Aj.1 y).1;refine⟨h.ok,u,x.ok,v,⟨a.1,by omega⟩,λq o r j=>?_,.inr (by rw[D];unfold Ix;rw[b.q]at t;omega),h.q8,d⟩;obtain⟨_,c⟩:=Pz (s:=s.out k i) (from_:=k) x (b.out k i) m false [] o2 o r a;rcases c with⟨_,c2⟩|⟨_,_,_,_,_,c5,_⟩
  ·rw[j]at c2;cases c2
  ·exact c5
end Go.Proofs.YtodkkholbjeioaaGreatDoor.Ev
namespace Go.Proofs.YtodkkholbjeioaaGreatDoor.Ev
open _root_.Go.Proofs.Tryz
open Go Go.RowKit
section
variable {P:Program}{ops:Array Oper}{md:Region.Mode}{C:World->Prop}
def Va (P:Program) (md:Region.Mode) (ops:Array Oper) (C:World->Prop) (n:Nat) (L:Array Bool->Act->Prop):Nat->Array Bool->Act->Prop
 |0,b,a=>L b a
 |f+1,b,a=>
  Region.ready md ops b≠ []/\∀i∈Region.ready md ops b,i<n/\qOp P ops C i (Va P md ops C n L f (b.setIfInBounds i true)) a
theorem OS {n g:Nat}{L:Array Bool->Act->Prop}{Q':Exit->Act->World->Prop}(e:∀b a w,C w->L b a->wpAny P md ops Q' g b a w):
  ∀(f:Nat) (b:Array Bool) (a:Act) (w:World),C w->Va P md ops C n L f b a->wpAny P md ops Q' (f+g) b a w
 |0,b,a,w,c,h=>by rw[DK];exact e _ _ _ c h
 |f+1,b,a,w,c,h=>by rw[show f+1+g=(f+g)+1 by omega];exact⟨λj=>absurd j h.1,λi k=>wpOp_of_qOp c (λl w' d m=>OS e f _ l w' d m) (h.2 i k).2⟩
theorem YP {n i:Nat}{z:Oper}{v:Value}{L:Array Bool->Act->Prop}(J:ops[i]?=some z) (r:∀(j:Nat) (o:Oper) cs b,ops[j]?=some o->o.op≠.select cs b)
  (O:Region.sinkB md ops n=true) (Q:Region.chainB md ops n=true) (R:n<ops.size) (A:i<n)
  (u:∀c a,L c a->∀j∈Region.ready md ops c,n<=j):
  ∀(f:Nat) (c:Array Bool) (a:Act),HeadInv md ops n c->
   (∀j w,ops[j]?=some w->j≠i->c.getD j true=false->(∀e∈w.after,Region.binds md e=true->e.on≠i)->z.apart ops w=true)->
   i∈Region.ready md ops c->YieldsIn P ops C z v a->
   Va P md ops C n L f (c.setIfInBounds i true) (a.put z.dst v)->Va P md ops C n L (f+1) c a:=by
 intro f
 induction f with
 |zero=>
  intro c a m _ s G H;have g:=(mem_ready.1 s).1;refine⟨λh=>(by rw[h]at s;cases s),λj x=>?_⟩;have p:j<n:=by
   rcases Be j n with h|h
   ·exact h
   ·exact absurd x (tail_waits O Q R m _ i rfl A g j h)
  refine⟨p,?_⟩;by_cases d:j=i
  ·subst d;exact G.qOp J H
  ·have:=u _ _ H j (ready_mono x d);omega
 |succ f T=>
  intro c a m l s G H;have g:=(mem_ready.1 s).1;refine⟨λh=>(by rw[h]at s;cases s),λj x=>?_⟩;have p:j<n:=by
   rcases Be j n with h|h
   ·exact h
   ·exact absurd x (tail_waits O Q R m _ i rfl A g j h)
  refine⟨p,?_⟩;by_cases d:j=i
  ·subst d;exact G.qOp J H
  ·have I:=(H.2 j (ready_mono x d)).2;obtain⟨t,w,y,B⟩:=mem_ready.1 x;have D:∀e∈w.after,Region.binds md e=true->e.on≠i:=λe U V K=>by have I:=B e U V;rw[K,getD_both g]at I;cases I
   have W:=qOp_put y (l j w y d t D) (λcs b=>r i z cs b J) (λcs b=>r j w cs b y) G I;have q:∀k E,ops[k]?=some E->k≠i->(c.setIfInBounds j true).getD k true=false->
     (∀e∈E.after,Region.binds md e=true->e.on≠i)->z.apart ops E=true:=λk E X M g N=>by
    refine l k E X M ?_ N;by_cases F:j=k
    ·subst F;exact t
    ·rw[getD_set_ne true F]at g;exact g
   refine qOp_mono (λY S=>T (c.setIfInBounds j true) Y (m.set x p) q (ready_mono s (Kj d)) S.1 ?_) W;rw[Array.setIfInBounds_comm _ _ d];exact S.2
theorem U9 {n g:Nat}{r:Act->Prop}(d:Region.noSelect ops=true) (u:Region.sinkB md ops n=true) (w:Region.chainB md ops n=true) (x:n<ops.size):
  ∀(l:List Oper) (k:Nat) (b:Array Bool) (a:Act),(∀j,j<l.length->l[j]?=ops[k+j]?)->k+l.length=n->HeadInv md ops n b->
  Region.lexHead md ops g l.length k b=true->wpQuiet P ops C r l a->
  Va P md ops C n (λc y=>Region.seqB md ops g n c=true/\r y) l.length b a
 | [],k,b,a,_,m,_,p,h=>by
  have:k=n:=by simpa using m
  subst this;exact⟨by simpa[Region.lexHead]using p,h⟩
 |o::l,k,b,a,z,m,e,p,h=>by
  have q:ops[k]?=some o:=by simpa using(z 0 (by simp)).symm
  simp only[Af,Region.lexHead,Eh]at p;obtain⟨⟨A,B⟩,s⟩:=p;have f:k<n:=by simp only[Af]at m;omega
  have i:k∈Region.ready md ops b:=by simpa using A
  have t:qOp P ops C k (wpQuiet P ops C r l) a:=by unfold qOp;simp only[q];exact h
  obtain⟨v,D,E⟩:=yieldsIn_of_qOp q t;exact YP q (Region.noSelect_spec d) u w x f (λc y F=>seqB_ready F.1) l.length b a e (Region.free_spec q B) i D
   (U9 d u w x l (k+1) _ _ (λj G=>by have:=z (j+1) (by simp;omega);simpa[E5,FH 1 j]using this) (by simp only[Af]at m;omega) (e.set i f) s E)
theorem G9 {id:Nat}{Q:Exit->Act->World->Prop}{a:Act}{w:World}{l:List Oper}(n:Nat) (x:P.follows .mixedOrders=true) (q:Region.lexTailB .any l.toArray n=true)
  (h:wpQuiet P l.toArray (λw'=>∃k,w'=w.drewN k) (λm=>∀k,wpList P l.toArray Q (l.drop n) m (w.drewN k)) (l.take n) a):(Code.region id l.toArray true).wp P Q a w:=by
 simp only[Region.lexTailB,Eh,Ey]at q;obtain⟨⟨⟨⟨d,r⟩,y⟩,z⟩,e⟩:=q;have A:n<l.length:=by simpa using r
 have b:(l.take n).length=n:=by simp;omega
 have f:(l.drop n).length=l.toArray.size-n:=by simp
 have i:HeadInv .any l.toArray n (Array.replicate l.toArray.size false):=
  ⟨by simp,λj D _ s=>(by rw[getD_replicate_false]at s;cases s),λt _ B=>getD_in (by simpa using B) (getD_replicate_false _ _)⟩
 have H:=U9 (md:=.any) (g:=l.toArray.size-n) d y z r (l.take n) 0 _ a (λj u=>by
  have o:j<n:=by rw[b]at u;exact u
  simp[o]) (by simpa using b) i (by rw[b];exact e) h
 refine wp_region_any x ?_;have:=OS (Q':=Q) (g:=l.toArray.size-n) (λc m w' p v=>by
  obtain⟨k,rfl⟩:=p;have:=wpAny_of_seq (md:=.any) (Q':=Q) (l.drop n) n c m (w.drewN k) (λj=>by simp[Lz]) (by rw[f];exact v.1) (v.2 k);rwa [f]at this) _ _ _ {w with drawn:=w.drawn+1} ⟨1,rfl⟩ H
 rw[b,show n+(l.toArray.size-n)=l.toArray.size by omega]at this;exact this
end
structure TU (B:Nat) (ea:Nat->Addr) (w:World):Prop where
 full:w.cell? ⟨4,0,none⟩=some (Ds ea 11)
 emp:w.cell? ⟨5,0,none⟩=some (Ds ea 12)
 lf:4<B
 le:5<B
theorem TU.kept {B:Nat}{ea:Nat->Addr}{w w':World}(h:TU B ea w) {S:Nat->Prop}(c:Ac S w w') (d:∀b,S b->B<=b):TU B ea w':=
 ⟨(c.cell (p:=⟨4,0,none⟩) (λa=>by have:=d _ a;have:=h.lf;simp at*;omega)).trans h.full,(c.cell (p:=⟨5,0,none⟩) (λa=>by have:=d _ a;have:=h.le;simp at*;omega)).trans h.emp,h.lf,h.le⟩
def Qy (B:Nat) (ea:Nat->Addr) (w:World) (x:RV) (p:Ax) (key:Int) (v:VS) (a:Except Nat AR) (e:Ending) (w':World):Prop:=
 Ac (λb=>B<=b) w w'/\match a with
  | .error k=>e= .returned (Ds ea k)
  | .ok r'=>e= .returned .nilIface/\∃c u,Cr B w' {x with iT:=u} c p key r'.A {v with r:=⟨⟨v.r.s.q,r'.vars⟩,r'.out⟩}
section
variable {B:Nat}{ea:Nat->Addr}{w:World}{x:RV}{SA:Nat->Prop}{p:Ax}{key:Int}{A:Am}{v:VS}
theorem Cr.fy (h:Cr B w x SA p key A v):∃a c d e,BL (λb=>SA b\/w.heap.size<=b) w x.ga A a c d e:=by obtain⟨a,c,d,e,f⟩:=h.ar;exact⟨a,c,d,e,f.mono (λb g=>.inl g)⟩
theorem Cr.up (w:World) (SA:Nat->Prop):Up (λb=>SA b\/w.heap.size<=b) w:=λ_ a=>.inr a
theorem Cr.fL (h:Cr B w x SA p key A v) {w':World}(a:Ac (λb=>SA b\/w.heap.size<=b) w w'):Ac (λb=>B<=b) w w':=
 a.mono (λb c=>c.elim (λe=>(h.sa b e).1) (λe=>Ad h.base e))
theorem lC (h:Cr B w x SA p key A v) (j:Em p) (k:A.Ok) (q c:Int):
  Calls prog 102 #[.pointer (some ⟨x.gr,0,none⟩),.agg #[.int .u8 8,.int .i64 q,.int .i64 0],.int .u64 c] w (Qy B ea w x p key v (GY p c (.dV q) ⟨A,v.r.s.vars,v.r.gone⟩)):=by
 have d:=h.grown ((Ac.refl _ w).alloc (Ab _) (.cells #[.int .u8 8,.int .i64 q,.int .i64 0] 172)) h.base;obtain⟨J,o,t,u,b⟩:=d.fy;have f:=j.bI;have l:=ak b k c (-1) p.bI (by omega) (by omega);obtain⟨y,z,C,D,E,r1,K,L⟩:=zp8 (h.row.cell 0) (h.row.cell 1) (h.bS.cell 0) (h.ro.prog.cell 0) (h.ro.bQ.cell 1) h.row.lt h.bS.lt h.ro.prog.lt;have M:=h.ro.bQ.lt;have N:¬x.gr=w.heap.size:=by omega
 have O:¬x.gs=w.heap.size:=by omega
 have P:¬x.gg=w.heap.size:=by omega
 have Q:¬x.gp=w.heap.size:=by omega
 obtain⟨m,F,G⟩:=zq3 d l h.base;clear h d b l k j f;simp at y z C D E;go_enter func102,ntmps102;go_wp2_with fail;refine F.out.mono ?_;rintro e w' ⟨rfl,g,i,a⟩;have n:=m.out.dI g ⟨i,o,t,u,a⟩;obtain⟨H,I⟩:=zq2 n g;clear g a n;go_wp2;go_ret;exact⟨((Ac.refl _ w).alloc G.out _).trans (m.out.fL I.out),rfl,_,x.iT,H.out⟩
theorem Se:(prog.info? 25).map (λi=>(i.zero,i.size,i.bytes))=some (some (.int .u64 0),1,8):=by kernel_rfl
structure tJ (B:Nat) (w:World) (x:RV) (SA:Nat->Prop) (p:Ax) (key:Int) (A:Am) (v:VS) (n:Int):Prop where
 run:Cr B (w.alloc (.cells #[.int .u64 n] 25)) x SA p key A v
 base:B<=(w.alloc (.cells #[.int .u64 n] 25)).heap.size
 cells:∀j u,[Value.int .u64 n][j]?=some u->(w.alloc (.cells #[.int .u64 n] 25)).cell? ((⟨w.heap.size,0,none⟩:Addr).add j)=some u
 one:∀u∈ [Value.int .u64 n],u.oneCell'=true
 gr:¬(x.iT.ownBlock=some x.gr\/(w.alloc (.cells #[.int .u64 n] 25)).heap.size<=x.gr)
 gs:¬(x.iT.ownBlock=some x.gs\/(w.alloc (.cells #[.int .u64 n] 25)).heap.size<=x.gs)
 gg:¬(x.iT.ownBlock=some x.gg\/(w.alloc (.cells #[.int .u64 n] 25)).heap.size<=x.gg)
 gp:¬(x.iT.ownBlock=some x.gp\/(w.alloc (.cells #[.int .u64 n] 25)).heap.size<=x.gp)
 qY:w.heap.size+1=(w.alloc (.cells #[.int .u64 n] 25)).heap.size
theorem Cr.nK (h:Cr B w x SA p key A v) (n:Int):tJ B w x SA p key A v n:=by
 obtain⟨r1,c,d,e⟩:=zp4 h.row.lt h.bS.lt h.ro.prog.lt h.ro.bQ.lt;refine⟨h.grown ((Ac.refl _ w).alloc (Ab _) _) h.base,Ad h.base (by simp),C9 w [.int .u64 n] 25,by intro u b;simp at b;subst b;rfl,?_,?_,?_,?_,by simp⟩
 ·rintro(a|a)
  ·exact h.out.bK h.row (by decide) a
  ·simp at a;omega
 ·rintro(a|a)
  ·exact h.out.bK h.bS (by decide) a
  ·simp at a;omega
 ·rintro(a|a)
  ·exact h.out.bK h.ro.prog (by decide) a
  ·simp at a;omega
 ·rintro(a|a)
  ·exact h.out.bK h.ro.bQ (by decide) a
  ·simp at a;omega
theorem tJ.done {n:Int}(h:tJ B w x SA p key A v n) {d:World}{g2 a:Nat}
  (i:Sl (λb=>B<=b) d 25 1 (.slice (some ⟨g2,0,none⟩) (v.r.gone.length+1) a) (v.r.gone.length+1) (v.r.gone.map KE++[.int .u64 n]))
  (g:Ac (λb=>x.iT.ownBlock=some b\/(w.alloc (.cells #[.int .u64 n] 25)).heap.size<=b) (w.alloc (.cells #[.int .u64 n] 25)) d)
  (j:x.iT.ownBlock=some g2\/g2=(w.alloc (.cells #[.int .u64 n] 25)).heap.size) (k:B<=w.heap.size):
  Ac (λb=>B<=b) w (d.setCell ⟨x.gr,6,none⟩ (.slice (some ⟨g2,0,none⟩) (v.r.gone.length+1) a))/\
  Cr B (d.setCell ⟨x.gr,6,none⟩ (.slice (some ⟨g2,0,none⟩) (v.r.gone.length+1) a)) {x with iT:=.slice (some ⟨g2,0,none⟩) (v.r.gone.length+1) a} SA p key A {v with r:={v.r with gone:=v.r.gone++[n]}}:=by
 have f:=h.run.px (l:=v.r.gone++[n]) g (λb c=>c) (by simpa[KE]using i) (λb c=>by
  injection c with c;simp only at c;subst c;exact j.imp id (λe=>by rw[e];exact Ab _))
 have e:(v.r.gone++[n]).length=v.r.gone.length+1:=by simp
 refine⟨?_,f⟩;exact(((Ac.refl _ w).alloc k _).trans (g.mono (λb c=>c.elim (λe=>h.run.out.2 b e) (λe=>Ad h.base e)))).setCell (p:=⟨x.gr,6,none⟩) h.run.iI _
theorem fm (h:Cr B w x SA p key A v) (hp:p.decls.length<=8) (L:v.r.gone.length<Do) {q l:Int}(hq:Ix p.decls.length q) (E:Rf p A l):
  Calls prog 102 #[.pointer (some ⟨x.gr,0,none⟩),.agg #[.int .u8 2,.int .i64 q,.int .i64 0],.int .u64 l] w (Qy B ea w x p key v (GY p l (.cu q) ⟨A,v.r.s.vars,v.r.gone⟩)):=by
 have M:=h.grown ((Ac.refl _ w).alloc (Ab _) (.cells #[.int .u8 2,.int .i64 q,.int .i64 0] 172)) h.base;obtain⟨vl,vf,vq,bm,F⟩:=M.fy;have ho:=PO F (Cr.up _ SA) E.ok (by have:=E.q8;omega) l E.un;obtain⟨c1,s0,r1,r2⟩:=zp4 (h.row.cell 1) (h.bS.cell 0) h.row.lt h.bS.lt;have q1:¬x.gr=w.heap.size:=by omega
 have q2:¬x.gs=w.heap.size:=by omega
 have hR:AF (w.alloc (.cells #[.int .u8 2,.int .i64 q,.int .i64 0] 172)) w.heap.size 172 [.int .u8 2,.int .i64 q,.int .i64 0]:=AF.new w _ _;have G:¬(SA w.heap.size\/(w.alloc (.cells #[.int .u8 2,.int .i64 q,.int .i64 0] 172)).heap.size<=w.heap.size):=by
  rintro(N|N)
  ·have:=(h.sa _ N).2;omega
  ·simp at N;omega
 obtain⟨i0,O,P,Q,R⟩:=Bg Se;obtain⟨HA,HO,HB,HM,HR,S,HQ⟩:=zq7 M ho h.base E hR G hq;have q4:v.r.gone.length+1<=maxLen:=by unfold Do at L;unfold maxLen;omega
 have q5:(v.r.gone.length+1)*8<=140737488355328:=by unfold Do at L;omega
 clear h M F ho E hR G hq L;simp at c1 s0;go_enter func102,ntmps102;go_wp2_with fail;refine HO.out.mono ?_;rintro e w1 ⟨rfl,K,T,U,V,n⟩;have W:=HA.out.dI K ⟨T,U,V,bm,n⟩;have z:=HR.out.kept K S.out;have b0:=z.cell 0;have b1:=z.cell 1;have o:=Gf W hp (.inr HQ.out);have H:=((Ac.refl (λb=>B<=b) w).alloc HB.out (.cells #[.int .u8 2,.int .i64 q,.int .i64 0] 172)).trans (HA.out.fL K);obtain⟨k,I,t⟩:=zq3 W H o;clear K n W z o H;simp at b0 b1;cases D:AY p.decls q with
 |false=>
  have d:=t.out;rw[D]at d;obtain⟨i,X⟩:=zq2 d D;clear d D;go_wp2_with (go_at_call 100;refine i.out.mono ?_;rintro e w' ⟨rfl,rfl⟩);go_ret;have e:GY p l (.cu q) ⟨A,v.r.s.vars,v.r.gone⟩= .ok ⟨A.out l,v.r.s.vars,v.r.gone⟩:=by simp[GY,X.out]
  rw[e];exact⟨I.out,rfl,_,x.iT,k.out⟩
 |true=>
  have d:=t.out;rw[D]at d;obtain⟨i,X⟩:=zq2 d D;have C:=k.out.nK l;have c6:=k.out.row.cell 6;have f:∀j,w1.frozen? ⟨x.gr,j,none⟩=false:=λj=>k.out.row.frozen j;have cw:=k.out.row.lt;have cy:¬x.gr=w1.heap.size:=by omega
  obtain⟨gr,gg,gp,gs,ga,vd,cz,cB,lp,cZ,da,Y,dd⟩:=x;obtain⟨av,cv,rfl⟩:∃a c,Y= .slice a v.r.gone.length c:=C.run.out.shape;obtain⟨g,Z⟩:=zq2 C k.out.base;clear d D C;simp at c6;simp only at*;go_wp2_with (first|(go_at_call 100;refine i.out.mono ?_;rintro e w' ⟨rfl,rfl⟩)|(at_builtin;go_must (refine DA Ez O P Q R rfl (by decide) g.out.run.out g.out.base rfl _ _ rfl rfl ⟨w'.heap.size,0,none⟩ 1 1 [.int .u64 l] rfl rfl g.out.cells g.out.one q4 q5 (Ci _) ?_;intro g2 bN w2 J m u;have e1:=(g.out.run.row.kept m g.out.gr).cell 6;have e5:∀j,w2.frozen? ⟨gr,j,none⟩=false:=λj=>(g.out.run.row.kept m g.out.gr).frozen j;have be:=Aa J;have bI:=Aa m;have HL:=Aa u;clear J m u;simp at e1)));go_ret;have y:=g.out.done be.out bI.out HL.out Z.out;have e:GY p l (.cu q) ⟨A,v.r.s.vars,v.r.gone⟩= .ok ⟨A.out l,v.r.s.vars,v.r.gone++[l]⟩:=by simp[GY,X.out]
  rw[e];exact⟨I.out.trans y.1,rfl,_,_,y.2⟩
end
section
variable {B:Nat}{ea:Nat->Addr}{w:World}{x:RV}{SA:Nat->Prop}{p:Ax}{key:Int}{A:Am}{v:VS}
def YW (tl:Bool):Int:=if tl then 4 else 3
theorem fj (h:Cr B w x SA p key A v) (he:TU B ea w) (hp:p.decls.length<=8) (hg:v.r.gone.length<Do) {q t d:Int}(tl:Bool) (hq:Ix p.decls.length q) (ht:Ix p.decls.length t) (ci:(Aq p.decls t).kind≠2) (hm:Rf p A d):
  Calls prog 102 #[.pointer (some ⟨x.gr,0,none⟩),.agg #[.int .u8 (YW tl),.int .i64 q,.int .i64 t],.int .u64 d] w (Qy B ea w x p key v (GY p d (.shift q t tl) ⟨A,v.r.s.vars,v.r.gone⟩)):=by
 obtain⟨z,bO⟩:∃z,z=YW tl:=⟨_,rfl⟩;rw[←bO];have ha:=h.grown ((Ac.refl _ w).alloc (Ab _) (.cells #[.int .u8 z,.int .i64 q,.int .i64 t] 172)) h.base;have cu:=he.kept ((Ac.refl (λb=>B<=b) w).alloc h.base (.cells #[.int .u8 z,.int .i64 q,.int .i64 t] 172)) (λb hb=>hb);obtain⟨vl,vf,vq,bm,cw⟩:=ha.fy;have ho:=PO cw (Cr.up _ SA) hm.ok (by have:=hm.q8;omega) d hm.un;obtain⟨c1,s0,r1,r2⟩:=zp4 (h.row.cell 1) (h.bS.cell 0) h.row.lt h.bS.lt;have q1:¬x.gr=w.heap.size:=by omega
 have q2:¬x.gs=w.heap.size:=by omega
 have hR:AF (w.alloc (.cells #[.int .u8 z,.int .i64 q,.int .i64 t] 172)) w.heap.size 172 [.int .u8 z,.int .i64 q,.int .i64 t]:=AF.new w _ _;have cy:¬(SA w.heap.size\/(w.alloc (.cells #[.int .u8 z,.int .i64 q,.int .i64 t] 172)).heap.size<=w.heap.size):=by
  rintro(h0|h0)
  ·have:=(h.sa _ h0).2;omega
  ·simp at h0;omega
 obtain⟨i0,fB,fC,fD,fE⟩:=Bg Se;obtain⟨HA,HE,HO,HB,C,HR,cz,HQ⟩:=zq8 ha cu ho h.base hm hR cy hq;obtain⟨HT,fG⟩:=zq2 ht ci;have q4:v.r.gone.length+1<=maxLen:=by unfold Do at hg;unfold maxLen;omega
 have q5:(v.r.gone.length+1)*8<=140737488355328:=by unfold Do at hg;omega
 have H:decide (z=8)=false/\decide (z=2)=false/\decide (z=4)=tl:=by subst bO;cases tl<;>exact⟨rfl,rfl,rfl⟩
 obtain⟨H,cB,da⟩:=H;have ix:(z==8)=false:=by simpa using H
 have iy:(z==2)=false:=by simpa using cB
 have iz:(z==4)=tl:=by rw[←da];rfl
 clear h he cu ha cw ho hm hR cy hq ht ci hg bO;simp at c1 s0;go_enter func102,ntmps102;go_wp2_with fail;refine HO.out.mono ?_;rintro e w1 ⟨rfl,hk,fH,fJ,fK,bJ⟩;have hr:=HA.out.dI hk ⟨fH,fJ,fK,bm,bJ⟩;have D:=HR.out.kept hk cz.out;have dF:=HE.out.kept (HA.out.fL hk) (λb hb=>hb);have b0:=D.cell 0;have b1:=D.cell 1;have b2:=D.cell 2;have dG:=((Ac.refl (λb=>B<=b) w).alloc HB.out (.cells #[.int .u8 z,.int .i64 q,.int .i64 t] 172)).trans (HA.out.fL hk);have ji:=D.lt;have dH:¬((SA w.heap.size\/(w.alloc (.cells #[.int .u8 z,.int .i64 q,.int .i64 t] 172)).heap.size<=w.heap.size)/\w.heap.size<w1.heap.size):=λh=>cz.out h.1;generalize dJ:(λb=>(SA b\/(w.alloc (.cells #[.int .u8 z,.int .i64 q,.int .i64 t] 172)).heap.size<=b)/\b<w1.heap.size)=X at hr;have bL:¬X w.heap.size:=by rw[←dJ];exact dH
 have I:=Pt hr C.out.qB hp (C.out.len.trans C.out.ql) HT.out;obtain⟨bQ,dK,Y,fM,fN,jj⟩:=zq6 I hr dG D dF bL;clear hk bJ hr D dG dH bL dJ I dF;simp at b0 b1 b2;go_wp2_with fail;refine bQ.out.mono ?_;rintro e w2 ⟨rfl,nf,rfl⟩;cases Z:Md p.decls (A.out d) t with
 |true=>
  have E:=Aa Z;have ef:=fN.out.full;clear Z;go_wp2;go_ret;have e:GY p d (.shift q t tl) ⟨A,v.r.s.vars,v.r.gone⟩= .error Ul:=by simp[GY,E.out]
  rw[e];exact⟨Y.out.drewN _,rfl⟩
 |false=>
  have E:=Aa Z;clear Z;have be:=dK.out.grown (w':=w1.drewN nf) (zAr.drewN _) dK.out.base;have J:=Gf be hp (.inr HQ.out);have K:=Gf be hp (.inr HT.out);have bM:=C.out.cin t HT.out fG.out E.out;have L:=Aa bM;have bR:((t.toNat:Nat):Int)=t:=by have:=HT.out.1;omega
  obtain⟨M,N,k⟩:=zq3 J K be;clear J K be bM;cases F:AY p.decls q with
  |false=>
   have h1:=M.out;rw[F]at h1;obtain⟨H1,HD⟩:=zq2 h1 F;obtain⟨dN,dO,dP,O,g⟩:=k.out.fy;have l:=Zf g (Cr.up _ X) C.out.qB (by have:=C.out.q8;rw[C.out.len];omega) d (A.bW d) t.toNat tl L.out;rw[bR]at l;have P:=Aa l;clear h1 F g l;go_wp2_with (first|(go_at_call 100;refine H1.out.mono ?_;rintro e w' ⟨rfl,rfl⟩)|(go_at_call 101;refine P.out.mono ?_;rintro e w' ⟨rfl,m,Q,R,S,i⟩;have o:=k.out.dI m ⟨Q,R,S,O,i⟩;have T:=Aa o;have U:=Aa (k.out.fL m);clear m i o));go_ret;have e:GY p d (.shift q t tl) ⟨A,v.r.s.vars,v.r.gone⟩= .ok ⟨(A.out d).lQ d (A.bW d) t.toNat tl,v.r.s.vars,v.r.gone⟩:=by simp[GY,E.out,HD.out]
   rw[e];exact⟨(Y.out.drewN _).trans U.out,rfl,_,x.iT,T.out⟩
  |true=>
   have h1:=M.out;rw[F]at h1;obtain⟨H1,HD⟩:=zq2 h1 F;clear h1 F;cases G:AY p.decls t with
   |true=>
    have h2:=N.out;rw[G]at h2;obtain⟨H2,bV⟩:=zq2 h2 G;obtain⟨dN,dO,dP,O,g⟩:=k.out.fy;have l:=Zf g (Cr.up _ X) C.out.qB (by have:=C.out.q8;rw[C.out.len];omega) d (A.bW d) t.toNat tl L.out;rw[bR]at l;have P:=Aa l;clear h2 G g l;have u:True:=trivial;go_wp2_with (first|(go_at_call 100;have _t:=u;refine H1.out.mono ?_;rintro e w' ⟨rfl,rfl⟩;clear u _t)|(go_at_call 100;refine H2.out.mono ?_;rintro e w' ⟨rfl,rfl⟩)|(go_at_call 101;refine P.out.mono ?_;rintro e w' ⟨rfl,m,Q,R,S,i⟩;have o:=k.out.dI m ⟨Q,R,S,O,i⟩;have T:=Aa o;have U:=Aa (k.out.fL m);clear m i o));go_ret;have e:GY p d (.shift q t tl) ⟨A,v.r.s.vars,v.r.gone⟩= .ok ⟨(A.out d).lQ d (A.bW d) t.toNat tl,v.r.s.vars,v.r.gone⟩:=by simp[GY,E.out,HD.out,bV.out]
    rw[e];exact⟨(Y.out.drewN _).trans U.out,rfl,_,x.iT,T.out⟩
   |false=>
    have h2:=N.out;rw[G]at h2;obtain⟨H2,bV⟩:=zq2 h2 G;have bI:=k.out.nK d;have c6:=k.out.row.cell 6;have f:∀j,(w1.drewN nf).frozen? ⟨x.gr,j,none⟩=false:=λj=>k.out.row.frozen j;have jl:x.gr<w1.heap.size:=k.out.row.lt;have jm:¬x.gr=w1.heap.size:=by omega
    have bX:=fM.out.drewN nf|>.alloc (.cells #[.int .u64 d] 25);have dQ:¬(x.iT.ownBlock=some w.heap.size\/((w1.drewN nf).alloc (.cells #[.int .u64 d] 25)).heap.size<=w.heap.size):=by
     rintro(h0|h0)
     ·exact bI.run.out.bK bX (by decide) h0
     ·simp at h0;omega
    obtain⟨gr,gg,gp,gs,ga,vd,jn,jo,lp,ju,jC,fO,jD⟩:=x;obtain⟨av,cv,rfl⟩:∃a c,fO= .slice a v.r.gone.length c:=bI.run.out.shape;obtain⟨n,bY,bZ,fS⟩:=zq4 bI bX dQ k.out.base;clear h2 G bI bX dQ;simp at c6;simp only at*;have u:True:=trivial;go_wp2_with (first|(go_at_call 100;have _t:=u;refine H1.out.mono ?_;rintro e w' ⟨rfl,rfl⟩;clear u _t)|(go_at_call 100;refine H2.out.mono ?_;rintro e w' ⟨rfl,rfl⟩)|(at_builtin;go_must (refine DA Ez fB fC fD fE rfl (by decide) n.out.run.out n.out.base rfl _ _ rfl rfl ⟨(w1.drewN nf).heap.size,0,none⟩ 1 1 [.int .u64 d] rfl rfl n.out.cells n.out.one q4 q5 (Ci _) ?_;intro g2 iB w2 dR y bN;have e1:=(n.out.run.row.kept y n.out.gr).cell 6;have e5:∀j,w2.frozen? ⟨gr,j,none⟩=false:=λj=>(n.out.run.row.kept y n.out.gr).frozen j;have e6:=(bY.out.kept y bZ.out).cell 0;have e7:=(bY.out.kept y bZ.out).cell 2;have e8:¬w.heap.size=gr:=(bY.out.kept y bZ.out).cZ (n.out.run.row.kept y n.out.gr) (by decide);have fT:=Aa dR;have fU:=Aa y;have HL:=Aa bN;clear dR y bN;simp at e1 e6 e7)));have V:=n.out.done fT.out fU.out HL.out fS.out;obtain⟨dN,dO,dP,O,g⟩:=V.2.fy;have l:=Zf g (Cr.up _ X) C.out.qB (by have:=C.out.q8;rw[C.out.len];omega) d (A.bW d) t.toNat tl L.out;rw[bR]at l;obtain⟨P,W⟩:=zq2 l V;clear g l V;go_wp2_with (go_at_call 101;refine P.out.mono ?_;rintro e w' ⟨rfl,m,Q,R,S,i⟩;have o:=W.out.2.dI m ⟨Q,R,S,O,i⟩;have T:=Aa o;have U:=Aa (W.out.2.fL m);clear m i o);go_ret;have e:GY p d (.shift q t tl) ⟨A,v.r.s.vars,v.r.gone⟩= .ok ⟨(A.out d).lQ d (A.bW d) t.toNat tl,v.r.s.vars,v.r.gone++[d]⟩:=by simp[GY,E.out,HD.out,bV.out]
    rw[e];exact⟨((Y.out.drewN _).trans W.out.1).trans U.out,rfl,_,_,T.out⟩
end
section
variable {B:Nat}{ea:Nat->Addr}{w:World}{x:RV}{SA:Nat->Prop}{p:Ax}{key:Int}{A:Am}{v:VS}
def KO:D4->Int
 | .cu _=>2
 | .shift _ _ tl=>YW tl
 |_=>8
def Gu:D4->Int
 | .cu q=>q
 | .shift q _ _=>q
 | .dV q=>q
 |_=>0
def T7:D4->Int
 | .shift _ t _=>t
 |_=>0
def qd:D4->Bool
 | .cu _=>true
 | .shift _ _ _=>true
 | .dV _=>true
 |_=>false
theorem pU (h:Cr B w x SA p key A v) (f:TU B ea w) (c:Em p) (e:v.r.gone.length<Do) {y:D4}(a:Ki p.decls y) (g:qd y=true) {b:Int}(d:Rf p A b):
  Calls prog 102 #[.pointer (some ⟨x.gr,0,none⟩),.agg #[.int .u8 (KO y),.int .i64 (Gu y),.int .i64 (T7 y)],.int .u64 b] w (Qy B ea w x p key v (GY p b y ⟨A,v.r.s.vars,v.r.gone⟩)):=by
 cases y with
 |cu q=>exact fm h c.decls.len e a d
 |dV q=>exact lC h c d.ok q b
 |shift q t tl=>exact fj h f c.decls.len e tl a.1 a.2.1 a.2.2 d
 |_=>cases g
theorem Zp (h:Cr B w x SA p key A v) (U:TU B ea w) (K:Em p) (V:v.r.gone.length<Do) {y:D4}(W:Ki p.decls y) (M:qd y=true) (N:Ix p.decls.length (Gu y))
  (ok:A.Ok) (O:A.qs.length=p.decls.length) (X:0<M7 A (Gu y)->Rf p A (A.tail (Gu y).toNat)):
  Calls prog 64 #[.pointer (some ⟨x.gr,0,none⟩),.agg #[.int .u8 (KO y),.int .i64 (Gu y),.int .i64 (T7 y)]] w
   (Qy B ea w x p key v (if M7 A (Gu y)=0 then .error Ma else GY p (A.tail (Gu y).toNat) y ⟨A,v.r.s.vars,v.r.gone⟩)):=by
 have u:=h.grown ((Ac.refl _ w).alloc (Ab _) (.cells #[.int .u8 (KO y),.int .i64 (Gu y),.int .i64 (T7 y)] 172)) h.base;have g:=U.kept ((Ac.refl (λb=>B<=b) w).alloc h.base (.cells #[.int .u8 (KO y),.int .i64 (Gu y),.int .i64 (T7 y)] 172)) (λb P=>P);have Z:=K.decls.len;obtain⟨vl,vf,vq,bm,i⟩:=u.ar;have j:(Gu y).toNat<A.qs.length:=by unfold Ix at N;omega
 have a:=Sb i ok (Gu y).toNat j (by omega);have z:=λk=>ax (i.drewN k) ok (Gu y).toNat j (by omega);have l:(((Gu y).toNat:Nat):Int)=Gu y:=by have:=N.1;omega
 rw[l]at a;have C:A.len (Gu y).toNat=M7 A (Gu y):=rfl;rw[C]at a;have f:∀k,Calls prog 99 #[.pointer (some ⟨x.ga,0,none⟩),.int .i64 (Gu y)] ((w.alloc (.cells #[.int .u8 (KO y),.int .i64 (Gu y),.int .i64 (T7 y)] 172)).drewN k) λe w'=>e= .returned (.int .u64 (A.tail (Gu y).toNat))/\∃n,w'=((w.alloc (.cells #[.int .u8 (KO y),.int .i64 (Gu y),.int .i64 (T7 y)] 172)).drewN k).drewN n:=by intro k;have:=z k;rw[l]at this;exact this
 have D:=λ(c:0<M7 A (Gu y)) k=>pU (ea:=ea) (u.grown (w':=(w.alloc (.cells #[.int .u8 (KO y),.int .i64 (Gu y),.int .i64 (T7 y)] 172)).drewN k) (zAr.drewN k) u.base) (g.kept ((Ac.refl (λb=>B<=b) _).drewN k) (λb P=>P)) K V W M (X c);obtain⟨c1,s0,r1,r2⟩:=zp4 (h.row.cell 1) (h.bS.cell 0) h.row.lt h.bS.lt;have q1:¬x.gr=w.heap.size:=by omega
 have q2:¬x.gs=w.heap.size:=by omega
 have ef:=g.emp;have m:KO y=2\/KO y=3\/KO y=4\/KO y=8:=by
  cases y with
  |cu q=>exact .inl rfl
  |dV q=>exact .inr (.inr (.inr rfl))
  |shift q t tl=>cases tl;exact .inr (.inl rfl);exact .inr (.inr (.inl rfl))
  |_=>cases M
 clear W M N X j l C z ok O K Z;generalize E:GY p (A.tail (Gu y).toNat) y ⟨A,v.r.s.vars,v.r.gone⟩=Q at*;generalize R:A.tail (Gu y).toNat=KT at*;generalize ho:KO y=o at*;generalize F:Gu y=QA at*;generalize G:T7 y=QB at*;generalize M7 A QA=L at*;obtain⟨HA,d,H,I,S⟩:=zq5 u a f D h.base;clear h U g u V i a f D ho R F G E;simp at c1 s0;by_cases J:L=0
 ·subst J;rw[show((0:Nat):Int)=0 from rfl]at d;have HZ:=Aa (True.intro);rcases m with rfl|rfl|rfl|rfl
  all_goals
   go_enter Iw,GM;go_wp2_with (go_at_call 95;refine d.out.mono ?_;rintro e w' ⟨rfl,rfl⟩);go_ret;exact⟨(Ac.refl _ w).alloc S.out _,rfl⟩
 ·have c:0<L:=Nat.pos_of_ne_zero J;have b1:((L:Int)==0)=false:=by simpa using J
  have b2:decide ((L:Int)=0)=false:=by simpa using J
  rw[Ai J];cases Q with
  |error k=>
   rcases m with rfl|rfl|rfl|rfl
   all_goals
    go_enter Iw,GM;go_wp2_with (go_at_call 95;refine d.out.mono ?_;rintro e w' ⟨rfl,rfl⟩);refine G9 6 (by kernel_rfl) (by kernel_rfl) ?_;simp only[Au,AI,Av,AK]
    repeat (go_big_quiet_step ((go_at_call 99;exact xZ (H.out _))))
    refine It ?_;intro nq;go_wp2_with (go_at_call 102;refine(I.out c _).mono ?_;rintro e w' ⟨T,rfl⟩);go_ret;exact⟨((Ac.refl (λb=>B<=b) w).alloc S.out _).drewN nq|>.trans T,rfl⟩
  |ok r'=>
   rcases m with rfl|rfl|rfl|rfl
   all_goals
    go_enter Iw,GM;go_wp2_with (go_at_call 95;refine d.out.mono ?_;rintro e w' ⟨rfl,rfl⟩);refine G9 6 (by kernel_rfl) (by kernel_rfl) ?_;simp only[Au,AI,Av,AK]
    repeat (go_big_quiet_step ((go_at_call 99;exact xZ (H.out _))))
    refine It ?_;intro nq;go_wp2_with (go_at_call 102;refine(I.out c _).mono ?_;rintro e w' ⟨T,rfl,Y⟩;have HR:=Aa Y;clear Y);go_ret;exact⟨((Ac.refl (λb=>B<=b) w).alloc S.out _).drewN nq|>.trans T,rfl,HR.out⟩
end
section
variable {B:Nat}{ea:Nat->Addr}{w:World}{x:RV}{SA:Nat->Prop}{p:Ax}{key:Int}{A:Am}{v:VS}
theorem wU (h:Cr B w x SA p key A v) (n:Em p) (o:A.Ok):
  Calls prog 64 #[.pointer (some ⟨x.gr,0,none⟩),.agg #[.int .u8 7,.int .i64 0,.int .i64 0]] w (Qy B ea w x p key v (JM p key .bump ⟨A,v.r.s.vars,v.r.gone⟩)):=by
 have i:=h.grown ((Ac.refl _ w).alloc (Ab _) (.cells #[.int .u8 7,.int .i64 0,.int .i64 0] 172)) h.base;have j:=n.bI;have q:∀k,Calls prog 103 #[.pointer (some ⟨x.ga,0,none⟩),.int .u64 key,.int .i64 1,.int .i64 p.bI] ((w.alloc (.cells #[.int .u8 7,.int .i64 0,.int .i64 0] 172)).drewN k) λe w'=>
   e= .returned (.tuple #[])/\Ac (λb=>B<=b) ((w.alloc (.cells #[.int .u8 7,.int .i64 0,.int .i64 0] 172)).drewN k) w'/\∃a,Cr B w' x a p key (A.iC key 1 p.bI) v:=by
  intro k;have c:=i.grown (w':=(w.alloc (.cells #[.int .u8 7,.int .i64 0,.int .i64 0] 172)).drewN k) (zAr.drewN k) i.base;obtain⟨J,t,u,y,l⟩:=c.fy;refine(ak l o key 1 p.bI (by omega) (by omega)).mono ?_;rintro e w' ⟨rfl,d,m,f⟩;exact⟨rfl,c.fL d,_,c.dI d ⟨m,t,u,y,f⟩⟩
 obtain⟨z,C,c2,D,E,F,r1,K⟩:=zp8 (h.row.cell 0) (h.row.cell 1) (h.row.cell 2) (h.bS.cell 0) (h.ro.prog.cell 0) (h.ro.bQ.cell 1) h.row.lt h.bS.lt;have L:=h.ro.prog.lt;have M:=h.ro.bQ.lt;have N:¬x.gr=w.heap.size:=by omega
 have O:¬x.gs=w.heap.size:=by omega
 have P:¬x.gg=w.heap.size:=by omega
 have Q:¬x.gp=w.heap.size:=by omega
 obtain⟨G,H⟩:=zq2 q h.base;clear h i q n j o;simp at z C c2 D E F;go_enter Iw,GM;go_wp2_with fail;refine G9 15 (by kernel_rfl) (by kernel_rfl) ?_;simp only[Au,AI,Av,AK]
 repeat (go_big_quiet_step (fail))
 refine It ?_;intro nq;go_wp2_with (go_at_call 103;refine(G.out _).mono ?_;rintro e w' ⟨rfl,c,g⟩;have I:=Aa g;clear g);go_ret;obtain⟨a,g⟩:=I.out;exact⟨((Ac.refl (λb=>B<=b) w).alloc H.out _).drewN nq|>.trans c,rfl,a,x.iT,g⟩
theorem rO (h:Cr B w x SA p key A v) (h8:p.decls.length<=8) (L:v.r.s.vars.length=p.decls.length) {n by_:Int}(F:Ix p.decls.length n) (f:by_=1\/by_= -1) (h0:0<=v.r.s.var n) (h9:v.r.s.var n<=99) (hm:(Aq p.decls n).max<=99):
  Calls prog 64 #[.pointer (some ⟨x.gr,0,none⟩),.agg #[.int .u8 6,.int .i64 n,.int .i64 by_]] w
   (Qy B ea w x p key v (.ok ⟨A,v.r.s.vars.set n.toNat (DV (v.r.s.var n) by_ (Aq p.decls n).max),v.r.gone⟩)):=by
 have G:=h.grown ((Ac.refl _ w).alloc (Ab _) (.cells #[.int .u8 6,.int .i64 n,.int .i64 by_] 172)) h.base;obtain⟨m,rfl⟩:∃m:Nat,n=(m:Int):=⟨n.toNat,by unfold Ix at F;omega⟩;have P:m<p.decls.length:=by unfold Ix at F;omega
 have u:m<v.r.s.vars.length:=by omega
 obtain⟨N,cd,e1,Q,y,_,R⟩:=h.ro.decl F;rw[As]at R ⊢;obtain⟨g,S,e,z,C,H,T⟩:=h.vars.form (by omega);have hc:w.cell? ⟨g,m,none⟩=some (.int .i64 (v.r.s.var m)):=by have l:=h.vars;rw[e]at l;have U:=l.1.cellAt m (by simpa using u);refine U.trans ?_;unfold St.var;rw[As,At,Ae u];rfl
 have W:∀j,w.frozen? ⟨g,j,none⟩=false:=by intro j;have l:=h.vars;rw[e]at l;exact l.1.frozenAt j
 have o:∀k c,c=DV (v.r.s.var m) by_ (Aq p.decls m).max->Cr B (((w.alloc (.cells #[.int .u8 6,.int .i64 m,.int .i64 by_] 172)).drewN k).setCell ⟨g,m,none⟩ (.int .i64 c)) x SA p key A
   {v with r:=⟨⟨v.r.s.q,v.r.s.vars.set m (DV (v.r.s.var m) by_ (Aq p.decls m).max)⟩,v.r.gone⟩}:=by
  rintro k _ rfl;have a:=G.grown (w':=(w.alloc (.cells #[.int .u8 6,.int .i64 m,.int .i64 by_] 172)).drewN k) (zAr.drewN k) G.base;generalize DV (v.r.s.var m) by_ (Aq p.decls m).max=V;have X:=(a.vars).py JF (i:=m) e V;have t:Ac (λb=>b=g) ((w.alloc (.cells #[.int .u8 6,.int .i64 m,.int .i64 by_] 172)).drewN k) (((w.alloc (.cells #[.int .u8 6,.int .i64 m,.int .i64 by_] 172)).drewN k).setCell ⟨g,m,none⟩ (.int .i64 V)):=Ac.one _ ⟨g,m,none⟩ _;have d:x.mu.ownBlock=some g:=by rw[e];rfl
  obtain⟨Y,Z,vq,bm,I⟩:=a.ar;exact⟨a.ro.kept t (λb f=>f▸z),a.row.kept t (λe=>a.vars.bK a.row (by decide) (e▸d)),a.bS.kept t (λe=>a.vars.bK a.bS (by decide) (e▸d)),a.stack.kept t (λb f e=>a.a2 b f (e▸d)),a.loops.kept t (λb f e=>a.a3 b f (e▸d)),
   a.out.kept t (λb f e=>a.vars.fH a.out (by decide) b (e▸d) f),X,⟨Y,Z,vq,bm,I.kept t (λb f e=>a.s4 b (e▸d) f)⟩,a.iI,a.nJ,λb f=>⟨(a.sa b f).1,An (a.sa b f).2 t.size⟩,a.sr,a.ss,a.s1,a.s2,a.s3,a.s4,a.a1,a.a2,a.a3⟩
 have E:∀k V,Ac (λb=>B<=b) w (((w.alloc (.cells #[.int .u8 6,.int .i64 m,.int .i64 by_] 172)).drewN k).setCell ⟨g,m,none⟩ (.int .i64 V)):=λk V=>(((Ac.refl _ w).alloc h.base _).drewN k).setCell (p:=⟨g,m,none⟩) z _;obtain⟨c0,c1,J,s0,g0,O⟩:=zp6 (h.row.cell 0) (h.row.cell 1) (h.bS.cell 1) (h.bS.cell 0) (h.ro.prog.cell 0) (h.ro.bQ.cell 0);rw[e]at J;rw[e1]at O;obtain⟨r1,r2,r3,r4⟩:=zp4 h.row.lt h.bS.lt h.ro.prog.lt h.ro.bQ.lt;have r5:N<w.heap.size:=by have l:=h.ro.decls;rw[e1]at l;exact l.lt rfl
 have q1:¬x.gr=w.heap.size:=by omega
 have q2:¬x.gs=w.heap.size:=by omega
 have q3:¬x.gg=w.heap.size:=by omega
 have q4:¬x.gp=w.heap.size:=by omega
 have q5:¬N=w.heap.size:=by omega
 have q6:¬g=w.heap.size:=by omega
 obtain⟨HF,HK⟩:=zq2 o E;clear h G F e e1 o E;generalize v.r.s.var m=V at*;generalize (Aq p.decls m).max=M at*;rw[L]at J C;generalize p.decls.length=D at*;clear L u;unfold maxLen at y H;simp at c0 c1 s0 J g0 O;have K:V+by_<=100/\-1<=V+by_/\-1<=by_/\by_<=1:=by rcases f with rfl|rfl<;>omega
 obtain⟨b1,b2,b3,b4⟩:=K;have bR:=Aa f;have bT:IntKind.i64.wrap (V+by_)=V+by_:=CV _ (by omega);clear f;go_enter Iw,GM;go_wp2_with fail;refine G9 41 (by kernel_rfl) (by kernel_rfl) ?_;simp only[Au,AI,Av,AK]
 repeat (go_big_quiet_step (fail))
 refine It ?_;intro nq;go_wp2
 all_goals
  go_ret;exact⟨HK.out _ _,rfl,SA,x.iT,HF.out _ _ (by unfold DV;omega)⟩
end
section
variable {B:Nat}{ea:Nat->Addr}{w:World}{x:RV}{SA:Nat->Prop}{p:Ax}{key:Int}{A:Am}{v:VS}
structure Apx (B:Nat) (w:World) (x:RV) (SA:Nat->Prop) (p:Ax) (key:Int) (A:Am) (v:VS) (n:Int):Prop where
 run:Cr B (w.alloc (.cells #[.int .u64 n] 25)).drew x SA p key A v
 base:B<=((w.alloc (.cells #[.int .u64 n] 25)).drew).heap.size
 cells:∀j u,[Value.int .u64 n][j]?=some u->((w.alloc (.cells #[.int .u64 n] 25)).drew).cell? ((⟨w.heap.size,0,none⟩:Addr).add j)=some u
 one:∀u∈ [Value.int .u64 n],u.oneCell'=true
 gr:¬(x.iT.ownBlock=some x.gr\/((w.alloc (.cells #[.int .u64 n] 25)).drew).heap.size<=x.gr)
 done:∀(w2:World) (g2 cap2:Nat),Sl (λb=>B<=b) w2 25 1 (.slice (some ⟨g2,0,none⟩) (v.r.gone.length+1) cap2) (v.r.gone.length+1) (v.r.gone.map KE++[.int .u64 n])->
  Ac (λb=>x.iT.ownBlock=some b\/((w.alloc (.cells #[.int .u64 n] 25)).drew).heap.size<=b) ((w.alloc (.cells #[.int .u64 n] 25)).drew) w2->
  (x.iT.ownBlock=some g2\/g2=((w.alloc (.cells #[.int .u64 n] 25)).drew).heap.size)->
  Ac (λb=>B<=b) w (w2.setCell ⟨x.gr,6,none⟩ (.slice (some ⟨g2,0,none⟩) (v.r.gone.length+1) cap2))/\
  Cr B (w2.setCell ⟨x.gr,6,none⟩ (.slice (some ⟨g2,0,none⟩) (v.r.gone.length+1) cap2)) {x with iT:=.slice (some ⟨g2,0,none⟩) (v.r.gone.length+1) cap2} SA p key A {v with r:={v.r with gone:=v.r.gone++[n]}}
theorem Cr.qQ (h:Cr B w x SA p key A v) (n:Int):Apx B w x SA p key A v n:=by have d:=h.grown (w':=w.drew) zAr.drew h.base;have a:=d.nK n;refine⟨a.run,a.base,a.cells,a.one,a.gr,λi g2 c e f g=>?_⟩;have:=a.done e f g h.base;exact⟨((Ac.refl (λb=>B<=b) w).drew).trans this.1,this.2⟩
theorem wT (h:Cr B w x SA p key A v) (hp:p.decls.length<=8) (R:v.r.gone.length<Do) (N:Rf p A key):
  Calls prog 64 #[.pointer (some ⟨x.gr,0,none⟩),.agg #[.int .u8 5,.int .i64 0,.int .i64 0]] w (Qy B ea w x p key v (JM p key .drop ⟨A,v.r.s.vars,v.r.gone⟩)):=by
 have O:=h.grown ((Ac.refl _ w).alloc (Ab _) (.cells #[.int .u8 5,.int .i64 0,.int .i64 0] 172)) h.base;obtain⟨vl,vf,vq,P,i⟩:=O.ar;obtain⟨hw,t,c1,c2,c6⟩:=zp5 (PI i N.ok key) (Gf O hp N.wh) (h.row.cell 1) (h.row.cell 2) (h.row.cell 6);have f:=λj=>h.row.frozen j;obtain⟨s0,r1,r2⟩:=zp3 (h.bS.cell 0) h.row.lt h.bS.lt;have q1:¬x.gr=w.heap.size:=by omega
 have q2:¬x.gs=w.heap.size:=by omega
 have q3:¬x.gr=w.heap.size+1:=by omega
 obtain⟨i0,S,T,U,V⟩:=Bg Se;have q4:v.r.gone.length+1<=maxLen:=by unfold Do at R;unfold maxLen;omega
 have q5:(v.r.gone.length+1)*8<=140737488355328:=by unfold Do at R;omega
 obtain⟨u,W,m,HB,I⟩:=zq5 O hw t h.base N;clear h O i hw t N R;simp at c1 c2 c6 s0;cases J:AY p.decls (A.cz key)with
 |false=>
  have z:=m.out;rw[J]at z;obtain⟨Q,X⟩:=zq2 z J;obtain⟨vl,vf,vq,P,i⟩:=u.out.fy;have K:=PO i (Cr.up _ SA) I.out.ok (by have:=I.out.q8;omega) key I.out.un;have Y:=Aa K;clear z J i K;go_enter Iw,GM;go_wp2_with (first|(go_at_call 35;refine W.out.mono ?_;rintro e w' ⟨rfl,rfl⟩)|(go_at_call 100;refine Q.out.mono ?_;rintro e w' ⟨rfl,rfl⟩)|(go_at_call 43;refine Y.out.mono ?_;rintro e w' ⟨rfl,l,C,D,E,k⟩;have n:=u.out.dI l ⟨C,D,E,P,k⟩;have F:=Aa n;have G:=Aa (u.out.fL l);clear l k n));go_ret;have e:JM p key .drop ⟨A,v.r.s.vars,v.r.gone⟩= .ok ⟨A.out key,v.r.s.vars,v.r.gone⟩:=by simp[JM,X.out]
  rw[e];exact⟨((Ac.refl (λb=>B<=b) w).alloc HB.out _).trans G.out,rfl,_,x.iT,F.out⟩
 |true=>
  have z:=m.out;rw[J]at z;obtain⟨Q,X⟩:=zq2 z J;have H:=u.out.qQ key;obtain⟨gr,gg,gp,gs,ga,vd,cu,cw,lp,cy,cB,Z,cZ⟩:=x;obtain⟨av,cv,rfl⟩:∃a c,Z= .slice a v.r.gone.length c:=H.run.out.shape;have d2:(w.alloc (.cells #[.int .u8 5,.int .i64 0,.int .i64 0] 172)).cell? ⟨gr,2,none⟩=some (.int .u64 key):=u.out.row.cell 2;have d6:(w.alloc (.cells #[.int .u8 5,.int .i64 0,.int .i64 0] 172)).cell? ⟨gr,6,none⟩=some (.slice av v.r.gone.length cv):=u.out.row.cell 6;have df:∀j,(w.alloc (.cells #[.int .u8 5,.int .i64 0,.int .i64 0] 172)).frozen? ⟨gr,j,none⟩=false:=λj=>u.out.row.frozen j;have dl:gr<(w.alloc (.cells #[.int .u8 5,.int .i64 0,.int .i64 0] 172)).heap.size:=u.out.row.lt;have dk:=(Ac.refl (λb=>B<=b) w).alloc HB.out (.cells #[.int .u8 5,.int .i64 0,.int .i64 0] 172);obtain⟨g,be⟩:=zq2 H dk;clear z J H dk;simp only at*;go_enter Iw,GM;go_wp2_with (first|(go_at_call 35;refine W.out.mono ?_;rintro e w' ⟨rfl,rfl⟩)|(go_at_call 100;refine Q.out.mono ?_;rintro e w' ⟨rfl,rfl⟩));clear W Q m;generalize w.alloc (.cells #[.int .u8 5,.int .i64 0,.int .i64 0] 172)=w1 at*;have dn:¬gr=w1.heap.size:=by omega
  have b4:((w1.alloc (.cells #[.int .u64 key] 25)).drew).cell? ⟨gr,6,none⟩=some (.slice av v.r.gone.length cv):=g.out.run.row.cell 6;have fz:((w1.alloc (.cells #[.int .u64 key] 25)).drew).frozen? ⟨gr,6,none⟩=false:=g.out.run.row.frozen 6;obtain⟨B4,FZ⟩:=zq2 b4 fz;clear b4 fz
  go_region_law (first
   |(refine EL Ez S T U V rfl (by decide) g.out.run.out g.out.base rfl _ _ (by rfl) (by rfl) ⟨w1.heap.size,0,none⟩ 1 1 [.int .u64 key] (by rfl) (by rfl) g.out.cells g.out.one q4 q5 (by omega) ?_;intro g2 L w2 M q y;have e1:=(q.cell (p:=⟨gr,6,none⟩) g.out.gr).trans B4.out;have e2:=(q.frozen (p:=⟨gr,6,none⟩) g.out.gr).trans FZ.out;have bI:=Aa M;have bJ:=Aa q;have bK:=Aa y;clear M q y))
  all_goals
   have d:=g.out.done w2 g2 L bI.out bJ.out bK.out;obtain⟨x1,x2,y0⟩:=zp3 (d.2.row.cell 1) (d.2.row.cell 2) (d.2.bS.cell 0);obtain⟨vl,vf,vq,P,i⟩:=d.2.fy;have K:=PO i (Cr.up _ SA) I.out.ok (by have:=I.out.q8;omega) key I.out.un;obtain⟨Y,o⟩:=zq2 K d;clear i K d e1 e2;simp at x1 x2 y0;go_wp2_with (go_at_call 43;refine Y.out.mono ?_;rintro e w' ⟨rfl,l,C,D,E,k⟩;have n:=o.out.2.dI l ⟨C,D,E,P,k⟩;have F:=Aa n;have G:=Aa (o.out.2.fL l);clear l k n);go_ret;have e:JM p key .drop ⟨A,v.r.s.vars,v.r.gone⟩= .ok ⟨A.out key,v.r.s.vars,v.r.gone++[key]⟩:=by simp[JM,X.out]
   rw[e];exact⟨(be.out.trans o.out.1).trans G.out,rfl,_,_,F.out⟩
end
end Go.Proofs.YtodkkholbjeioaaGreatDoor.Ev
