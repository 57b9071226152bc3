/- Lemmas for a law's walk. Conditions: none. -/
import Derived.Test.YtodkkholbjeioaaGreatDoorZu01
set_option linter.all false
set_option maxRecDepth 100000
set_option maxHeartbeats 8000000
namespace Go.Proofs.YtodkkholbjeioaaGreatDoor.Ev
open _root_.Go.Proofs.Tryz
open Go Go.RowKit
def D8 (x:Node):List Value:=[.int .u64 x.key,.int .i64 x.bI,.int .i64 x.prev,.int .i64 x.next,.int .i64 x.q]
def EP (x:Qi):List Value:=[.int .i64 x.head,.int .i64 x.tail,.int .i64 x.n]
def L8 (n:Nat):Value:=.int .i64 n
def Ga (M:List (Int×Nat)):G5:=M.map λx=>(x.1,.int .i64 x.2)
def Sl (S:Nat->Prop) (w:World) (e:TypeId) (size:Nat) (v:Value) (n:Nat) (xs:List Value):Prop:=
 w.ownsRow 0 e size v n xs/\∀g,v.ownBlock=some g->S g
theorem Wj {α:Type}(f:α->List Value) (k:Nat) (a:∀x,(f x).length=k):∀(l:List α) (i j:Nat) (x:α),l[i]?=some x->j<k->(l.flatMap f)[i*k+j]?=(f x)[j]?
 | [],i,j,x,h,_=>by simp at h
 |y::l,0,j,x,h,b=>by
  simp only[AJ,Co]at h;subst h;rw[Fi,AX (by rw[a];omega)];simp
 |y::l,i+1,j,x,h,b=>by
  simp only[BM]at h;have e:(i+1)*k+j=k+(i*k+j):=by rw[GR];omega
  rw[Fi,e,BG (by rw[a];omega),a,B7];exact Wj f k a l i j x h b
section
variable {S:Nat->Prop}{w w':World}{e:TypeId}{size n:Nat}{v:Value}{xs:List Value}
theorem Sl.form (h:Sl S w e size v n xs) (k:0<n):∃g a,v= .slice (some ⟨g,0,none⟩) n a/\S g/\n<=a/\a<=maxLen/\g<w.heap.size:=by
 obtain⟨⟨_,c⟩,d⟩:=h;rcases c with⟨_,l⟩|⟨g,a,b,rfl,_,f,i,j,_⟩
 ·omega
 ·exact⟨g,a,rfl,d g rfl,i,j,AF.lt (cs:=b.toList) (by unfold AF;simpa using f)⟩
theorem Sl.kept (h:Sl S w e size v n xs) {S1:Nat->Prop}(d:Ac S1 w w') (f:∀g,v.ownBlock=some g->¬S1 g):Sl S w' e size v n xs:=by
 obtain⟨⟨i,a⟩,j⟩:=h;refine⟨⟨i,?_⟩,j⟩;rcases a with a|⟨g,b,c,rfl,k,l,m⟩
 ·exact .inl a
 ·exact .inr ⟨g,b,c,rfl,k,(d.block g (f g rfl)).trans l,m⟩
theorem Sl.mono (h:Sl S w e size v n xs) {S':Nat->Prop}(a:∀k,S k->S' k):Sl S' w e size v n xs:=⟨h.1,λg b=>a g (h.2 g b)⟩
theorem Sl.at_ {α:Type}{f:α->List Value}{l:List α}{g a:Nat}(h:Sl S w e size (.slice (some ⟨g,0,none⟩) l.length a) l.length (l.flatMap f)) (c:∀x,(f x).length=size)
  {i j:Nat} {x:α} (b:l[i]?=some x) (d:j<size):w.cell? ⟨g,i*size+j,none⟩=(f x)[j]?:=by
 have k:i<l.length:=(Aj.1 b).1;have m:i*size+j<l.length*size:=by have o:(i+1)*size<=l.length*size:=XC _ k;rw[GR]at o;omega
 exact(h.1.cellAt _ m).trans (Wj f size c l i j x b d)
theorem Sl.mg {g a m:Nat}(h:Sl S w e size (.slice (some ⟨g,0,none⟩) n a) m xs) (b:m=n) (j:Nat):w.frozen? ⟨g,j,none⟩=false:=by subst b;exact h.1.frozenAt j
theorem cD {α:Type}(f:α->List Value) (k:Nat) (a:∀x,(f x).length=k):∀(l:List α) (i j:Nat) (x x':α) (u:Value),l[i]?=some x->j<k->f x'=(f x).set j u->
  (l.flatMap f).set (i*k+j) u=(l.set i x').flatMap f
 | [],i,j,x,x',u,h,_,_=>by simp at h
 |y::l,0,j,x,x',u,h,c,b=>by
  simp only[AJ,Co]at h;subst h;simp only[Fi,Qe,b,Nat.zero_mul,DK];rw[List.set_append_left _ _ (by rw[a];omega)]
 |y::l,i+1,j,x,x',u,h,c,b=>by
  simp only[BM]at h;have e:(i+1)*k+j=k+(i*k+j):=by rw[GR];omega
  simp only[Fi,List.set_cons_succ];rw[e,Nk _ _ (by rw[a];omega),a,B7,cD f k a l i j x x' u h c b]
theorem Sl.bM {α:Type}{f:α->List Value}{l:List α}{g a:Nat}(h:Sl S w e size (.slice (some ⟨g,0,none⟩) l.length a) l.length (l.flatMap f)) (d:∀x,(f x).length=size)
  {i j:Nat} {x x':α} {u:Value} (b:l[i]?=some x) (k:j<size) (m:f x'=(f x).set j u):
  Sl S (w.setCell ⟨g,i*size+j,none⟩ u) e size (.slice (some ⟨g,0,none⟩) (l.set i x').length a) (l.set i x').length ((l.set i x').flatMap f):=by
 have o:i<l.length:=(Aj.1 b).1;have q:i*size+j<l.length*size:=by have p:(i+1)*size<=l.length*size:=XC _ o;rw[GR]at p;omega
 have c:=h.1.stored (i*size+j) u;rw[cD f size d l i j x x' u b k m]at c;rw[A9];exact⟨c.1,h.2⟩
end
section
variable {S S':Nat->Prop}{w w':World}{e e' t:TypeId}{size be n n':Nat}{v v':Value}{xs bJ cs:List Value}{g:Nat}
theorem Sl.row (h:Sl S w e size v n xs) (a:v.ownBlock=some g):∃cs,AF w g e cs:=by obtain⟨_,_,b,rfl,_,c,_⟩:=h.1.2.resolve_left (by rintro⟨d,_⟩;rw[d]at a;cases a);injection a with a;simp only at a;subst a;exact⟨b.toList,by unfold AF;simpa using c⟩
theorem Sl.bK (h:Sl S w e size v n xs) (b:AF w g t cs) (a:e≠t):v.ownBlock≠some g:=by intro c;obtain⟨d,f⟩:=h.row c;exact f.cZ b a rfl
theorem Sl.da (h:Sl S w e size v n xs) (b:Sl S' w e' be v' n' bJ) (a:e≠e') (c:v'.ownBlock=some g):v.ownBlock≠some g:=by obtain⟨d,f⟩:=b.row c;exact h.bK f a
theorem Sl.lt (h:Sl S w e size v n xs) (a:v.ownBlock=some g):g<w.heap.size:=by obtain⟨b,c⟩:=h.row a;exact c.lt
theorem Sl.fc (h:Sl S w e size v n xs) {k:IntKind}{M:G5}(a:BR w g k M):v.ownBlock≠some g:=by intro b;obtain⟨c,d⟩:=h.row b;exact a.bK d rfl
theorem Sl.of_heap (h:Sl S w e size v n xs) (a:w'.heap=w.heap):Sl S w' e size v n xs:=h.kept (S1:=λ_=>False) (w':={w with heap:=w'.heap}) ⟨rfl,rfl,rfl,by rw[a];exact Ab _,λk _=>by rw[a]⟩ (λ_ _ h=>h)
theorem Sl.alloc (h:Sl S w e size v n xs) (o:Obj):Sl S (w.alloc o) e size v n xs:=⟨h.1.alloc o,h.2⟩
end
structure BL (S:Nat->Prop) (w:World) (g:Nat) (A:Am) (vl vf vq:Value) (bm:Nat):Prop where
 row:AF w g 161 [vl,vf,vq,.map (some bm)]
 l:Sl S w 163 5 vl A.l.length (A.l.flatMap D8)
 f:Sl S w 3 1 vf A.free.length (A.free.map L8)
 q:Sl S w 185 3 vq A.qs.length (A.qs.flatMap EP)
 m:BR w bm .u64 (Ga A.at_)
 sg:S g
 sm:S bm
section
variable {S S':Nat->Prop}{w w':World}{g bm:Nat}{A:Am}{vl vf vq:Value}
theorem BL.kept (h:BL S w g A vl vf vq bm) {S1:Nat->Prop}(a:Ac S1 w w') (c:∀b,S b->¬S1 b):BL S w' g A vl vf vq bm:=
 ⟨h.row.kept a (c _ h.sg),h.l.kept a (λb d=>c b (h.l.2 b d)),h.f.kept a (λb d=>c b (h.f.2 b d)),h.q.kept a (λb d=>c b (h.q.2 b d)),h.m.kept a (c _ h.sm),h.sg,h.sm⟩
theorem BL.mono (h:BL S w g A vl vf vq bm) (a:∀b,S b->S' b):BL S' w g A vl vf vq bm:=
 ⟨h.row,h.l.mono a,h.f.mono a,h.q.mono a,h.m,a _ h.sg,a _ h.sm⟩
theorem BL.of_heap (h:BL S w g A vl vf vq bm) (a:w'.heap=w.heap):BL S w' g A vl vf vq bm:=by refine⟨?_,h.l.of_heap a,h.f.of_heap a,h.q.of_heap a,h.m.fU (by rw[a]),h.sg,h.sm⟩;have:=h.row;unfold AF at this ⊢;rw[a];exact this
theorem BL.alloc (h:BL S w g A vl vf vq bm) (o:Obj):BL S (w.alloc o) g A vl vf vq bm:=
 ⟨h.row.alloc o,h.l.alloc o,h.f.alloc o,h.q.alloc o,h.m.fU (FU w o bm h.m.lt),h.sg,h.sm⟩
theorem BL.drew (h:BL S w g A vl vf vq bm):BL S w.drew g A vl vf vq bm:=h.of_heap rfl
theorem BL.drewN (h:BL S w g A vl vf vq bm) (n:Nat):BL S (w.drewN n) g A vl vf vq bm:=h.of_heap rfl
theorem Am.dQ {n:Nat}(h:n<A.l.length):A.l[n]?=some (A.node n):=by unfold Am.node;rw[Ae h];rfl
theorem Am.dX {n:Nat}(h:n<A.qs.length):A.qs[n]?=some (A.ends n):=by unfold Am.ends;rw[Ae h];rfl
theorem BL.setNode {a k:Nat}(h:BL S w g A (.slice (some ⟨a,0,none⟩) A.l.length k) vf vq bm) {n:Nat}{x':Node}(j:Nat) {u:Value}(o:n<A.l.length) (p:j<5)
  (r:D8 x'=(D8 (A.node n)).set j u):
  BL S (w.setCell ⟨a,n*5+j,none⟩ u) g (A.setNode n x') (.slice (some ⟨a,0,none⟩) (A.setNode n x').l.length k) vf vq bm:=by
 have c:Ac (λb=>b=a) w (w.setCell ⟨a,n*5+j,none⟩ u):=Ac.one w ⟨a,n*5+j,none⟩ u;have e:(A.setNode n x').l.length=A.l.length:=A9 ..;obtain⟨cs,d⟩:=h.l.row rfl;exact⟨by rw[e];exact h.row.kept c (h.row.cZ d (by decide)),h.l.bM (λ_=>rfl) (Am.dQ o) p r,h.f.kept c (λb i e=>h.f.bK d (by decide) (e▸i)),
  h.q.kept c (λb i e=>h.q.bK d (by decide) (e▸i)),h.m.kept c (λe=>h.m.bK d e),h.sg,h.sm⟩
theorem BL.bL {a k:Nat}(h:BL S w g A vl vf (.slice (some ⟨a,0,none⟩) A.qs.length k) bm) {n:Nat}{x':Qi}(j:Nat) {u:Value}(o:n<A.qs.length) (p:j<3)
  (r:EP x'=(EP (A.ends n)).set j u):
  BL S (w.setCell ⟨a,n*3+j,none⟩ u) g (A.bL n x') vl vf (.slice (some ⟨a,0,none⟩) (A.bL n x').qs.length k) bm:=by
 have c:Ac (λb=>b=a) w (w.setCell ⟨a,n*3+j,none⟩ u):=Ac.one w ⟨a,n*3+j,none⟩ u;have e:(A.bL n x').qs.length=A.qs.length:=A9 ..;obtain⟨cs,d⟩:=h.q.row rfl;exact⟨by rw[e];exact h.row.kept c (h.row.cZ d (by decide)),h.l.kept c (λb i e=>h.l.bK d (by decide) (e▸i)),h.f.kept c (λb i e=>h.f.bK d (by decide) (e▸i)),
  h.q.bM (λ_=>rfl) (Am.dX o) p r,h.m.kept c (λe=>h.m.bK d e),h.sg,h.sm⟩
theorem BL.apart {a k b m:Nat}(h:BL S w g A (.slice (some ⟨a,0,none⟩) A.l.length k) vf (.slice (some ⟨b,0,none⟩) A.qs.length m) bm):
  (¬a=g/\¬g=a)/\(¬b=g/\¬g=b)/\(¬a=b/\¬b=a):=by
 obtain⟨cs,d⟩:=h.l.row rfl;obtain⟨o,c⟩:=h.q.row rfl;have f:=d.cZ h.row (by decide);have i:=c.cZ h.row (by decide);have j:=d.cZ c (by decide);exact⟨⟨f,λe=>f e.symm⟩,⟨i,λe=>i e.symm⟩,⟨j,λe=>j e.symm⟩⟩
theorem BL.dG {a b:Nat}(h:BL S w g A (.slice (some ⟨a,0,none⟩) A.l.length b) vf vq bm) {n:Nat}(d:n<A.l.length):
  w.cell? ⟨a,n*5,none⟩=some (.int .u64 (A.node n).key)/\w.cell? ⟨a,n*5+1,none⟩=some (.int .i64 (A.node n).bI)/\w.cell? ⟨a,n*5+2,none⟩=some (.int .i64 (A.node n).prev)/\
  w.cell? ⟨a,n*5+3,none⟩=some (.int .i64 (A.node n).next)/\w.cell? ⟨a,n*5+4,none⟩=some (.int .i64 (A.node n).q):=by
 have c:=λj i=>h.l.at_ (f:=D8) (λ_=>rfl) (Am.dQ d) (j:=j) i;exact⟨c 0 (by omega),c 1 (by omega),c 2 (by omega),c 3 (by omega),c 4 (by omega)⟩
theorem BL.gH {a b:Nat}(h:BL S w g A vl vf (.slice (some ⟨a,0,none⟩) A.qs.length b) bm) {n:Nat}(d:n<A.qs.length):
  w.cell? ⟨a,n*3,none⟩=some (.int .i64 (A.ends n).head)/\w.cell? ⟨a,n*3+1,none⟩=some (.int .i64 (A.ends n).tail)/\w.cell? ⟨a,n*3+2,none⟩=some (.int .i64 (A.ends n).n):=by
 have c:=λj i=>h.q.at_ (f:=EP) (λ_=>rfl) (Am.dX d) (j:=j) i;exact⟨c 0 (by omega),c 1 (by omega),c 2 (by omega)⟩
end
theorem QK (M:List (Int×Nat)) (key:Int):FX (Ga M) key=((M.find? (λy=>y.1==key)).map (·.2)).map λ(n:Nat)=>(Value.int .i64 n):=by
 unfold FX Ga
 induction M with
 |nil=>rfl
 |cons y M b=>
  by_cases a:y.1==key
  ·simp[La,a]
  ·simp only[TV]at a;simp only[BS,La,a];exact b
theorem uy (w:World):(zeroValue 3).run prog w= .ok (.int .i64 0) w:=by kernel_rfl
section
variable {S:Nat->Prop}{w:World}{g bm:Nat}{A:Am}{vl vf vq:Value}
theorem BL.look (h:BL S w g A vl vf vq bm) (key:Int) (c:Bool):(Instr.lookup 159 (.map (some bm)) (.int .u64 key) c).run prog w=
  .ok (if c then .tuple #[.int .i64 ((A.idx key).getD 0:Nat),.bool (A.idx key).isSome]else .int .i64 ((A.idx key).getD 0:Nat)) w:=by
 have a:=h.m.lookup (P:=prog) Lx Jl uy key c;rw[a,QK];unfold Am.idx;cases (A.at_.find? (λy=>y.1==key)).map (·.2)<;>simp
theorem PI (h:BL S w g A vl vf vq bm) (d:A.Ok) (key:Int):
  Calls prog 35 #[.pointer (some ⟨g,0,none⟩),.int .u64 key] w λe w'=>e= .returned (.int .i64 (A.cz key))/\w=w':=by
 have i:=h.row.cell 0;have c3:=h.row.cell 3;have c:=h.look key true;obtain⟨s,t,rfl,_,k,m,_⟩:=h.l.form d.l1;cases a:A.idx key with
 |none=>
  rw[a]at c;have b:A.cz key= -1:=by unfold Am.cz;rw[a]
  rw[b];clear a b;simp at i c3 c;go_enter func35,ntmps35;go_wp2;go_ret;exact⟨rfl,rfl⟩
 |some n=>
  rw[a]at c;have o:=(d.at_ key n a).1;have b:A.cz key=(A.node n).q:=by unfold Am.cz;rw[a]
  rw[b];have p:=d.l2;have r:=h.l.at_ (f:=D8) (λ_=>rfl) (Am.dQ o) (j:=4) (by omega);simp[D8]at r;generalize (A.node n).q=q at*;clear a b;simp at i c3 c;go_enter func35,ntmps35;go_wp2;go_ret;exact⟨rfl,rfl⟩
theorem cC (h:BL S w g A vl vf vq bm) (d:A.Ok) (key:Int):
  Calls prog 96 #[.pointer (some ⟨g,0,none⟩),.int .u64 key] w λe w'=>e= .returned (.int .i64 (A.dW key))/\w=w':=by
 have i:=h.row.cell 0;have c3:=h.row.cell 3;have c:=h.look key true;obtain⟨s,t,rfl,_,k,m,_⟩:=h.l.form d.l1;cases a:A.idx key with
 |none=>
  rw[a]at c;have b:A.dW key=0:=by unfold Am.dW;rw[a]
  rw[b];clear a b;simp at i c3 c;go_enter func96,ntmps96;go_wp2;go_ret;exact⟨rfl,rfl⟩
 |some n=>
  rw[a]at c;have o:=(d.at_ key n a).1;have b:A.dW key=(A.node n).bI:=by unfold Am.dW;rw[a]
  rw[b];have p:=d.l2;have r:=h.l.at_ (f:=D8) (λ_=>rfl) (Am.dQ o) (j:=1) (by omega);simp[D8]at r;generalize (A.node n).bI=q at*;clear a b;simp at i c3 c;go_enter func96,ntmps96;go_wp2;go_ret;exact⟨rfl,rfl⟩
theorem Sb (h:BL S w g A vl vf vq bm) (k:A.Ok) (q:Nat) (a:q<A.qs.length) (b:A.qs.length<=1000):
  Calls prog 95 #[.pointer (some ⟨g,0,none⟩),.int .i64 q] w λe w'=>e= .returned (.int .i64 (A.len q))/\w=w':=by
 have c2:=h.row.cell 2;obtain⟨l,m,rfl,_,c,d,_⟩:=h.q.form (by omega);have i:=h.q.at_ (f:=EP) (λ_=>rfl) (Am.dX a) (j:=2) (by omega);simp[EP]at i;unfold Am.len;generalize (A.ends q).n=n at*;simp at c2;go_enter func95,ntmps95;go_wp2;go_ret;exact⟨rfl,rfl⟩
theorem ax (h:BL S w g A vl vf vq bm) (a:A.Ok) (q:Nat) (b:q<A.qs.length) (c:A.qs.length<=1000):
  Calls prog 99 #[.pointer (some ⟨g,0,none⟩),.int .i64 q] w λe w'=>e= .returned (.int .u64 (A.tail q))/\∃n,w'=w.drewN n:=by
 have d:=h.row.cell 0;have c2:=h.row.cell 2;obtain⟨v,x,rfl,_,i,m,_⟩:=h.l.form a.l1;obtain⟨y,z,rfl,_,o,p,_⟩:=h.q.form (by omega);have r:=(a.ends q _ (Am.dX b)).2.1;have s:=a.l2;have t:=h.q.at_ (f:=EP) (λ_=>rfl) (Am.dX b) (j:=1) (by omega);have u:=h.l.at_ (f:=D8) (λ_=>rfl) (Am.dQ r) (j:=0) (by omega);simp[EP]at t;simp[D8]at u;unfold Am.tail;generalize (A.ends q).tail=n at*;generalize (A.node n).key=k at*;simp at d c2;go_enter func99,ntmps99;go_wp2;go_quiet (fail);go_wp2;go_ret;exact⟨rfl,_,rfl⟩
end
section
variable {S:Nat->Prop}{w:World}{g bm:Nat}{A:Am}{vl vf vq:Value}
theorem ak (h:BL S w g A vl vf vq bm) (i:A.Ok) (key by_ a:Int) (D: -1<=by_/\by_<=1) (E:0<=a/\a<=1000):
  Calls prog 103 #[.pointer (some ⟨g,0,none⟩),.int .u64 key,.int .i64 by_,.int .i64 a] w λe w'=>e= .returned (.tuple #[])/\Ac S w w'/\∃vl,BL S w' g (A.iC key by_ a) vl vf vq bm:=by
 have r:=h.row.cell 0;have c3:=h.row.cell 3;have k:=h.look key true;obtain⟨s,u,rfl,o,v,x,_⟩:=h.l.form i.l1;cases d:A.idx key with
 |none=>
  rw[d]at k;have m:A.iC key by_ a=A:=by unfold Am.iC;rw[d]
  rw[m];clear d m;simp at r c3 k;go_enter func103,ntmps103;go_wp2;go_end0;exact⟨rfl,Ac.refl _ _,_,h⟩
 |some n=>
  rw[d]at k;have p:=(i.at_ key n d).1;have y:=i.l2;have t:=i.node n _ (Am.dQ p);have F:=t.2.2.2;have z:=h.l.at_ (f:=D8) (λ_=>rfl) (Am.dQ p) (j:=1) (by omega);have G:=h.l.mg rfl (n*5+1);have b:∀c,c=DV (A.node n).bI by_ a->BL S (w.setCell ⟨s,n*5+1,none⟩ (.int .i64 c)) g (A.iC key by_ a) (.slice (some ⟨s,0,none⟩) (A.iC key by_ a).l.length u) vf vq bm:=by
   rintro c rfl;have m:A.iC key by_ a=A.setNode n {(A.node n)with bI:=DV (A.node n).bI by_ a}:=by unfold Am.iC;rw[d]
   rw[m];exact h.setNode 1 p (by omega) rfl
  generalize A.iC key by_ a=H at*;simp[D8]at z;unfold DV at b;generalize (A.node n).bI=q at*;clear d t;have B:IntKind.i64.wrap (q+by_)=q+by_:=CV _ (by omega);simp at r c3 k;go_enter func103,ntmps103;go_wp2;have C:=Aa b;clear b
  go_still_tail 20,(by kernel_rfl)
  go_wp2
  all_goals
   go_end0;refine⟨rfl,(zAr.setCell o _).drew,_,BL.drew (C.out _ (by omega))⟩
theorem Zs {n:Nat}(h:n≠0):((n:Int)==0)=false:=by simp[h]
theorem RD {a:Int}{q:Nat}(h:a=(q:Int)):a.toNat=q:=by omega
theorem BL.bT {a e b f:Nat}(h:BL S w g A (.slice (some ⟨a,0,none⟩) A.l.length e) vf (.slice (some ⟨b,0,none⟩) A.qs.length f) bm) {x:Node}{q:Nat}(j:x.q=(q:Int)) (c:q<A.qs.length) (d:x.prev<A.l.length):
  BL S (w.setCell (if x.prev=0 then⟨b,q*3,none⟩else⟨a,x.prev*5+3,none⟩) (.int .i64 x.next)) g (A.bT x) (.slice (some ⟨a,0,none⟩) (A.bT x).l.length e) vf (.slice (some ⟨b,0,none⟩) (A.bT x).qs.length f) bm:=by
 unfold Am.bT;by_cases i:x.prev=0
 ·simp only[i,A7];rw[RD j];exact h.bL 0 c (by omega) rfl
 ·simp only[Ai i];exact h.setNode 3 d (by omega) rfl
theorem BL.bU {a e b f:Nat}(h:BL S w g A (.slice (some ⟨a,0,none⟩) A.l.length e) vf (.slice (some ⟨b,0,none⟩) A.qs.length f) bm) {x:Node}{q:Nat}(j:x.q=(q:Int)) (c:q<A.qs.length) (d:x.next<A.l.length):
  BL S (w.setCell (if x.next=0 then⟨b,q*3+1,none⟩else⟨a,x.next*5+2,none⟩) (.int .i64 x.prev)) g (A.bU x) (.slice (some ⟨a,0,none⟩) (A.bU x).l.length e) vf (.slice (some ⟨b,0,none⟩) (A.bU x).qs.length f) bm:=by
 unfold Am.bU;by_cases i:x.next=0
 ·simp only[i,A7];rw[RD j];exact h.bL 1 c (by omega) rfl
 ·simp only[Ai i];exact h.setNode 2 d (by omega) rfl
theorem BL.dR {c d a e:Nat}(h:BL S w g A (.slice (some ⟨c,0,none⟩) A.l.length d) vf (.slice (some ⟨a,0,none⟩) A.qs.length e) bm) {x:Node}{q:Nat}(f:x.q=(q:Int)) (b:q<A.qs.length):
  BL S (w.setCell ⟨a,q*3+2,none⟩ (.int .i64 ((A.ends q).n-1:Nat))) g (A.dR x) (.slice (some ⟨c,0,none⟩) (A.dR x).l.length d) vf (.slice (some ⟨a,0,none⟩) (A.dR x).qs.length e) bm:=by
 unfold Am.dR;rw[RD f];exact h.bL 2 b (by omega) rfl
theorem Ks (x:Node):(A.bT x).l.length=A.l.length/\(A.bT x).qs.length=A.qs.length:=by unfold Am.bT;split<;>simp[Am.bL,Am.setNode]
theorem OZ (x:Node):(A.bU x).l.length=A.l.length/\(A.bU x).qs.length=A.qs.length:=by unfold Am.bU;split<;>simp[Am.bL,Am.setNode]
theorem ez (x:Node) (q:Nat) (b:x.q=(q:Int)) (a:q<A.qs.length):(((A.bT x).bU x).ends q).n=(A.ends q).n:=by unfold Am.bU Am.bT;split<;>split<;>simp[Am.bL,Am.setNode,Am.ends,RD b,a]
theorem ey (h:BL S w g A vl vf vq bm) (E:Up S w) (s:A.Ok) (n q:Nat) (F:A.fF n q) (t:A.qs.length<=1000000):
  Calls prog 68 #[.pointer (some ⟨g,0,none⟩),.int .i64 n] w λe w'=>e= .returned (.tuple #[])/\Ac S w w'/\∃vl vq,BL S w' g (A.unlink n) vl vf vq bm:=by
 have G:=h.row.cell 0;have c2:=h.row.cell 2;obtain⟨p,H,rfl,I,J,K,x⟩:=h.l.form s.l1;obtain⟨y,c,L,b⟩:=F;have r:=s.node n _ (Am.dQ y);have M:A.qs.length<=1000000:=t;obtain⟨o,N,rfl,O,P,Q,z⟩:=h.q.form (by omega);obtain⟨n0,n1,n2,n3,R⟩:=h.dG y;obtain⟨e0,e1,e2⟩:=h.gH b;obtain⟨_,_,x2,_,_⟩:=h.dG r.2.1;obtain⟨_,_,_,y3,_⟩:=h.dG r.1;have fq:=λj=>h.q.mg rfl j;have fl:=λj=>h.l.mg rfl j;obtain⟨T,U,V⟩:=zp3 s.l2 h.row.lt ((s.ends q _ (Am.dX b)).2.2);have X:S w.heap.size:=E _ (Ab _);obtain⟨⟨a1,a2⟩,⟨a3,a4⟩,⟨a5,a6⟩⟩:=h.apart;have a7:¬p=w.heap.size:=by omega
 have a8:¬w.heap.size=p:=by omega
 have a9:¬o=w.heap.size:=by omega
 have Y:¬w.heap.size=o:=by omega
 have a:∀W:World,W.heap=((((w.alloc (Obj.cells #[.int .u64 (A.node n).key,.int .i64 (A.node n).bI,.int .i64 (A.node n).prev,.int .i64 (A.node n).next,.int .i64 q] 163)).setCell
   (if(A.node n).prev=0 then⟨o,q*3,none⟩else⟨p,(A.node n).prev*5+3,none⟩) (.int .i64 (A.node n).next)).setCell
   (if(A.node n).next=0 then⟨o,q*3+1,none⟩else⟨p,(A.node n).next*5+2,none⟩) (.int .i64 (A.node n).prev)).setCell ⟨o,q*3+2,none⟩ (.int .i64 ((A.ends q).n-1:Nat))).heap->
   BL S W g (A.unlink n) (.slice (some ⟨p,0,none⟩) (A.unlink n).l.length H) vf (.slice (some ⟨o,0,none⟩) (A.unlink n).qs.length N) bm:=by
  intro W Z;have s1:=(h.alloc (Obj.cells #[.int .u64 (A.node n).key,.int .i64 (A.node n).bI,.int .i64 (A.node n).prev,.int .i64 (A.node n).next,.int .i64 q] 163)).bT c b r.1;have s2:=s1.bU c (by rw[(Ks _).2];exact b) (by rw[(Ks _).1];exact r.2.1);have C:=s2.dR c (by rw[(OZ _).2,(Ks _).2];exact b);rw[ez _ _ c b]at C;exact C.of_heap Z
 generalize A.unlink n=A' at*;rw[c]at R;simp at G c2;generalize (A.node (A.node n).next).prev=bK at*;generalize (A.node (A.node n).prev).next=bL at*;generalize (A.node n).key=key at*;generalize (A.node n).bI=B at*;generalize (A.node n).prev=pv at*;generalize (A.node n).next=D at*;generalize (A.ends q).head=hd at*;generalize (A.ends q).tail=tl at*;generalize (A.ends q).n=m at*;obtain⟨m,rfl⟩:∃k,m=k+1:=⟨m-1,by omega⟩;obtain⟨bN,bO,_⟩:=r;clear c L;by_cases f:pv=0
 ·by_cases d:D=0
  ·subst f;subst d;simp only[A7]at a;have i:=Aa a;clear a;go_enter nY,gY;go_wp2;go_quiet (fail);go_wp2;go_end0;refine⟨rfl,?_,_,_,i.out _ (by(try simp only[C4,Gb,Dy,Hn,Da,C8]);(try simp only[GG,EW,CM]);try with_reducible rfl)⟩
   repeat' first|with_reducible exact Ac.refl _ _|with_reducible refine Ac.drewN ?_ _|with_reducible refine Ac.drew ?_|with_reducible refine Ac.setCell ?_ (by assumption) _|with_reducible refine Ac.alloc ?_ (by assumption) _
  ·subst f;simp only[A7,Ai d]at a;have i:=Aa a;clear a;have u:=Zs d;have Hx:=Aa d;clear d;go_enter nY,gY;go_wp2;go_quiet (fail);go_wp2
   (refine Du 10 (by kernel_rfl) (by kernel_rfl) ?_;simp only[Au,AI,Av,AK];repeat still_step);refine BT ?_
   go_wp2;go_end0;refine⟨rfl,?_,_,_,i.out _ (by(try simp only[C4,Gb,Dy,Hn,Da,C8]);(try simp only[GG,EW,CM]);try with_reducible rfl)⟩
   repeat' first|with_reducible exact Ac.refl _ _|with_reducible refine Ac.drewN ?_ _|with_reducible refine Ac.drew ?_|with_reducible refine Ac.setCell ?_ (by assumption) _|with_reducible refine Ac.alloc ?_ (by assumption) _
 ·by_cases d:D=0
  ·subst d;simp only[A7,Ai f]at a;have i:=Aa a;clear a;have v:=Zs f;have Hp:=Aa f;clear f;go_enter nY,gY;go_wp2;go_quiet (fail);go_wp2
   (refine Du 10 (by kernel_rfl) (by kernel_rfl) ?_;simp only[Au,AI,Av,AK];repeat still_step);refine BT ?_
   go_wp2;go_end0;refine⟨rfl,?_,_,_,i.out _ (by(try simp only[C4,Gb,Dy,Hn,Da,C8]);(try simp only[GG,EW,CM]);try with_reducible rfl)⟩
   repeat' first|with_reducible exact Ac.refl _ _|with_reducible refine Ac.drewN ?_ _|with_reducible refine Ac.drew ?_|with_reducible refine Ac.setCell ?_ (by assumption) _|with_reducible refine Ac.alloc ?_ (by assumption) _
  ·simp only[Ai f,Ai d]at a;have i:=Aa a;clear a;have v:=Zs f;have Hp:=Aa f;clear f;have u:=Zs d;have Hx:=Aa d;clear d;go_enter nY,gY;go_wp2;go_quiet (fail);go_wp2
   (refine Du 10 (by kernel_rfl) (by kernel_rfl) ?_;simp only[Au,AI,Av,AK];repeat still_step);refine BT ?_
   go_wp2
   (refine Du 10 (by kernel_rfl) (by kernel_rfl) ?_;simp only[Au,AI,Av,AK];repeat still_step);refine BT ?_
   go_wp2;go_end0;refine⟨rfl,?_,_,_,i.out _ (by(try simp only[C4,Gb,Dy,Hn,Da,C8]);(try simp only[GG,EW,CM]);try with_reducible rfl)⟩
   repeat' first|with_reducible exact Ac.refl _ _|with_reducible refine Ac.drewN ?_ _|with_reducible refine Ac.drew ?_|with_reducible refine Ac.setCell ?_ (by assumption) _|with_reducible refine Ac.alloc ?_ (by assumption) _
end
section
variable {S:Nat->Prop}{w:World}{g bm:Nat}{A:Am}{vl vf vq:Value}
theorem ER (n:Nat) (a b:Node):(A.setNode n a).setNode n b=A.setNode n b:=by simp[Am.setNode,List.set_set]
theorem EN {n:Nat}(a:n<A.l.length) (x:Node):(A.setNode n x).node n=x:=by simp[Am.setNode,Am.node,a]
theorem Cg (n:Nat) (x:Node):(A.setNode n x).l.length=A.l.length/\(A.setNode n x).qs.length=A.qs.length:=by simp[Am.setNode]
theorem SE (n:Nat) (x:Node) (q:Nat):(A.setNode n x).ends q=A.ends q:=rfl
theorem BL.dL {a e b f:Nat}(h:BL S w g A (.slice (some ⟨a,0,none⟩) A.l.length e) vf (.slice (some ⟨b,0,none⟩) A.qs.length f) bm) (n:Nat) {x:Node}{q:Nat}(c:q<A.qs.length) (d:x.prev<A.l.length):
  BL S (w.setCell (if x.prev=0 then⟨b,q*3,none⟩else⟨a,x.prev*5+3,none⟩) (.int .i64 n)) g (A.dL n q x) (.slice (some ⟨a,0,none⟩) (A.dL n q x).l.length e) vf (.slice (some ⟨b,0,none⟩) (A.dL n q x).qs.length f) bm:=by
 unfold Am.dL;by_cases i:x.prev=0
 ·simp only[i,A7];exact h.bL 0 c (by omega) rfl
 ·simp only[Ai i];exact h.setNode 3 d (by omega) rfl
theorem BL.link2 {a e b f:Nat}(h:BL S w g A (.slice (some ⟨a,0,none⟩) A.l.length e) vf (.slice (some ⟨b,0,none⟩) A.qs.length f) bm) (n:Nat) {x:Node}{q:Nat}(c:q<A.qs.length) (d:x.next<A.l.length):
  BL S (w.setCell (if x.next=0 then⟨b,q*3+1,none⟩else⟨a,x.next*5+2,none⟩) (.int .i64 n)) g (A.link2 n q x) (.slice (some ⟨a,0,none⟩) (A.link2 n q x).l.length e) vf (.slice (some ⟨b,0,none⟩) (A.link2 n q x).qs.length f) bm:=by
 unfold Am.link2;by_cases i:x.next=0
 ·simp only[i,A7];exact h.bL 1 c (by omega) rfl
 ·simp only[Ai i];exact h.setNode 2 d (by omega) rfl
theorem BL.iG {c d a e:Nat}(h:BL S w g A (.slice (some ⟨c,0,none⟩) A.l.length d) vf (.slice (some ⟨a,0,none⟩) A.qs.length e) bm) {q:Nat}(b:q<A.qs.length):
  BL S (w.setCell ⟨a,q*3+2,none⟩ (.int .i64 ((A.ends q).n+1:Nat))) g (A.iG q) (.slice (some ⟨c,0,none⟩) (A.iG q).l.length d) vf (.slice (some ⟨a,0,none⟩) (A.iG q).qs.length e) bm:=by
 unfold Am.iG;exact h.bL 2 b (by omega) rfl
theorem Tu (n q:Nat) (x:Node):(A.dL n q x).l.length=A.l.length/\(A.dL n q x).qs.length=A.qs.length:=by unfold Am.dL;split<;>simp[Am.bL,Am.setNode]
theorem lw (n q:Nat) (x:Node):(A.link2 n q x).l.length=A.l.length/\(A.link2 n q x).qs.length=A.qs.length:=by unfold Am.link2;split<;>simp[Am.bL,Am.setNode]
theorem pP (n:Nat) (x:Node) (q:Nat) (a:q<A.qs.length):(((A.dL n q x).link2 n q x).ends q).n=(A.ends q).n:=by unfold Am.link2 Am.dL;split<;>split<;>simp[Am.bL,Am.setNode,Am.ends,a]
theorem BL.mh {c d b e:Nat}{n q:Nat}{a:Bool}(h:BL S w g (A.setNode n (AW A n q a)) (.slice (some ⟨c,0,none⟩) A.l.length d) vf (.slice (some ⟨b,0,none⟩) A.qs.length e) bm)
  (s:n<A.l.length) (j:q<A.qs.length) (k:(AW A n q a).prev<A.l.length) (m:(AW A n q a).next<A.l.length) {W:World}
  (f:W.heap=(((w.setCell (if(AW A n q a).prev=0 then⟨b,q*3,none⟩else⟨c,(AW A n q a).prev*5+3,none⟩) (.int .i64 n)).setCell
   (if(AW A n q a).next=0 then⟨b,q*3+1,none⟩else⟨c,(AW A n q a).next*5+2,none⟩) (.int .i64 n)).setCell ⟨b,q*3+2,none⟩ (.int .i64 ((A.ends q).n+1:Nat))).heap):
  BL S W g (A.link n q a) (.slice (some ⟨c,0,none⟩) (A.link n q a).l.length d) vf (.slice (some ⟨b,0,none⟩) (A.link n q a).qs.length e) bm:=by
 unfold Am.link;rw[←(Cg (A:=A) n (AW A n q a)).1,←(Cg (A:=A) n (AW A n q a)).2]at h;have e1:=(Cg (A:=A) n (AW A n q a)).1;have t:=(Cg (A:=A) n (AW A n q a)).2;have o:=SE (A:=A) n (AW A n q a) q;generalize AW A n q a=x at*;generalize A.setNode n x=B at*;rw[←o]at f;have p:=h.dL n (x:=x) (q:=q) (by omega) (by omega);have r:=p.link2 n (x:=x) (q:=q) (by rw[(Tu _ _ _).2];omega) (by rw[(Tu _ _ _).1];omega);have i:=r.iG (q:=q) (by rw[(lw _ _ _).2,(Tu _ _ _).2];omega);rw[pP _ _ _ (by omega)]at i;exact i.of_heap f
theorem pO (h:BL S w g A vl vf vq bm) (H:A.Ok) (n q:Nat) (a:Bool) (d:n<A.l.length) (t:n≠0) (c:q<A.qs.length) (bT:A.qs.length<=1000000) (Y:(A.ends q).head≠n) (Z:(A.ends q).tail≠n):
  Calls prog 127 #[.pointer (some ⟨g,0,none⟩),.int .i64 n,.int .i64 q,.bool a] w λe w'=>e= .returned (.tuple #[])/\Ac S w w'/\∃vl vq,BL S w' g (A.link n q a) vl vf vq bm:=by
 have E:=h.row.cell 0;have c2:=h.row.cell 2;obtain⟨F,cl,rfl,bU,bV,bW,v⟩:=h.l.form H.l1;obtain⟨y,cq,rfl,bX,bY,bZ,z⟩:=h.q.form (by omega);obtain⟨I,n1,J,n3,K⟩:=h.dG d;obtain⟨L,e1,M⟩:=h.gH c;obtain⟨N,O,ci⟩:=H.ends q _ (Am.dX c);have fq:=λj=>h.q.mg rfl j;have fl:=λj=>h.l.mg rfl j;have cj:=H.l2;obtain⟨⟨a1,a2⟩,⟨a3,a4⟩,⟨a5,a6⟩⟩:=h.apart;have s1:=h.setNode (x':={(A.node n)with q:=(q:Int)}) 4 (u:=.int .i64 q) d (by omega) rfl;have P:=s1.setNode (n:=n) (x':={(A.node n)with q:=(q:Int),prev:=0}) 2 (u:=.int .i64 0) (by rw[(Cg _ _).1];exact d) (by omega) (by rw[EN d];rfl);rw[ER]at P;have B:=P.setNode (n:=n) (x':={(A.node n)with q:=(q:Int),prev:=0,next:=(A.ends q).head}) 3 (u:=.int .i64 (A.ends q).head) (by rw[(Cg _ _).1];exact d) (by omega) (by rw[EN d];rfl);rw[ER]at B;have Q:=B.setNode (n:=n) (x':={(A.node n)with q:=(q:Int),prev:=(A.ends q).tail,next:=(A.ends q).head}) 2 (u:=.int .i64 (A.ends q).tail) (by rw[(Cg _ _).1];exact d) (by omega) (by rw[EN d];rfl);rw[ER]at Q;have R:=Q.setNode (n:=n) (x':={(A.node n)with q:=(q:Int),prev:=(A.ends q).tail,next:=0}) 3 (u:=.int .i64 0) (by rw[(Cg _ _).1];exact d) (by omega) (by rw[EN d];rfl);rw[ER,(Cg _ _).1]at R;rw[(Cg _ _).1]at B;obtain⟨S3,S5⟩:=zq2 B R;clear s1 P B Q R;simp at E c2;obtain⟨Hh,Ht,T⟩:=zq3 Y Z t;clear Y Z t;go_enter func127,ntmps127;go_upto_if 36 with fail;go_cut [] (λwx=>Ac S w wx/\BL S wx g (A.setNode n (AW A n q a)) (.slice (some ⟨F,0,none⟩) A.l.length cl) vf (.slice (some ⟨y,0,none⟩) A.qs.length cq) bm)
 case first=>
  cases a
  ·go_wp2;go_meet;refine⟨?_,S3.out⟩
   repeat' first|with_reducible exact Ac.refl _ _|with_reducible refine Ac.drewN ?_ _|with_reducible refine Ac.drew ?_|with_reducible refine Ac.setCell ?_ (by assumption) _|with_reducible refine Ac.alloc ?_ (by assumption) _
  ·go_wp2;go_meet;refine⟨?_,S5.out⟩
   repeat' first|with_reducible exact Ac.refl _ _|with_reducible refine Ac.drewN ?_ _|with_reducible refine Ac.drew ?_|with_reducible refine Ac.setCell ?_ (by assumption) _|with_reducible refine Ac.alloc ?_ (by assumption) _
 case rest=>
  clear E c2 I n1 J n3 K L e1 M fq fl S3 S5 v z;obtain⟨C,r⟩:=hcut;have G:=Aa C;clear C;have U:(AW A n q a).prev≠n:=by
   unfold AW;cases a
   ·exact λe=>T.out e.symm
   ·exact Ht.out
  have k:(AW A n q a).prev<A.l.length/\(AW A n q a).next<A.l.length:=by
   unfold AW;cases a
   ·exact⟨by show 0<_;omega,N⟩
   ·exact⟨O,by show 0<_;omega⟩
  have b:∀W:World,W.heap=(((wc.setCell (if(AW A n q a).prev=0 then⟨y,q*3,none⟩else⟨F,(AW A n q a).prev*5+3,none⟩) (.int .i64 n)).setCell
   (if(AW A n q a).next=0 then⟨y,q*3+1,none⟩else⟨F,(AW A n q a).next*5+2,none⟩) (.int .i64 n)).setCell ⟨y,q*3+2,none⟩ (.int .i64 ((A.ends q).n+1:Nat))).heap->
   BL S W g (A.link n q a) (.slice (some ⟨F,0,none⟩) (A.link n q a).l.length cl) vf (.slice (some ⟨y,0,none⟩) (A.link n q a).qs.length cq) bm:=
   λW hW=>r.mh d c k.1 k.2 hW
  have E:=r.row.cell 0;have c2:=r.row.cell 2;have fq:=λj=>r.q.mg rfl j;have fl:=λj=>r.l.mg (by rw[(Cg _ _).1]) j;have f:=r;rw[←(Cg (A:=A) n (AW A n q a)).1]at f;obtain⟨I,n1,J,n3,K⟩:=f.dG (n:=n) (by rw[(Cg _ _).1];exact d);obtain⟨_,_,x2,_,_⟩:=f.dG (n:=(AW A n q a).next) (by rw[(Cg _ _).1];exact k.2);obtain⟨_,_,_,y3,_⟩:=f.dG (n:=(AW A n q a).prev) (by rw[(Cg _ _).1];exact k.1);obtain⟨L,e1,M⟩:=r.gH (n:=q) c;rw[EN d]at I n1 J n3 K;simp only[SE]at L e1 M;generalize ((A.setNode n (AW A n q a)).node (AW A n q a).next).prev=cy at*;generalize ((A.setNode n (AW A n q a)).node (AW A n q a).prev).next=cz at*;clear r f Ht Hh;generalize D:A.link n q a=A' at b;have o:=Aa D;clear D;simp at E c2;generalize AW A n q a=x at*;obtain⟨xk,xf,xp,xn,xq⟩:=x;simp only at*;generalize (A.ends q).head=hd at*;generalize (A.ends q).tail=tl at*;generalize (A.ends q).n=m at*;have bS:¬n=xp:=λe=>U e.symm;by_cases p:xp=0
  ·subst p;by_cases i:xn=0
   ·subst i;simp only[A7]at b;have s:=Aa b;clear b;go_wp2;go_end0;rw[o.out];refine⟨rfl,G.out.trans ?_,_,_,s.out _ (by(try simp only[C4,Gb,Dy,Hn,Da,C8]);(try simp only[GG,EW,CM]);try with_reducible rfl)⟩
    repeat' first|with_reducible exact Ac.refl _ _|with_reducible refine Ac.drewN ?_ _|with_reducible refine Ac.drew ?_|with_reducible refine Ac.setCell ?_ (by assumption) _|with_reducible refine Ac.alloc ?_ (by assumption) _
   ·simp only[A7,Ai i]at b;have s:=Aa b;clear b;have V:=Zs i;have Hx:=Aa i;clear i;go_wp2
    (refine Du 11 (by kernel_rfl) (by kernel_rfl) ?_;simp only[Au,AI,Av,AK];repeat still_step);refine BT ?_
    go_wp2;go_end0;rw[o.out];refine⟨rfl,G.out.trans ?_,_,_,s.out _ (by(try simp only[C4,Gb,Dy,Hn,Da,C8]);(try simp only[GG,EW,CM]);try with_reducible rfl)⟩
    repeat' first|with_reducible exact Ac.refl _ _|with_reducible refine Ac.drewN ?_ _|with_reducible refine Ac.drew ?_|with_reducible refine Ac.setCell ?_ (by assumption) _|with_reducible refine Ac.alloc ?_ (by assumption) _
  ·by_cases i:xn=0
   ·subst i;simp only[A7,Ai p]at b;have s:=Aa b;clear b;have X:=Zs p;have Hp:=Aa p;clear p;go_wp2
    (refine Du 11 (by kernel_rfl) (by kernel_rfl) ?_;simp only[Au,AI,Av,AK];repeat still_step);refine BT ?_
    go_wp2;go_end0;rw[o.out];refine⟨rfl,G.out.trans ?_,_,_,s.out _ (by(try simp only[C4,Gb,Dy,Hn,Da,C8]);(try simp only[GG,EW,CM]);try with_reducible rfl)⟩
    repeat' first|with_reducible exact Ac.refl _ _|with_reducible refine Ac.drewN ?_ _|with_reducible refine Ac.drew ?_|with_reducible refine Ac.setCell ?_ (by assumption) _|with_reducible refine Ac.alloc ?_ (by assumption) _
   ·simp only[Ai p,Ai i]at b;have s:=Aa b;clear b;have X:=Zs p;have Hp:=Aa p;clear p;have V:=Zs i;have Hx:=Aa i;clear i;go_wp2
    (refine Du 11 (by kernel_rfl) (by kernel_rfl) ?_;simp only[Au,AI,Av,AK];repeat still_step);refine BT ?_
    go_wp2
    (refine Du 11 (by kernel_rfl) (by kernel_rfl) ?_;simp only[Au,AI,Av,AK];repeat still_step);refine BT ?_
    go_wp2;go_end0;rw[o.out];refine⟨rfl,G.out.trans ?_,_,_,s.out _ (by(try simp only[C4,Gb,Dy,Hn,Da,C8]);(try simp only[GG,EW,CM]);try with_reducible rfl)⟩
    repeat' first|with_reducible exact Ac.refl _ _|with_reducible refine Ac.drewN ?_ _|with_reducible refine Ac.drew ?_|with_reducible refine Ac.setCell ?_ (by assumption) _|with_reducible refine Ac.alloc ?_ (by assumption) _
end
section
variable {S:Nat->Prop}{w w':World}{b:Nat}{k:IntKind}{M:G5}{P:Program}
theorem ME {w:World}{b:Nat}(o:Obj):Ac (λx=>x=b) w {w with heap:=w.heap.setIfInBounds b o}:=
 ⟨rfl,rfl,rfl,by simp,λi a=>by simp only[tI];rw[Ai (λe=>a e.symm)]⟩
theorem MD {w:World}{b:Nat}{o:Obj}(a:b<w.heap.size):({w with heap:=w.heap.setIfInBounds b o}:World).heap[b]?=some o:=by simp[tI,a]
theorem cK {a:List MapEntry}(h:a.map (λe=>(e.key,e.val))=M.map (λx=>(Value.int k x.1,x.2))) (j:Nat):
  (a[j]?).map (λe=>(e.key,e.val))=(M[j]?).map (λx=>(Value.int k x.1,x.2)):=by
 rw[←At,h,At]
theorem W7 {x:Int}:FX M x=none↔M.findIdx? (λy=>y.1==x)=none:=by unfold FX;simp[IL,Rg]
theorem YZ (P:Program) (x:Int) (w:World):(Instr.keyThatStays (.int k x) (.int k x)).run P w= .ok (.int k x) w:=by
 have h:∀n,Instr.sameBits (n+1) (.int k x) (.int k x)=true:=λn=>by simp[Instr.sameBits]
 simp[Instr.keyThatStays,h 9999]
theorem Nu {α β:Type}(f:α->β):∀(l:List α) (i:Nat),(l.eraseIdx i).map f=(l.map f).eraseIdx i
 | [],i=>by simp
 |x::l,0=>by simp
 |x::l,i+1=>by simp[Nu f l i]
theorem BR.update {T K E:TypeId}(h:BR w b k M) (Y:P.underlying T=some (.map K E)) (L:P.underlying K=some (.int k)) (x:Int) (v:Value):
  ∃w',(Instr.mapUpdate T (.map (some b)) (.int k x) v).run P w= .ok () w'/\BR w' b k (Ut M x v)/\Ac (λi=>i=b) w w':=by
 have t:=h.lt;obtain⟨o,N,F,u,G,Z,O⟩:=h;have A:=KL L x o.toList u w;cases s:M.findIdx? (λy=>y.1==x)with
 |none=>
  have B:FX M x=none:=W7.2 s;refine⟨{w with heap:=w.heap.setIfInBounds b (.map (o.push {key:=.int k x,val:=v,born:=N}) (N+1))},?_,⟨_,_,MD t,?_,?_,?_,?_⟩,ME _⟩
  ·rw[s]at A;simp[Instr.mapUpdate,JT Y,Ha F,FK L,A,Jq F]
  ·simp[Ut,B,u]
  ·intro e r;simp only[Array.toList_push,CD,Ec]at r;rcases r with r|rfl
   ·have:=G e r;omega
   ·exact Ef _
  ·simp only[Array.toList_push,Cb,BS,PF];rw[Cp];refine⟨Z,by simp,?_⟩;intro a Q c H e;simp only[Ec]at H;obtain⟨y,g,rfl⟩:=AE.1 Q;have:=G y g;omega
  ·simp only[Ut,B,dC,Ap,A8,Cb,BS,PF];rw[Cp];refine⟨O,by simp,?_⟩;intro a Q c H e;simp only[Ec]at H;subst H;subst e;obtain⟨y,g,rfl⟩:=AE.1 Q;have:=Rg.1 s y g;simp at this
 |some j=>
  obtain⟨d,R,_⟩:=Mh.1 s;have n:(FX M x).isSome=true:=by rw[bq,s];simp[Ae d]
  have f:=cK u j;rw[Ae d]at f;have be:o.toList.length=M.length:=by have:=AH List.length u;simpa using this
  have C:o.toList[j]?=some o.toList[j]:=Ae (by omega);have p:M[j].1=x:=by simpa using R
  have D:o.toList[j].key= .int k x:=by rw[C]at f;simp only[Ca,Co,Jf]at f;rw[f.1,p]
  refine⟨{w with heap:=w.heap.setIfInBounds b (.map (o.modify j λe=>{e with key:=.int k x,val:=v}) N)},?_,⟨_,_,MD t,?_,?_,?_,?_⟩,ME _⟩
  ·rw[s]at A;simp only[TK,Ae d,Ca]at A;have U:((o[j]?).map (·.key)).getD (.int k x)= .int k x:=by rw[←Array.getElem?_toList,C];simpa using D
   simp only[Instr.mapUpdate,GO,JT Y,GP,Ha F,FK L,A,U,YZ,Jq F]
  ·have e1:∀(l:List MapEntry) (M:G5) (j:Nat),l.map (λe=>(e.key,e.val))=M.map (λy=>(Value.int k y.1,y.2))->(M.map (·.1)).Nodup->(I:j<M.length)->M[j].1=x->
     (l.modify j λe=>{e with key:=.int k x,val:=v}).map (λe=>(e.key,e.val))=(M.map (λy=>if y.1==x then(x,v)else y)).map (λy=>(Value.int k y.1,y.2)):=by
    intro l
    induction l with
    |nil=>
     intro M j h _ I;have:=AH List.length h;simp at this;omega
    |cons e l V=>
     intro M j h J I p;cases M with
     |nil=>simp at I
     |cons y M=>
      simp only[BS,IZ]at h;simp only[BS,BC]at J;cases j with
      |zero=>
       simp only[List.getElem_cons_zero]at p;simp only[List.modify_zero_cons,BS,p,mM,A7,h.2,IZ,true_and];refine(DS ?_:List.map (λy=>(Value.int k y.1,y.2)) M=List.map (λy=>(Value.int k (if y.1==x then(x,v)else y).1,(if y.1==x then(x,v)else y).2)) M).trans ?_
       ·intro z hz;have:(z.1==x)=false:=by simp only[BJ];intro W;exact J.1 (by rw[p,←W];exact AE.2 ⟨z,hz,rfl⟩)
        simp[this]
       ·simp[IK,Function.comp_def]
      |succ j=>
       simp only[List.getElem_cons_succ]at p;have X:(y.1==x)=false:=by simp only[BJ];intro q;exact J.1 (by rw[q,←p];exact AE.2 ⟨_,Eg _,rfl⟩)
       simp only[List.modify_succ_cons,BS,X];rw[V M j h.2 J.2 (by simpa using I) p];simp[h.1]
   rw[ZJ];simp only[Ut,n,A7];exact e1 _ _ _ u O d p
  ·intro e r;rw[ZJ]at r;obtain⟨i,m⟩:=Jh.1 r;rw[List.getElem?_modify]at m;split at m
   ·cases g:o.toList[i]? with
    |none=>rw[g]at m;cases m
    |some y=>rw[g]at m;simp at m;subst m;exact G y (Aw g)
   ·cases g:o.toList[i]? with
    |none=>rw[g]at m;cases m
    |some y=>rw[g]at m;simp at m;subst m;exact G y (Aw g)
  ·rw[ZJ];have:∀(l:List MapEntry) (j:Nat),(l.modify j λe=>{e with key:=.int k x,val:=v}).map (·.born)=l.map (·.born):=by
    intro l
    induction l with
    |nil=>intro j;simp
    |cons e l V=>intro j;cases j with
     |zero=>simp
     |succ j=>simp[V]
   rw[this];exact Z
  ·simp only[Ut,n,A7,IK];have:(M.map ((λy:Int×Value=>y.1)∘λy=>if y.1==x then(x,v)else y))=M.map (·.1):=by
    refine DS λy g=>?_;by_cases q:y.1==x
    ·have e:y.1=x:=by simpa using q
     simp[e]
    ·have e:¬y.1=x:=by simpa using q
     simp[e]
   rw[this];exact O
theorem BR.delete {T K E:TypeId}(h:BR w b k M) (p:P.underlying T=some (.map K E)) (o:P.underlying K=some (.int k)) (x:Int) (ty:TypeId):
  ∃w',(Builtin.delete_ #[T,K] ty #[.map (some b),.int k x]).run P w= .ok (.tuple #[]) w'/\BR w' b k (br M x)/\Ac (λi=>i=b) w w':=by
 have c:=h.lt;obtain⟨d,q,m,n,r,s,t⟩:=h;have f:=KL o x d.toList n w;cases g:M.findIdx? (λy=>y.1==x)with
 |none=>
  refine⟨{w with heap:=w.heap.setIfInBounds b (.map d q)},?_,⟨_,_,MD c,?_,r,s,?_⟩,ME _⟩
  ·rw[g]at f;simp[Builtin.delete_,JT p,Ha m,FK o,f,Jq m]
  all_goals
   have:br M x=M:=by unfold br;exact List.eraseP_of_forall_not (λy B=>by have:=Rg.1 g y B;simpa using this)
   rw[this]
  ·exact n
  ·exact t
 |some j=>
  obtain⟨l,C,u⟩:=Mh.1 g;have v:d.toList.length=M.length:=by have:=AH List.length n;simpa using this
  have a:br M x=M.eraseIdx j:=by unfold br;rw[List.eraseP_eq_eraseIdx,g]
  have z:j<d.size:=by rw[←Array.length_toList];omega
  refine⟨{w with heap:=w.heap.setIfInBounds b (.map (d.eraseIdxIfInBounds j) q)},?_,⟨_,_,MD c,?_,?_,?_,?_⟩,ME _⟩
  ·rw[g]at f;simp only[TK,Ae l,Ca]at f;simp[Builtin.delete_,JT p,Ha m,FK o,f,Jq m]
  ·rw[Nd,a,Nu,n,Nu]
  ·intro e A;rw[Nd]at A;exact r e (S4 A)
  ·rw[Nd,Nu];exact s.sublist (List.eraseIdx_sublist _ _)
  ·rw[a,Nu];exact t.sublist (List.eraseIdx_sublist _ _)
end
section
variable {S:Nat->Prop}{P:Program}{w:World}{ops:Array Oper}{rest:List Oper}{o:Oper}{a:Act}{Q:Exit->Act->World->Prop}
theorem Hv {b:Nat}{k:IntKind}{M:G5}{T K E:TypeId}(l:P.underlying T=some (.map K E)) (n:P.underlying K=some (.int k)) (h:BR w b k M)
  (p:o.guard=none) (m x v:Operand) (e:o.op=Op.mapUpdate T m x v) (q:a.eval m= .map (some b)) (key:Int) (r:a.eval x= .int k key) (c:Value) (s:a.eval v=c)
  (f:∀w',BR w' b k (Ut M key c)->Ac (λi=>i=b) w w'->wpList P ops Q rest (a.put o.dst undef) w'):wpList P ops Q (o::rest) a w:=by
 refine wpList_plain p λK' j=>?_;obtain⟨w',d,r1,t⟩:=h.update l n key c;unfold Oper.wp;simp[execOp,e,q,r,s,d,Result.andThen];exact j _ _ (f w' r1 t)
theorem jN {b:Nat}{k:IntKind}{M:G5}{T K E:TypeId}(j:P.underlying T=some (.map K E)) (l:P.underlying K=some (.int k)) (h:BR w b k M)
  (n:o.guard=none) (m x:Operand) (d:o.op=Op.call {callee:=.builtin .delete,args:=#[m,x],argTypes:=#[T,K]}) (p:a.eval m= .map (some b)) (key:Int) (q:a.eval x= .int k key)
  (e:∀w',BR w' b k (br M key)->Ac (λi=>i=b) w w'->wpList P ops Q rest (a.put o.dst (.tuple #[])) w'):wpList P ops Q (o::rest) a w:=by
 refine wpList_plain n λK' f=>?_;obtain⟨w',c,r1,r⟩:=h.delete j l key o.type;unfold Oper.wp execOp;simp only[d,resolve,invoke,builtin,GO,UG,GP,TM,BS,PF,p,q,c];exact f _ _ (e w' r1 r)
theorem XL {e:TypeId}{i:TypeInfo}{z:Value}{size bytes:Nat}{t:TypeId}(L:P.underlying t=some (.slice e)) (M:P.info? e=some i) (N:i.zero=some z)
  (l:i.size=size) (C:i.bytes=bytes) (D:z.cells.size=size) (E:0<size) {v:Value} {n:Nat} {xs:List Value} (h:Sl S w e size v n xs) (O:S w.heap.size)
  (F:o.guard=none) (s x:Operand) (R:o.op= .call {callee:=.builtin .append,args:=#[s,x],argTypes:=#[t,t]}) (T:a.eval s=v)
  (G:Addr) (m c:Nat) (d:List Value) (U:a.eval x= .slice (some G) m c) (V:d.length=m*size) (p:∀j u,d[j]?=some u->w.cell? (G.add j)=some u) (W:∀u∈d,u.oneCell'=true)
  (H:n+m<=maxLen) (f:(n+m)*bytes<=140737488355328)
  (X:∀q w',Sl S w' e size q (n+m) (xs++d)->Ac (λb=>v.ownBlock=some b\/w.heap.size<=b) w w'->(q.ownBlock=v.ownBlock\/q.ownBlock=some w.heap.size)->
   (q= .slice none 0 0↔v= .slice none 0 0/\m=0)->wpList P ops Q rest (a.put o.dst q) w'):wpList P ops Q (o::rest) a w:=by
 refine wpList_append_own_at w F s x t R 0 e i z size bytes L M N l C D E v n xs T h.1 G m c d U V p W H f (AM _) λq w' Y y Z r=>?_;refine X q w' ⟨Y,λg B=>?_⟩ ?_ r Z
 ·rcases r with r|r
  ·exact h.2 g (r▸B)
  ·rw[r]at B;injection B with B;exact B▸O
 ·refine⟨y.os,y.tape,y.output,y.size,λk K=>?_⟩;rcases Be k w.heap.size with I|J
  ·exact y.block k I (λe=>K (.inl e.symm))
  ·exact absurd (.inr J) K
theorem DA {e:TypeId}{i:TypeInfo}{z:Value}{size bytes:Nat}{t:TypeId}(H:P.underlying t=some (.slice e)) (I:P.info? e=some i) (J:i.zero=some z)
  (l:i.size=size) (y:i.bytes=bytes) (B:z.cells.size=size) (C:0<size) {v:Value} {n:Nat} {xs:List Value} (h:Sl S w e size v n xs) (K:S w.heap.size)
  (D:o.guard=none) (s x:Operand) (L:o.op= .call {callee:=.builtin .append,args:=#[s,x],argTypes:=#[t,t]}) (M:a.eval s=v)
  (E:Addr) (m c:Nat) (d:List Value) (N:a.eval x= .slice (some E) m c) (O:d.length=m*size) (p:∀j u,d[j]?=some u->w.cell? (E.add j)=some u) (R:∀u∈d,u.oneCell'=true)
  (F:n+m<=maxLen) (f:(n+m)*bytes<=140737488355328) (r:0<n+m)
  (T:∀g k w',Sl S w' e size (.slice (some ⟨g,0,none⟩) (n+m) k) (n+m) (xs++d)->Ac (λb=>v.ownBlock=some b\/w.heap.size<=b) w w'->(v.ownBlock=some g\/g=w.heap.size)->
   wpList P ops Q rest (a.put o.dst (.slice (some ⟨g,0,none⟩) (n+m) k)) w'):wpList P ops Q (o::rest) a w:=by
 refine XL H I J l y B C h K D s x L M E m c d N O p R F f λV w' G U q _=>?_;obtain⟨g,k,rfl,_⟩:=G.form r;refine T g k w' G U ?_;rcases q with q|q
 ·exact .inl q.symm
 ·injection q with q;exact .inr q
end
section
variable {S:Nat->Prop}{w w2:World}{g bm:Nat}{A:Am}{vl vf vq:Value}
theorem BL.lR (h:BL S w g A vl vf vq bm) {c:List Nat}{t k:Nat}(v:Sl S w2 3 1 (.slice (some ⟨t,0,none⟩) c.length k) c.length (c.map L8))
  (u:Ac (λb=>vf.ownBlock=some b\/w.heap.size<=b) w w2):
  BL S (w2.setCell ⟨g,1,none⟩ (.slice (some ⟨t,0,none⟩) c.length k)) g {A with free:=c} vl (.slice (some ⟨t,0,none⟩) c.length k) vq bm:=by
 have x:¬(vf.ownBlock=some g\/w.heap.size<=g):=by
  rintro(d|d)
  ·exact h.f.bK h.row (by decide) d
  ·have:=h.row.lt;omega
 have n:Ac (λb=>b=g) w2 _:=Ac.one w2 ⟨g,1,none⟩ (.slice (some ⟨t,0,none⟩) c.length k);have i:=h.row.kept u x;have p:=h.l.kept u (λb j=>by
  rintro(d|d)
  ·exact h.f.da h.l (by decide) j d
  ·have:=h.l.lt j;omega)
 have r:=h.q.kept u (λb j=>by
  rintro(d|d)
  ·exact h.f.da h.q (by decide) j d
  ·have:=h.q.lt j;omega)
 have s:=h.m.kept u (by
  rintro(d|d)
  ·exact h.f.fc h.m d
  ·have:=h.m.lt;omega)
 exact⟨i.bM 1 _,p.kept n (λb j e=>p.bK i (by decide) (e▸j)),v.kept n (λb j e=>v.bK i (by decide) (e▸j)),r.kept n (λb j e=>r.bK i (by decide) (e▸j)),
  s.kept n (λe=>s.bK i e),h.sg,h.sm⟩
theorem BL.qo (h:BL S w g A vl vf vq bm) {l':List Node}{s j:Nat}(u:Sl S w2 163 5 (.slice (some ⟨s,0,none⟩) l'.length j) l'.length (l'.flatMap D8))
  (t:Ac (λb=>vl.ownBlock=some b\/w.heap.size<=b) w w2):
  BL S (w2.setCell ⟨g,0,none⟩ (.slice (some ⟨s,0,none⟩) l'.length j)) g {A with l:=l'} (.slice (some ⟨s,0,none⟩) l'.length j) vf vq bm:=by
 have v:¬(vl.ownBlock=some g\/w.heap.size<=g):=by
  rintro(c|c)
  ·exact h.l.bK h.row (by decide) c
  ·have:=h.row.lt;omega
 have k:Ac (λb=>b=g) w2 _:=Ac.one w2 ⟨g,0,none⟩ (.slice (some ⟨s,0,none⟩) l'.length j);have d:=h.row.kept t v;have n:=h.f.kept t (λb i=>by
  rintro(c|c)
  ·exact h.l.da h.f (by decide) i c
  ·have:=h.f.lt i;omega)
 have p:=h.q.kept t (λb i=>by
  rintro(c|c)
  ·exact h.l.da h.q (by decide) i c
  ·have:=h.q.lt i;omega)
 have r:=h.m.kept t (by
  rintro(c|c)
  ·exact h.l.fc h.m c
  ·have:=h.m.lt;omega)
 exact⟨d.bM 0 _,u.kept k (λb i e=>u.bK d (by decide) (e▸i)),n.kept k (λb i e=>n.bK d (by decide) (e▸i)),p.kept k (λb i e=>p.bK d (by decide) (e▸i)),
  r.kept k (λe=>r.bK d e),h.sg,h.sm⟩
theorem BL.qO (h:BL S w g A vl vf vq bm) {M:List (Int×Nat)}(j:BR w2 bm .u64 (Ga M)) (d:Ac (λi=>i=bm) w w2):BL S w2 g {A with at_:=M} vl vf vq bm:=
 ⟨h.row.kept d (λe=>h.m.bK h.row e.symm),h.l.kept d (λb c e=>h.l.fc h.m (e▸c)),h.f.kept d (λb c e=>h.f.fc h.m (e▸c)),h.q.kept d (λb c e=>h.q.fc h.m (e▸c)),j,h.sg,h.sm⟩
theorem fi (M:List (Int×Nat)) (key:Int):br (Ga M) key=Ga (M.eraseP (λy=>y.1==key)):=by unfold br Ga;rw[List.eraseP_map];rfl
theorem fh (M:List (Int×Nat)) (key:Int) (n:Nat) (h:M.find? (λy=>y.1==key)=none):Ut (Ga M) key (.int .i64 n)=Ga (M++[(key,n)]):=by unfold Ut;rw[QK,h];simp[Ga]
end
theorem vR:(prog.info? 3).map (λi=>(i.zero,i.size,i.bytes))=some (some (.int .i64 0),1,8):=by kernel_rfl
section
variable {S:Nat->Prop}{w:World}{g bm:Nat}{A:Am}{vl vf vq:Value}
theorem ew (n:Nat):(A.unlink n).l.length=A.l.length/\(A.unlink n).qs.length=A.qs.length:=by
 unfold Am.unlink Am.dR;constructor
 ·show((A.bT _).bU _).l.length=_;rw[(OZ _).1,(Ks _).1]
 ·simp only[Am.bL,A9];rw[(OZ _).2,(Ks _).2]
theorem aj (n:Nat):(A.unlink n).free=A.free/\(A.unlink n).at_=A.at_:=by unfold Am.unlink Am.dR Am.bU Am.bT Am.bL Am.setNode;split<;>split<;>exact⟨rfl,rfl⟩
theorem PO (h:BL S w g A vl vf vq bm) (hS:Up S w) (Q:A.Ok) (T:A.qs.length<=1000000) (key:Int) (hu:∀n,A.idx key=some n->∃q,A.fF n q):
  Calls prog 43 #[.pointer (some ⟨g,0,none⟩),.int .u64 key] w λe w'=>
   e= .returned (.tuple #[.int .i64 (A.bW key),.bool (A.idx key).isSome])/\Ac S w w'/\∃vl vf vq,BL S w' g (A.out key) vl vf vq bm:=by
 have c0:=h.row.cell 0;have c3:=h.row.cell 3;have R:=h.look key true;cases k:A.idx key with
 |none=>
  rw[k]at R;have E:A.out key=A:=by unfold Am.out;rw[k]
  have F:A.bW key=0:=by unfold Am.bW;rw[k]
  rw[E,F];clear k E F;simp at c0 c3 R;go_enter func43,ntmps43;go_wp2_with fail;go_ret2;exact⟨rfl,Ac.refl _ _,_,_,_,h⟩
 |some n=>
  rw[k]at R;obtain⟨q,hq⟩:=hu n k;have E:A.out key=A.dN key n:=by unfold Am.out;rw[k]
  have F:A.bW key=((A.unlink n).node n).bI:=by unfold Am.bW;rw[k]
  rw[E,F];have hn:=hq.lt;clear k E F;simp at c0 c3 R;go_enter func43,ntmps43;go_wp2_with fail;refine(ey h hS Q n q hq T).mono ?_;rintro e w1 ⟨rfl,v,dI,dJ,a⟩;have d0:=a.row.cell 0;have d1:=a.row.cell 1;have d3:=a.row.cell 3;obtain⟨ul,uq⟩:=ew (A:=A) n;obtain⟨uf,ua⟩:=aj (A:=A) n;obtain⟨dR,dS,dU⟩:=zp3 Q.l1 Q.l2 Q.nA;obtain⟨i,cl,rfl,U,dV,dW,bY⟩:=a.l.form (by omega);have G:n<(A.unlink n).l.length:=by omega
  obtain⟨n0,n1,n2,n3,n4⟩:=a.dG G;have V:=a.setNode (n:=n) (x':={((A.unlink n).node n)with q:= -1}) 4 (u:=.int .i64 (-1)) G (by omega) rfl;have s:A.dN key n={(A.unlink n).setNode n {((A.unlink n).node n)with q:= -1}with free:=A.free++[n],at_:=A.at_.eraseP (λy=>y.1==key)}:=rfl;have x:((A.unlink n).setNode n {((A.unlink n).node n)with q:= -1}).free=A.free/\((A.unlink n).setNode n {((A.unlink n).node n)with q:= -1}).at_=A.at_:=⟨uf,ua⟩;have H:=Aa s;clear s;generalize (A.unlink n).setNode n {((A.unlink n).node n)with q:= -1}=B2 at*;have I:=hS.kept v;have J:Sl S (w1.setCell ⟨i,n*5+4,none⟩ (.int .i64 (-1))) 3 1 vf A.free.length (A.free.map L8):=by rw[←x.1];exact V.f
  obtain⟨i0,W,X,Y,Z⟩:=Bg vR;have dX:=a.row.lt;have fl:=λj=>a.l.mg rfl j;have fg:=λj=>a.row.frozen j;have be:¬i=g/\¬g=i:=by obtain⟨cs,hr⟩:=a.l.row rfl;have:=hr.cZ a.row (by decide);exact⟨this,λe=>this e.symm⟩
  obtain⟨bZ,ci⟩:=be;have bJ:=a.sg;obtain⟨S1,bL,bM,z,bN⟩:=zq5 V x v I J;clear V x v I J;have K:Ac S w1 (w1.setCell ⟨i,n*5+4,none⟩ (.int .i64 (-1))):=Ac.setCell zAr U _;have bO:=Aa K;clear K ul uq uf ua;simp at d0 d1 d3;have q1:S ((w1.setCell ⟨i,n*5+4,none⟩ (.int .i64 (-1))).alloc (.cells #[.int .i64 n] 3)).heap.size:=z.out _ (by simp);have q2:∀j u,[Value.int .i64 n][j]?=some u->((w1.setCell ⟨i,n*5+4,none⟩ (.int .i64 (-1))).alloc (.cells #[.int .i64 n] 3)).cell? ((⟨w1.heap.size,0,none⟩:Addr).add j)=some u:=by simpa using cell_one_new (w1.setCell ⟨i,n*5+4,none⟩ (.int .i64 (-1))) (.int .i64 n) 3
  have q3:∀u∈ [Value.int .i64 n],u.oneCell'=true:=ints_oneCell .i64 [(n:Int)];have q4:A.free.length+1<=maxLen:=by unfold maxLen;omega
  have q5:(A.free.length+1)*8<=140737488355328:=by omega
  obtain⟨Q1,Q2,Q3⟩:=zq3 q1 q2 q3;clear q1 q2 q3;have o:=S1.out.alloc (.cells #[.int .i64 n] 3);have q6:¬(vf.ownBlock=some g\/((w1.setCell ⟨i,n*5+4,none⟩ (.int .i64 (-1))).alloc (.cells #[.int .i64 n] 3)).heap.size<=g):=by
   rintro(C|C)
   ·exact o.f.bK o.row (by decide) C
   ·simp at C;omega
  have q7:¬(vf.ownBlock=some bm\/((w1.setCell ⟨i,n*5+4,none⟩ (.int .i64 (-1))).alloc (.cells #[.int .i64 n] 3)).heap.size<=bm):=by
   have:=o.m.lt;rintro(C|C)
   ·exact o.f.fc o.m C
   ·omega
  have q8:¬bm=g:=o.m.bK o.row;obtain⟨D,Q6,Q7⟩:=zq3 o q6 q7;clear o q6 q7;go_wp2_with (first
   |(at_builtin;go_must (refine DA Fg W X Y Z rfl (by decide) (bN.out.alloc _) Q1.out rfl _ _ rfl rfl ⟨w1.heap.size,0,none⟩ 1 1 [.int .i64 n] rfl rfl Q2.out Q3.out q4 q5 (Ci _) ?_;intro g2 t w2 r c L;have e1:=(D.out.row.kept c Q6.out).cell 1;have e3:=(D.out.row.kept c Q6.out).cell 3;have e5:=λj=>(D.out.row.kept c Q6.out).frozen j;have M2:=Aa (D.out.m.kept c Q7.out);have bQ:=Aa r;have M:=Aa c;clear r c L;simp at e1 e3))
   |(at_delete;go_must (refine jN Lx Jl (M2.out.kept (Ac.one _ _ _) q8) rfl _ _ rfl rfl key rfl ?_;intro w3 d N;have bR:=Aa d;have O:=Aa N;clear d N)))
  go_ret2;have el:(A.free++[n]).length=A.free.length+1:=by simp
  have r:=bQ.out;have P:Sl S w2 3 1 (.slice (some ⟨g2,0,none⟩) (A.free++[n]).length t) (A.free++[n]).length ((A.free++[n]).map L8):=by rw[el,Cb];exact r
  have f1:=D.out.lR P M.out;have d:=bR.out;rw[bL.out.2,fi]at d;rw[el]at f1;have f2:=f1.qO d O.out;refine⟨rfl,?_,⟨_,_,_,by rw[H.out];exact f2⟩⟩
  ·have k2:Ac S w1 ((w1.setCell ⟨i,n*5+4,none⟩ (.int .i64 (-1))).alloc (.cells #[.int .i64 n] 3)):=bO.out.alloc (z.out _ (by simp)) _;have k3:Ac S w1 w2:=k2.trans (M.out.mono (λb B=>by
    rcases B with B|B
    ·exact D.out.f.2 b B
    ·exact z.out _ (Ad k2.size B)))
   have k4:=k3.setCell (p:=⟨g,1,none⟩) bJ (.slice (some ⟨g2,0,none⟩) (A.free.length+1) t);exact bM.out.trans (k4.trans (O.out.mono (λb B=>by rw[B];exact a.sm)))
end
theorem bG:(prog.info? 163).map (λi=>(i.zero,i.size,i.bytes))=some (some (.agg #[.int .u64 0,.int .i64 0,.int .i64 0,.int .i64 0,.int .i64 0]),5,40):=by kernel_rfl
theorem Sl.take {S:Nat->Prop}{w:World}{e:TypeId}{size n:Nat}{g a:Nat}{xs:List Value}(h:Sl S w e size (.slice (some ⟨g,0,none⟩) n a) n xs) (m:Nat) (k:m<=n):
  Sl S w e size (.slice (some ⟨g,0,none⟩) m a) m (xs.take (m*size)):=by
 obtain⟨⟨c,l⟩,o⟩:=h;obtain⟨x,j,d,b,p,q,y,f,r,s⟩:=l.resolve_left (by rintro⟨c,_⟩;cases c);injection b with b t i;injection b with b;injection b with b;subst b i;have u:m*size<=n*size:=XC _ k;refine⟨⟨by rw[nk,c];omega,.inr ⟨g,a,d,rfl,p,q,by omega,f,r,?_⟩⟩,λg v=>o g v⟩;rw[←s,List.take_take];congr 1;omega
theorem Sl.shape {S:Nat->Prop}{w:World}{e:TypeId}{size n:Nat}{v:Value}{xs:List Value}(h:Sl S w e size v n xs):∃a c,v= .slice a n c:=by
 rcases h.1.2 with⟨rfl,rfl⟩|⟨g,b,d,rfl,_⟩
 ·exact⟨none,0,rfl⟩
 ·exact⟨_,b,rfl⟩
theorem C9 (w:World) (l:List Value) (t:TypeId):∀j u,l[j]?=some u->(w.alloc (.cells l.toArray t)).cell? ((⟨w.heap.size,0,none⟩:Addr).add j)=some u:=by
 intro j u a;have:=(AF.new w t l).cell j;rw[a]at this;unfold Addr.add;split
 ·rename_i b;subst b;exact this
 ·simpa using this
section
variable {S:Nat->Prop}{w:World}{g bm:Nat}{A:Am}{vl vf vq:Value}
theorem bf (a:A.Ok):A.place<A.ready.l.length:=by
 unfold Am.place Am.ready;by_cases h:A.free=[]
 ·simp[h]
 ·simp only[h,A8];refine a.free _ ?_;rw[Kq,List.getLast?_eq_some_getLast h];exact List.getLast_mem h
theorem T4:A.ready.qs=A.qs/\A.ready.at_=A.at_/\A.l.length<=A.ready.l.length/\A.ready.l.length<=A.l.length+1/\(∀n,n∈A.ready.free->n∈A.free)/\A.ready.free.length<=A.free.length:=by
 unfold Am.ready;by_cases h:A.free=[]
 ·simp[h]
 ·simp only[h,A8];exact⟨trivial,trivial,Ab _,Cc _,λn a=>List.dropLast_subset _ a,by simp⟩
theorem eS (n:Nat) (x:Node) (h:A.ready.l[n]?=some x):A.l[n]?=some x\/x=⟨0,0,0,0,0⟩:=by
 unfold Am.ready at h;split at h
 ·simp only[List.getElem?_append]at h;split at h
  ·exact .inl h
  ·cases a:n-A.l.length with
   |zero=>rw[a]at h;simp at h;exact .inr h.symm
   |succ k=>rw[a]at h;simp at h
 ·exact .inl h
def Am.jn (A:Am) (key a:Int):Am:={(A.ready.setNode A.place ⟨key,a,0,0,0⟩)with at_:=A.at_++[(key,A.place)]}
theorem Am.pC (j:A.Ok) {key e:Int}{q:Nat}(o:A.jR key e q):(A.jn key e).Ok:=by
 obtain⟨r1,G,H,I,v,J⟩:=T4 (A:=A);have z:=bf j;have B:(A.jn key e).l.length=A.ready.l.length:=A9 ..;have m:(A.jn key e).qs=A.qs:=r1;obtain⟨r,C,K⟩:=zp3 o.room j.l1 o.lt;refine⟨by omega,by omega,?_,?_,?_,?_,?_⟩
 ·intro n x p;have i:(A.ready.l.set A.place ⟨key,e,0,0,0⟩)[n]?=some x:=p;rw[m,B];rw[Bk]at i;split at i
  ·injection i with i;subst i;exact⟨by show 0<_;omega,by show 0<_;omega,by show(0:Int)<=_;omega,o.bI.1,o.bI.2⟩
  ·rcases eS n x i with h|rfl
   ·obtain⟨a,b,c,d⟩:=j.node n x h;exact⟨by omega,by omega,c,d⟩
   ·exact⟨by show 0<_;omega,by show 0<_;omega,by show(0:Int)<=_;omega,by decide,by decide⟩
 ·intro n D;have:=j.free n (v n D);omega
 ·have:=j.nA;have s:(A.jn key e).free=A.ready.free:=rfl;rw[s];omega
 ·intro q x p;rw[m]at p;obtain⟨a,b,c⟩:=j.ends q x p;exact⟨by omega,by omega,c⟩
 ·intro k n E;have f:((A.at_++[(key,A.place)]).find? (λy=>y.1==k)).map (·.2)=some n:=E;rw[Jm]at f;cases t:A.at_.find? (λy=>y.1==k)with
  |some y=>
   rw[t]at f;have u:A.idx k=some n:=by unfold Am.idx;rw[t];simpa using f
   obtain⟨F,s⟩:=j.at_ k n u;refine⟨by omega,?_⟩;show 0<=((A.ready.l.set A.place ⟨key,e,0,0,0⟩)[n]?.getD ⟨0,0,0,0,0⟩).q;rw[Bk];split
   ·simp
   ·have:A.ready.l[n]?=A.l[n]?:=by
     unfold Am.ready;split
     ·simp[List.getElem?_append,F]
     ·rfl
    rw[this];exact s
  |none=>
   rw[t]at f;simp only[La,List.find?_nil,Option.none_or]at f;split at f
   ·simp at f;subst f;refine⟨by omega,?_⟩;show 0<=((A.ready.l.set A.place ⟨key,e,0,0,0⟩)[A.place]?.getD ⟨0,0,0,0,0⟩).q;rw[Bk];simp[z]
   ·simp at f
theorem BL.nC {gf a:Nat}(h:BL S w g A vl (.slice (some ⟨gf,0,none⟩) A.free.length a) vq bm) (d:A.free≠ []):
  BL S (w.setCell ⟨g,1,none⟩ (.slice (some ⟨gf,0,none⟩) (A.free.length-1) a)) g A.ready vl (.slice (some ⟨gf,0,none⟩) (A.free.length-1) a) vq bm:=by
 have e:A.ready={A with free:=A.free.dropLast}:=by unfold Am.ready;rw[Ai d]
 have b:A.free.dropLast.length=A.free.length-1:=by simp
 have c:=h.f.take (A.free.length-1) (by omega);have i:(A.free.map L8).take ((A.free.length-1)*1)=A.free.dropLast.map L8:=by rw[GQ,←List.map_take,List.dropLast_eq_take]
 rw[i,←b]at c;have:=h.lR c ((Ac.refl _ w).mono (λ_ h=>h));rw[e,←b];exact this
theorem Zf (h:BL S w g A vl vf vq bm) (hS:Up S w) (F:A.Ok) (bJ:A.qs.length<=1000000) (key bI:Int) (q:Nat) (i:Bool) (G:A.jR key bI q):
  Calls prog 101 #[.pointer (some ⟨g,0,none⟩),.int .u64 key,.int .i64 bI,.int .i64 q,.bool i] w λe w'=>
   e= .returned (.tuple #[])/\Ac S w w'/\∃vl vf vq,BL S w' g (A.lQ key bI q i) vl vf vq bm:=by
 have c0:=h.row.cell 0;have c1:=h.row.cell 1;have fg:=λj=>h.row.frozen j;obtain⟨bL,fE,fF,H,bM,bN⟩:=zp6 F.l1 F.l2 F.nA h.sg h.row.lt G.room;simp at c0 c1;have I:=Aa h;obtain⟨af,cf,rfl⟩:=h.f.shape;clear h;go_enter func101,ntmps101;go_upto_if 18 with fail;go_cut [10] (λbO wx=>bO= .int .i64 A.place/\Ac S w wx/\∃vl vf,BL S wx g A.ready vl vf vq bm)
 case first=>
  by_cases s:A.free=[]
  ·obtain⟨a,t,rfl,bP,bQ,bR,J⟩:=I.out.l.form bL;have D:A.free.length=0:=by rw[s];rfl
   have d:A.place=A.l.length:=by unfold Am.place;rw[Al s]
   have E:A.ready={A with l:=A.l++[⟨0,0,0,0,0⟩]}:=by unfold Am.ready;rw[Al s]
   obtain⟨i0,bS,bT,bU,bV⟩:=Bg bG;have q1:S (w.alloc (.cells #[.int .u64 0,.int .i64 0,.int .i64 0,.int .i64 0,.int .i64 0] 163)).heap.size:=hS _ (by simp);have q2:=C9 w [.int .u64 0,.int .i64 0,.int .i64 0,.int .i64 0,.int .i64 0] 163;have q3:∀u∈ [Value.int .u64 0,.int .i64 0,.int .i64 0,.int .i64 0,.int .i64 0],u.oneCell'=true:=by intro u hu;simp at hu;rcases hu with rfl|rfl<;>rfl
   have q4:A.l.length+1<=maxLen:=by unfold maxLen;omega
   have q5:(A.l.length+1)*40<=140737488355328:=by omega
   have Y:=I.out.alloc (.cells #[.int .u64 0,.int .i64 0,.int .i64 0,.int .i64 0,.int .i64 0] 163);have q6:¬((Value.slice (some ⟨a,0,none⟩) A.l.length t).ownBlock=some g\/(w.alloc (.cells #[.int .u64 0,.int .i64 0,.int .i64 0,.int .i64 0,.int .i64 0] 163)).heap.size<=g):=by
    rintro(D|D)
    ·exact Y.l.bK Y.row (by decide) D
    ·simp at D;omega
   obtain⟨K,Q1,Q2,Q3,Q6,Hr,Hp,Hf⟩:=zq8 Y q1 q2 q3 q6 E d s;clear Y q1 q2 q3 q6 E d s;have fR:¬(0<A.free.length):=by omega
   have H0:=Aa D;clear D;go_wp2_with (at_builtin;go_must (refine DA underlying157 bS bT bU bV rfl (by decide) (K.out.l) Q1.out rfl _ _ rfl rfl ⟨w.heap.size,0,none⟩ 1 1 [.int .u64 0,.int .i64 0,.int .i64 0,.int .i64 0,.int .i64 0] rfl rfl Q2.out Q3.out q4 q5 (Ci _) ?_;intro g2 L w2 v c M;have e0:=(K.out.row.kept c Q6.out).cell 0;have e5:=λj=>(K.out.row.kept c Q6.out).frozen j;have bW:=Aa v;have N:=Aa c;clear v c M;simp at e0));go_meet;have el:(A.l++[(⟨0,0,0,0,0⟩:Node)]).length=A.l.length+1:=by simp
   have v:=bW.out;have O:Sl S w2 163 5 (.slice (some ⟨g2,0,none⟩) (A.l++[(⟨0,0,0,0,0⟩:Node)]).length L) (A.l++[(⟨0,0,0,0,0⟩:Node)]).length ((A.l++[(⟨0,0,0,0,0⟩:Node)]).flatMap D8):=by rw[el,KI];exact v
   have f1:=K.out.qo O N.out;rw[el]at f1;refine⟨by rw[Hp.out],?_,_,_,by rw[Hr.out];exact f1⟩;have k2:=(Ac.refl S w).alloc (hS _ (Ab _)) (.cells #[.int .u64 0,.int .i64 0,.int .i64 0,.int .i64 0,.int .i64 0] 163);have k3:Ac S w w2:=k2.trans (N.out.mono (λb z=>by
    rcases z with z|z
    ·exact K.out.l.2 b z
    ·exact hS _ (Ad k2.size z)))
   exact k3.setCell H _
  ·have bX:0<A.free.length:=List.length_pos_iff.2 s;obtain⟨gf,cf,hv,fU,gH,gI,_⟩:=I.out.f.form bX;injection hv with hv _ bZ;subst hv bZ;have k:A.free[A.free.length-1]?=some A.place:=by unfold Am.place;rw[Ai s,Kq,List.getLast?_eq_getElem?];rw[Ae (by omega)];rfl
   have t:=I.out.f.1.cellAt (A.free.length-1) (by omega);rw[At,k]at t;simp[L8]at t;have s1:=I.out.nC s;obtain⟨S1,Hf⟩:=zq2 s1 s;clear s1 s k;have e1:(A.free.length:Int)-1=(A.free.length-1:Nat):=by omega
   have E1:=Aa e1;clear e1;go_wp2;go_meet;exact⟨rfl,zAr.setCell H _,_,_,S1.out⟩
 case rest=>
  obtain⟨rfl,P,ik,Q,o⟩:=hcut;clear c0 c1 fg bM;obtain⟨r1,r2,r3,r4,r5,r6⟩:=T4 (A:=A);have d0:=o.row.cell 0;have d3:=o.row.cell 3;have hn:=bf F;obtain⟨a,t,rfl,bP,bQ,bR,J⟩:=o.l.form (by omega);obtain⟨n0,n1,n2,n3,n4⟩:=o.dG hn;have fl:=λj=>o.l.mg rfl j;have cj:¬a=g/\¬g=a:=by obtain⟨cs,E⟩:=o.l.row rfl;have:=E.cZ o.row (by decide);exact⟨this,λe=>this e.symm⟩
  obtain⟨dW,dX⟩:=cj;have ix:¬bm=a:=by obtain⟨cs,E⟩:=o.l.row rfl;exact o.m.bK E
  have R:∀(B:Am) (a t:Nat) (w:World) (vf:Value),BL S w g B (.slice (some ⟨a,0,none⟩) B.l.length t) vf vq bm->A.place<B.l.length->
    BL S (((((w.setCell ⟨a,A.place*5,none⟩ (.int .u64 key)).setCell ⟨a,A.place*5+1,none⟩ (.int .i64 bI)).setCell ⟨a,A.place*5+2,none⟩ (.int .i64 0)).setCell ⟨a,A.place*5+3,none⟩ (.int .i64 0)).setCell ⟨a,A.place*5+4,none⟩ (.int .i64 0)) g
     (B.setNode A.place ⟨key,bI,0,0,0⟩) (.slice (some ⟨a,0,none⟩) B.l.length t) vf vq bm:=by
   intro B a t w vf hB d;have t1:=hB.setNode (x':={(B.node A.place)with key:=key}) 0 (u:=.int .u64 key) d (by omega) rfl;have t2:=t1.setNode (n:=A.place) (x':={(B.node A.place)with key:=key,bI:=bI}) 1 (u:=.int .i64 bI) (by rw[(Cg _ _).1];exact d) (by omega) (by rw[EN d];rfl);rw[ER]at t2;have t3:=t2.setNode (n:=A.place) (x':={(B.node A.place)with key:=key,bI:=bI,prev:=0}) 2 (u:=.int .i64 0) (by rw[(Cg _ _).1];exact d) (by omega) (by rw[EN d];rfl);rw[ER]at t3;have t4:=t3.setNode (n:=A.place) (x':={(B.node A.place)with key:=key,bI:=bI,prev:=0,next:=0}) 3 (u:=.int .i64 0) (by rw[(Cg _ _).1];exact d) (by omega) (by rw[EN d];rfl);rw[ER]at t4;have t5:=t4.setNode (n:=A.place) (x':=⟨key,bI,0,0,0⟩) 4 (u:=.int .i64 0) (by rw[(Cg _ _).1];exact d) (by omega) (by rw[EN d];rfl);rw[ER,(Cg _ _).1]at t5;exact t5
  have s5:=R A.ready a t wc Q o hn;have x:(A.jn key bI).l.length=A.ready.l.length:=A9 ..;have C:(A.jn key bI).qs=A.qs:=r1;have T:(A.jn key bI).ends q=A.ends q:=by unfold Am.ends;rw[C]
  have cu:=Am.pC F G;have U:A.at_.find? (λy=>y.1==key)=none:=by
   have:=G.none_;unfold Am.idx at this;cases hh:A.at_.find? (λy=>y.1==key)with
   |none=>rfl
   |some y=>rw[hh]at this;simp at this
  obtain⟨S5,cw,V,W,X,cy,R2,Z⟩:=zq8 s5 P C T x U r2 G;clear R s5 P C T x r1 r2 U G;simp at d0 d3;go_wp2_with (at_mapUpdate;go_must (refine Hv Lx Jl S5.out.m rfl _ _ _ rfl rfl key rfl (.int .i64 A.place) rfl ?_;intro w3 p r;have cz:=Aa p;have cB:=Aa r;clear p r));have p:=cz.out;have r:=cB.out;have e1:(A.ready.setNode A.place ⟨key,bI,0,0,0⟩).at_=A.at_:=R2.out;rw[e1,fh _ _ _ cy.out]at p;have s6:BL S w3 g (A.jn key bI) _ Q vq bm:=S5.out.qO p r;have c:Ac S wc w3:=by
   refine Ac.trans ?_ (r.mono (λb z=>by rw[z];exact o.sm))
   repeat' first|with_reducible exact Ac.refl _ _|with_reducible refine Ac.setCell ?_ (by assumption) _
  refine(pO s6 cu A.place q i (by rw[X.out];exact hn) Z.out.place.1 (by rw[V.out];exact Z.out.lt) (by rw[V.out];exact bJ) (by rw[W.out];exact Z.out.place.2.1) (by rw[W.out];exact Z.out.place.2.2)).mono ?_;rintro e w4 ⟨rfl,da,iD,iE,h4⟩;go_wp2;go_end0;exact⟨rfl,cw.out.trans (c.trans da),_,_,_,h4⟩
end
theorem vQ:(prog.info? 25).map (λi=>(i.zero,i.size,i.bytes))=some (some (.int .u64 0),1,8):=by kernel_rfl
def zW15:Value->Nat
 | .slice _ n _=>n
 |_=>0
section
variable {S So:Nat->Prop}{w:World}{g bm:Nat}{A:Am}{vl vf vq:Value}
def PT (A:Am) (a:List Nat):List Value:=a.map λn=>.int .u64 (A.node n).key
theorem pY (h:BL S w g A vl vf vq bm) (z:Up So w) (hd:∀b,S b->¬So b) (ok:A.Ok) (bV:A.qs.length<=1000000) (q:Nat) (hq:q<A.qs.length) (p:List Nat) (hc:dM A (A.ends q).head p) (bX:p.length<=1000000):
  Calls prog 46 #[.pointer (some ⟨g,0,none⟩),.int .i64 q] w λe w'=>
   ∃v,e= .returned v/\Ac So w w'/\Sl So w' 25 1 v p.length (PT A p):=by
 obtain⟨c0,c2,L,bZ⟩:=zp4 (h.row.cell 0) (h.row.cell 2) ok.l1 ok.l2;obtain⟨gl,cl,rfl,ci,cj,cu,bK⟩:=h.l.form L;obtain⟨gq,cq,rfl,cw,cy,cz,bL⟩:=h.q.form (by omega);obtain⟨e0,e1,e2⟩:=h.gH hq;obtain⟨HA,HC,M,N⟩:=zq4 h hc hd z;clear h hc hd z;simp at c0 c2;obtain⟨i0,O,P,Q,R⟩:=Bg vQ;go_enter func46,ntmps46;go_wp2
 go_loopw [5,6] (λv i wr=>∃I done rest,I=v/\p=done++rest/\(∃d,i= .int .i64 (d:Nat)/\dM A d rest)/\Sl So wr 25 1 v done.length (PT A done)/\Ac So w wr) (λv _ _=>p.length-zW15 v)
 case atStart=>exact⟨_,[],p,rfl,rfl,⟨_,rfl,HC.out⟩,⟨Cn _ _ _ _,λg hg=>by cases hg⟩,Ac.refl _ _⟩
 case round=>
  obtain⟨I,done,rest,T,f,⟨d,rfl,j⟩,k,y⟩:=hrel;subst T;cases rest with
  |nil=>
   have t:d=0:=j;subst t;obtain⟨U,J,V⟩:=zq3 f k y;clear f k y j;go_wp2;go_ret;exact⟨_,rfl,V.out,by rw[U.out,AO];exact J.out⟩
  |cons n r=>
   obtain⟨rfl,B,C,j⟩:=j;have K:=HA.out.kept y M.out;have d0:=K.row.cell 0;obtain⟨n0,_,_,n3,_⟩:=K.dG C;have D:done.length+1<=p.length:=by rw[f];simp
   have x:=Aa D;obtain⟨b1,E,m⟩:=zp3 (Zs B) (K.alloc (.cells #[.int .u64 (A.node d).key] 25)) (N.out.kept y);have q0:So wr.heap.size:=m _ (Ab _);have q1:So (wr.alloc (.cells #[.int .u64 (A.node d).key] 25)).heap.size:=m _ (by simp);have q2:=C9 wr [.int .u64 (A.node d).key] 25;have q3:∀u∈ [Value.int .u64 (A.node d).key],u.oneCell'=true:=by intro u hu;simp at hu;subst hu;rfl
   have q4:done.length+1<=maxLen:=by unfold maxLen;omega
   have q5:(done.length+1)*8<=140737488355328:=by omega
   have q6:∀b,S b->¬(I.ownBlock=some b\/(wr.alloc (.cells #[.int .u64 (A.node d).key] 25)).heap.size<=b):=by
    intro b s t;rcases t with t|t
    ·exact M.out b s (k.2 b t)
    ·exact M.out b s (m b (Ad (by simp) t))
   have q7:=k.alloc (.cells #[.int .u64 (A.node d).key] 25);obtain⟨F,Q0,Q1,Q2,Q3,Q6,Q7,U⟩:=zq8 E q0 q1 q2 q3 q6 q7 f;obtain⟨J,V,W,X⟩:=zq4 k y j m;clear K E q0 q1 q2 q3 q6 q7 f k y j m B;simp at d0;go_wp2_with (at_builtin;go_must (refine DA Ez O P Q R rfl (by decide) Q7.out Q1.out rfl _ _ rfl rfl ⟨wr.heap.size,0,none⟩ 1 1 [.int .u64 (A.node d).key] rfl rfl Q2.out Q3.out q4 q5 (Ci _) ?_;intro g2 bU w2 G o H;have x0:=(F.out.kept o Q6.out).row.cell 0;have x3:=((F.out.kept o Q6.out).dG C).2.2.2.1;have Y:=Aa G;have Z:=Aa o;clear G o H;simp at x0))
   go_roundw
   case rel=>
    refine⟨_,done++[d],r,rfl,by rw[U.out];simp,⟨_,rfl,W.out⟩,?_,?_⟩
    ·have el:(done++[d]).length=done.length+1:=by simp
     have:=Y.out;unfold PT at this ⊢;rw[el,Cb];exact this
    ·have k2:=V.out.alloc Q0.out (.cells #[.int .u64 (A.node d).key] 25);exact k2.trans (Z.out.mono (λb s=>by
      rcases s with s|s
      ·exact J.out.2 b s
      ·exact X.out b (Ad (by simp) s)))
   case measure=>
    have h1:=x.out;have h2:zW15 I=done.length:=by obtain⟨a,c,e⟩:=J.out.shape;rw[e];rfl
    rw[h2];simp[zW15];omega
end
theorem bH:(prog.info? 185).map (λi=>(i.zero,i.size,i.bytes))=some (some (.agg #[.int .i64 0,.int .i64 0,.int .i64 0]),3,24):=by kernel_rfl
theorem cE {α:Type}(f:α->List Value) (k:Nat) (a:∀x,(f x).length=k) (l:List α):(l.flatMap f).length=l.length*k:=by
 induction l with
 |nil=>simp
 |cons y l b=>simp[Fi,b,a,GR,FH]
theorem VU {α:Type}(f:α->List Value) (k:Nat) (d:∀x,(f x).length=k) (b:0<k) (x:α) (n:Nat):madeCells (f x).toArray (n*k)=((List.replicate n x).flatMap f).toArray:=by
 apply Array.toList_inj.1;apply Fj;intro i;have e:(f x).toArray.size=k:=by simp[d]
 by_cases h:i<n*k
 ·have c:i/k<n:=Nat.div_lt_of_lt_mul (by rw[Nat.mul_comm];exact h);have a:i%k<k:=Nat.mod_lt _ b;have g:=Wj f k d (List.replicate n x) (i/k) (i%k) x (by simp[By,c]) a;have l:i/k*k+i%k=i:=by rw[Nat.mul_comm];exact Nat.div_add_mod i k
  rw[l]at g;simp only[ZC];rw[g];unfold madeCells;simp only[Array.toList_map,Array.toList_range,At,ZD h,Ca,e];have j:i%k<(f x).length:=by rw[d];exact a
  rw[Ae j];simp[j]
 ·have g:(madeCells (f x).toArray (n*k)).toList.length=n*k:=by simp[size_madeCells]
  rw[Bl (by omega),Bl (by rw[ZC,cE f k d];simp;omega)]
def Am.new (n:Nat):Am:=⟨[⟨0,0,0,0,0⟩],[],List.replicate n ⟨0,0,0⟩,[]⟩
section
variable {S:Nat->Prop}{w:World}
theorem AF.fN {w:World}{g:Nat}(t:TypeId) (cs:List Value) (a:g=w.heap.size):AF (w.alloc (.cells cs.toArray t)) g t cs:=by subst a;exact AF.new w t cs
theorem BR.fN {w:World}{g:Nat}(k:IntKind) (a:g=w.heap.size):BR (w.alloc (.map #[] 0)) g k []:=by subst a;exact BR.new w k
theorem BR.alloc {w:World}{b:Nat}{k:IntKind}{M:G5}(h:BR w b k M) (o:Obj):BR (w.alloc o) b k M:=h.fU (FU w o b h.lt)
theorem BR.drew {w:World}{b:Nat}{k:IntKind}{M:G5}(h:BR w b k M):BR w.drew b k M:=h
theorem Sl.fO {w:World}{e:TypeId}{size n g:Nat}{xs:List Value}(h:AF w g e xs) (d:S g) (a:xs.length=n*size) (f:n<=maxLen):Sl S w e size (.slice (some ⟨g,0,none⟩) n n) n xs:=
 ⟨⟨a,.inr ⟨g,n,xs.toArray,rfl,AM _,h,Ab _,f,by simp[a],by simp only[ZC];rw[←a,Kk]⟩⟩,λb c=>by injection c with c;exact c▸d⟩
theorem BL.fresh {W:World}{g c d a n:Nat}(u:n<=1000000) (h:AF W g 161 [.slice (some ⟨c,0,none⟩) 1 1,.slice none 0 0,.slice (some ⟨d,0,none⟩) n n,.map (some a)])
  (i:AF W c 163 (D8 ⟨0,0,0,0,0⟩)) (j:AF W d 185 ((List.replicate n (⟨0,0,0⟩:Qi)).flatMap EP)) (k:BR W a .u64 [])
  (l:S g) (m:S c) (o:S d) (p:S a):∃q r s a,BL S W g (Am.new n) q r s a:=by
 have e:(List.replicate n (⟨0,0,0⟩:Qi)).length=n:=by simp
 refine⟨_,_,_,_,h,Sl.fO i m rfl (by unfold maxLen;omega),⟨Cn _ _ _ _,λb t=>by cases t⟩,?_,k,l,p⟩;have f:=Sl.fO (S:=S) j o (size:=3) (n:=n) (by rw[cE EP 3 (λ_=>rfl),e]) (by unfold maxLen;omega);show Sl S W _ 3 _ (List.replicate n (⟨0,0,0⟩:Qi)).length _;rw[e];exact f
theorem vB (a:Up S w) (n:Nat) (p:n<=1000000):
  Calls prog 51 #[.int .i64 n] w λe w'=>∃g,e= .returned (.pointer (some ⟨g,0,none⟩))/\Ac S w w'/\∃q r s t,BL S w' g (Am.new n) q r s t:=by
 have i:∀k,w.heap.size<=k->S k:=a;obtain⟨u,b,c,d,f⟩:=Bg bH;have j:∀W:World,(Instr.makeSlice 158 (.int .i64 (n:Int)) (.int .i64 (n:Int))).run prog W=
   .ok (.slice (some ⟨W.heap.size,0,none⟩) n n) (W.alloc (.cells ((List.replicate n (⟨0,0,0⟩:Qi)).flatMap EP).toArray 185)):=by
  intro W;have h:=WZ (P:=prog) W 158 185 u _ underlying158 b c .i64 .i64 (n:Int) (n:Int) (by omega) (by omega) (by rw[f];omega) (by omega);rw[d,As]at h;have e:(Value.agg #[.int .i64 0,.int .i64 0,.int .i64 0]).cells=(EP ⟨0,0,0⟩).toArray:=rfl;rw[e,VU EP 3 (λ_=>rfl) (by omega)]at h;exact h
 have l:∀W:World,(Instr.makeSlice 157 (.int .i64 1) (.int .i64 1)).run prog W= .ok (.slice (some ⟨W.heap.size,0,none⟩) 1 1) (W.alloc (.cells (D8 ⟨0,0,0,0,0⟩).toArray 163)):=λW=>by kernel_rfl
 have v:=@nF prog;generalize m:((List.replicate n (⟨0,0,0⟩:Qi)).flatMap EP)=E at j;generalize o:D8 ⟨0,0,0,0,0⟩=N at l;obtain⟨x,y⟩:=zq2 m o;clear m o b c d f;go_enter func51,ntmps51;go_wp2;go_region
 go_goals
 all_goals
  go_wp2;go_ret;refine⟨_,rfl,?_,?_⟩
  ·repeat' first|with_reducible exact Ac.refl _ _|with_reducible refine Ac.drew ?_|with_reducible refine Ac.alloc ?_ (i _ (by simp<;>omega)) _
  ·refine BL.fresh p (AF.drew (AF.fN _ _ (by simp))) ?_ ?_ ?_ (a _ (by omega)) (a _ (by omega)) (a _ (by omega)) (a _ (by omega))
   ·rw[y.out]
    repeat' first|with_reducible exact AF.fN _ _ (by simp)|with_reducible refine AF.drew ?_|with_reducible refine AF.alloc ?_ _
   ·rw[x.out]
    repeat' first|with_reducible exact AF.fN _ _ (by simp)|with_reducible refine AF.drew ?_|with_reducible refine AF.alloc ?_ _
   ·repeat' first|with_reducible exact BR.fN _ (by simp)|with_reducible refine BR.drew ?_|with_reducible refine BR.alloc ?_ _
end
section
variable {S:Nat->Prop}{P:Program}{w:World}{ops:Array Oper}{o:Oper}{a:Act}
theorem EL {K:Act->World->Prop}{Q:Exit->Act->World->Prop}{E:Prop}{e:TypeId}{i:TypeInfo}{z:Value}{size bytes:Nat}{t:TypeId}(N:P.underlying t=some (.slice e)) (O:P.info? e=some i) (R:i.zero=some z)
  (q:i.size=size) (C:i.bytes=bytes) (D:z.cells.size=size) (F:0<size) {v:Value} {n:Nat} {xs:List Value} (h:Sl S w e size v n xs) (T:S w.heap.size)
  (G:o.guard=none) (s x:Operand) (U:o.op= .call {callee:=.builtin .append,args:=#[s,x],argTypes:=#[t,t]}) (V:a.eval s=v)
  (H:Addr) (m c:Nat) (d:List Value) (W:a.eval x= .slice (some H) m c) (X:d.length=m*size) (r:∀j u,d[j]?=some u->w.cell? (H.add j)=some u) (Y:∀u∈d,u.oneCell'=true)
  (I:n+m<=maxLen) (f:(n+m)*bytes<=140737488355328) (A:0<m)
  (Z:∀g l w',Sl S w' e size (.slice (some ⟨g,0,none⟩) (n+m) l) (n+m) (xs++d)->Ac (λb=>v.ownBlock=some b\/w.heap.size<=b) w w'->(v.ownBlock=some g\/g=w.heap.size)->
   K (a.put o.dst (.slice (some ⟨g,0,none⟩) (n+m) l)) w'):if Region.wanted o (yielded ops a.tmps)=true then Oper.wp P o a w K Q else E:=by
 refine step_append_lies w G s x t U 0 e i z size bytes N O R q C D F v n xs V h.1 H m c d W X r Y A I f (AM _) w.heap.size rfl λg l w' h2 B y h5=>?_;refine Z g l w' ⟨h2,λg' p=>?_⟩ ?_ y
 ·injection p with p;simp only at p;subst p;rcases y with y|y
  ·exact h.2 _ y
  ·rw[y];exact T
 ·refine⟨B.os,B.tape,B.output,B.size,λk M=>?_⟩;rcases Be k w.heap.size with J|L
  ·exact B.block k J (λe=>M (.inl e.symm))
  ·exact absurd (.inr L) M
end
end Go.Proofs.YtodkkholbjeioaaGreatDoor.Ev
