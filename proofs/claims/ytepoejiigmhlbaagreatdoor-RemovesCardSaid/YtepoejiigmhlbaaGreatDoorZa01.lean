/- Lemmas for a law's walk. Conditions: none. -/
import Derived.Test.YtepoejiigmhlbaaGreatDoorZa00
set_option linter.all false
set_option maxRecDepth 100000
set_option maxHeartbeats 8000000
namespace Go.Proofs.YtepoejiigmhlbaaGreatDoor.Ev
open _root_.Go.Proofs.Tryz
open Go Go.RowKit
structure Ac (S:Nat->Prop) (w w':World):Prop where
 os:w'.os=w.os
 tape:w'.tape=w.tape
 output:w'.output=w.output
 size:w.heap.size<=w'.heap.size
 block:∀k,¬S k->w'.heap[k]?=w.heap[k]?
def Up (S:Nat->Prop) (w:World):Prop:=∀k,w.heap.size<=k->S k
section
variable {S S':Nat->Prop}{w w' ba:World}
theorem Ac.refl (S:Nat->Prop) (w:World):Ac S w w:=⟨rfl,rfl,rfl,Ab _,λ_ _=>rfl⟩
theorem zAr {S:Nat->Prop}{w:World}:Ac S w w:=Ac.refl S w
theorem Ac.trans (h:Ac S w w') (k:Ac S w' ba):Ac S w ba:=
 ⟨k.os.trans h.os,k.tape.trans h.tape,k.output.trans h.output,Ad h.size k.size,λi a=>(k.block i a).trans (h.block i a)⟩
theorem Ac.mono (h:Ac S w w') (a:∀k,S k->S' k):Ac S' w w':=⟨h.os,h.tape,h.output,h.size,λk c=>h.block k (λx=>c (a k x))⟩
theorem Up.kept (h:Up S w) (k:Ac S' w w'):Up S w':=λi a=>h i (Ad k.size a)
theorem Ac.drew (h:Ac S w w'):Ac S w w'.drew:=⟨h.os,h.tape,h.output,h.size,h.block⟩
theorem Ac.drewN (h:Ac S w w') (n:Nat):Ac S w (w'.drewN n):=⟨h.os,h.tape,h.output,h.size,h.block⟩
theorem Ac.alloc (h:Ac S w w') (a:S w'.heap.size) (o:Obj):Ac S w (w'.alloc o):=
 h.trans ⟨rfl,rfl,rfl,by simp,λk c=>by
  show(w'.heap.push o)[k]?=_;rw[Array.getElem?_push,Ai (by rintro rfl;exact c a)]⟩
theorem Ac.setCell (h:Ac S w w') {p:Addr}(a:S p.block) (u:Value):Ac S w (w'.setCell p u):=
 h.trans ⟨rfl,rfl,rfl,by simp[World.setCell],λk c=>FY _ _ _ _ (λe=>c (e▸a))⟩
theorem Ac.one (w:World) (p:Addr) (u:Value):Ac (λb=>b=p.block) w (w.setCell p u):=Ac.setCell (S:=λb=>b=p.block) (Ac.refl _ w) rfl u
theorem Ac.cell (h:Ac S w w') {p:Addr}(a:¬S p.block):w'.cell? p=w.cell? p:=World.cell?_of_block (w:=w) (h.block p.block a)
theorem Ac.frozen (h:Ac S w w') {p:Addr}(a:¬S p.block):w'.frozen? p=w.frozen? p:=World.frozen?_of_block (w:=w) (h.block p.block a)
theorem Ac.below {B:Nat}(h:Ac S w w') (a:∀k,S k->B<=k):Below B w w':=⟨h.os,h.tape,h.output,h.size,λk c=>h.block k (λx=>by have:=a k x;omega)⟩
theorem Ac.cY {B:Nat}(h:Below B w w') (c:∀k,B<=k->S k):Ac S w w':=⟨h.os,h.tape,h.output,h.size,λk d=>h.block k (by
 rcases Be k B with a|a
 ·exact a
 ·exact absurd (c k a) d)⟩
end
theorem Ds {P:Program}{id:Nat}{Q:Exit->Act->World->Prop}{a:Act}{w:World}{l:List Oper}(n:Nat) (c:P.follows .mixedOrders=true) (d:Region.lexTailB .any l.toArray n=true)
  (h:wpStill P l.toArray w.drew (λe=>wpList P l.toArray Q (l.drop n) e w.drew) (l.take n) a):(Code.region id l.toArray true).wp P Q a w:=wp_region_still_tail n c d h
theorem C2 (w:World) (n:Nat) (a:Addr) (v:Value):(w.drewN n).setCell a v=(w.setCell a v).drewN n:=rfl
theorem F9 (w:World) (n:Nat) (o:Obj):(w.drewN n).alloc o=(w.alloc o).drewN n:=rfl
theorem Dw (w:World) (a:Addr) (v:Value):w.drew.setCell a v=(w.setCell a v).drew:=rfl
theorem Hi (w:World) (o:Obj):w.drew.alloc o=(w.alloc o).drew:=rfl
def AE (w:World) (g:Nat) (t:TypeId) (cs:List Value):Prop:=w.heap[g]?=some (.cells cs.toArray t (0,0))
section
variable {S:Nat->Prop}{w w':World}{g g':Nat}{t t':TypeId}{cs aD:List Value}
theorem AE.lt (h:AE w g t cs):g<w.heap.size:=by
 rcases Be g w.heap.size with a|c
 ·exact a
 ·unfold AE at h;rw[Ch c]at h;cases h
theorem AE.cell (h:AE w g t cs) (i:Nat):w.cell? ⟨g,i,none⟩=cs[i]?:=(cell_of_row w g i cs.toArray t (0,0) h).trans (by simp)
theorem AE.frozen (h:AE w g t cs) (i:Nat):w.frozen? ⟨g,i,none⟩=false:=by unfold AE at h;simp[World.frozen?,h]
theorem AE.new (w:World) (t:TypeId) (cs:List Value):AE (w.alloc (.cells cs.toArray t)) w.heap.size t cs:=PH w _
theorem AE.drew (h:AE w g t cs):AE w.drew g t cs:=h
theorem AE.drewN (h:AE w g t cs) (n:Nat):AE (w.drewN n) g t cs:=h
theorem AE.alloc (h:AE w g t cs) (o:Obj):AE (w.alloc o) g t cs:=(FT w o g h.lt).trans h
theorem AE.bF (h:AE w g t cs) (i:Nat) (u:Value):AE (w.setCell ⟨g,i,none⟩ u) g t (cs.set i u):=by unfold AE at h ⊢;simp[World.setCell,Array.getElem?_modify,h]
theorem AE.dc (h:AE w g t cs) {p:Addr}(a:g≠p.block) (u:Value):AE (w.setCell p u) g t cs:=(FY w p u g a).trans h
theorem AE.kept (h:AE w g t cs) (k:Ac S w w') (a:¬S g):AE w' g t cs:=(k.block g a).trans h
theorem AE.bt (h:AE w g t cs) (a:AE w g' t' aD) (c:t≠t'):g≠g':=by rintro rfl;unfold AE at h a;rw[h]at a;injection a with a;injection a with _ d;exact c d
end
abbrev GZ:=List (Int×Value)
def FV (M:GZ) (x:Int):Option Value:=(M.find? (λy=>y.1==x)).map (·.2)
def T1 (M:GZ) (x:Int) (v:Value):GZ:=if(FV M x).isSome then M.map (λy=>if y.1==x then(x,v)else y)else M++[(x,v)]
def aO (M:GZ) (x:Int):GZ:=M.eraseP (λy=>y.1==x)
def BQ (w:World) (b:Nat) (k:IntKind) (M:GZ):Prop:=
 ∃c a,w.heap[b]?=some (.map c a)/\c.toList.map (λe=>(e.key,e.val))=M.map (λx=>(Value.int k x.1,x.2))/\
  (∀e∈c.toList,e.born<a)/\(c.toList.map (·.born)).Nodup/\(M.map (·.1)).Nodup
section
variable {S:Nat->Prop}{w w':World}{b:Nat}{k:IntKind}{M:GZ}
theorem BQ.fo (h:BQ w b k M) (a:w'.heap[b]?=w.heap[b]?):BQ w' b k M:=by obtain⟨d,c,e,f⟩:=h;exact⟨d,c,a.trans e,f⟩
theorem BQ.kept (h:BQ w b k M) (a:Ac S w w') (c:¬S b):BQ w' b k M:=h.fo (a.block b c)
theorem BQ.lt (h:BQ w b k M):b<w.heap.size:=by
 obtain⟨f,c,e,_⟩:=h;rcases Be b w.heap.size with a|d
 ·exact a
 ·rw[Ch d]at e;cases e
theorem BQ.bD (h:BQ w b k M) {g:Nat}{t:TypeId}{cs:List Value}(a:AE w g t cs):b≠g:=by rintro rfl;obtain⟨e,c,d,_⟩:=h;unfold AE at a;rw[a]at d;cases d
theorem BQ.new (w:World) (k:IntKind):BQ (w.alloc (.map #[] 0)) w.heap.size k []:=
 ⟨#[],0,PH w _,rfl,by simp,by simp,by simp⟩
theorem TU (k:IntKind) (x:Int):∀(a:List MapEntry) (M:GZ) (i:Nat),a.map (λe=>(e.key,e.val))=M.map (λy=>(Value.int k y.1,y.2))->
  Instr.findNow (.int k) (.int k x) a i=some ((M.findIdx? (λy=>y.1==x)).bind λj=>(M[j]?).map λy=>(i+j,y.2))
 | [],[],i,_=>rfl
 | [],_::_,_,h=>by simp at h
 |_::_,[],_,h=>by simp at h
 |e::a,y::M,i,h=>by
  simp only[BR,IN,Sv]at h;obtain⟨⟨d,f⟩,l⟩:=h;unfold Instr.findNow;rw[d];simp only[Instr.sameNow,A6];by_cases c:x=y.1
  ·subst c;simp[PR,f]
  ·have m:(x==y.1)=false:=by simpa using c
   have n:(y.1==x)=false:=by simpa using λe=>c e.symm
   simp only[m,PR,n];rw[TU k x a M (i+1) l];cases M.findIdx? (λy=>y.1==x)with
   |none=>rfl
   |some j=>simp[FA 1 j,EU]
theorem aN (M:GZ) (x:Int):FV M x=(M.findIdx? (λy=>y.1==x)).bind λj=>(M[j]?).map (·.2):=by
 unfold FV
 induction M with
 |nil=>rfl
 |cons y M c=>
  by_cases a:y.1==x
  ·simp[KM,PR,a]
  ·simp only[Ts]at a;simp only[KM,a,PR,c];cases M.findIdx? (λy=>y.1==x)with
   |none=>rfl
   |some j=>simp
theorem FH {P:Program}{t:TypeId}(c:P.underlying t=some (.int k)) (a:Bool) (x:Int) (w:World):(Instr.checkKey a 10000 t (.int k x)).run P w= .ok () w:=by
 have h:∀n,(Instr.checkKey a (n+1) t (.int k x)).run P w= .ok () w:=λn=>by simp only[Instr.checkKey,GL,JJ c,GM];rfl
 exact h 9999
theorem Kt {P:Program}{t:TypeId}(c:P.underlying t=some (.int k)) (x:Int) (a:List MapEntry) (d:a.map (λe=>(e.key,e.val))=M.map (λy=>(Value.int k y.1,y.2))) (w:World):
  (Instr.findKey t (.int k x) a).run P w= .ok ((M.findIdx? (λy=>y.1==x)).bind λj=>(M[j]?).map λy=>(j,y.2)) w:=by
 have h:=TU k x a M 0 d;simp only[DH]at h;simp[Instr.findKey,JJ c,h]
theorem G6 {P:Program}{w:World}{b:Nat}{a:Array MapEntry}{c:Nat}(h:w.heap[b]?=some (.map a c)):(getObj b).run P w= .ok (.map a c) w:=by simp[getObj,Sem.run,h]
theorem Jh {P:Program}{w:World}{b:Nat}{a:Array MapEntry}{c:Nat}(h:w.heap[b]?=some (.map a c)) (o:Obj):
  (setObj b o).run P w= .ok () {w with heap:=w.heap.setIfInBounds b o}:=by
 simp[setObj,Sem.run,h]
theorem BQ.lookup {P:Program}{T K E:TypeId}(h:BQ w b k M) (e:P.underlying T=some (.map K E)) (d:P.underlying K=some (.int k)) {z:Value}(f:∀w,(zeroValue E).run P w= .ok z w)
  (x:Int) (c:Bool):(Instr.lookup T (.map (some b)) (.int k x) c).run P w=
   .ok (if c then .tuple #[(FV M x).getD z,.bool (FV M x).isSome]else(FV M x).getD z) w:=by
 obtain⟨i,p,l,m,_⟩:=h;have n:=Kt d x i.toList m w;rw[aN];simp only[Instr.lookup,GL,JJ e,GM,G6 l,FH d,n,Ue];cases o:M.findIdx? (λy=>y.1==x)with
 |none=>simp[f]
 |some j=>
  have a:j<M.length:=by obtain⟨a,_⟩:=L4.1 o;exact a
  simp[Ae a]
end
end Go.Proofs.YtepoejiigmhlbaaGreatDoor.Ev
namespace Go.Proofs.YtepoejiigmhlbaaGreatDoor.Ev
open _root_.Go.Proofs.Tryz
structure Node where
 key:Int
 aD:Int
 prev:Nat
 next:Nat
 q:Int
deriving Inhabited
structure PU where
 head:Nat
 tail:Nat
 n:Nat
deriving Inhabited
structure Am where
 l:List Node
 free:List Nat
 qs:List PU
 at_:List (Int×Nat)
def Am.idx (A:Am) (key:Int):Option Nat:=(A.at_.find? (λy=>y.1==key)).map (·.2)
def Am.node (A:Am) (n:Nat):Node:=(A.l[n]?).getD ⟨0,0,0,0,0⟩
def Am.ends (A:Am) (q:Nat):PU:=(A.qs[q]?).getD ⟨0,0,0⟩
def Am.cX (A:Am) (key:Int):Int:=
 match A.idx key with
 |none=> -1
 |some n=>(A.node n).q
def Am.len (A:Am) (q:Nat):Nat:=(A.ends q).n
def Am.tail (A:Am) (q:Nat):Int:=(A.node (A.ends q).tail).key
def Am.eF (A:Am) (key:Int):Int:=
 match A.idx key with
 |none=>0
 |some n=>(A.node n).aD
def Am.setNode (A:Am) (n:Nat) (x:Node):Am:={A with l:=A.l.set n x}
def Am.bE (A:Am) (q:Nat) (x:PU):Am:={A with qs:=A.qs.set q x}
def DS (n by_ a:Int):Int:=min (max (n+by_) 0) a
def Am.hI (A:Am) (key by_ a:Int):Am:=
 match A.idx key with
 |none=>A
 |some n=>A.setNode n {(A.node n)with aD:=DS (A.node n).aD by_ a}
def Am.bh (A:Am) (x:Node):Am:=
 if x.prev=0 then A.bE x.q.toNat {(A.ends x.q.toNat)with head:=x.next}else A.setNode x.prev {(A.node x.prev)with next:=x.next}
def Am.bj (A:Am) (x:Node):Am:=
 if x.next=0 then A.bE x.q.toNat {(A.ends x.q.toNat)with tail:=x.prev}else A.setNode x.next {(A.node x.next)with prev:=x.prev}
def Am.dt (A:Am) (x:Node):Am:=A.bE x.q.toNat {(A.ends x.q.toNat)with n:=(A.ends x.q.toNat).n-1}
def Am.unlink (A:Am) (n:Nat):Am:=((A.bh (A.node n)).bj (A.node n)).dt (A.node n)
def AU (A:Am) (n q:Nat) (a:Bool):Node:=
 {(A.node n)with q:=(q:Int),prev:=if a then(A.ends q).tail else 0,next:=if a then 0 else(A.ends q).head}
def Am.dh (A:Am) (n q:Nat) (x:Node):Am:=
 if x.prev=0 then A.bE q {(A.ends q)with head:=n}else A.setNode x.prev {(A.node x.prev)with next:=n}
def Am.link2 (A:Am) (n q:Nat) (x:Node):Am:=
 if x.next=0 then A.bE q {(A.ends q)with tail:=n}else A.setNode x.next {(A.node x.next)with prev:=n}
def Am.hZ (A:Am) (q:Nat):Am:=A.bE q {(A.ends q)with n:=(A.ends q).n+1}
def Am.link (A:Am) (n q:Nat) (a:Bool):Am:=
 (((A.setNode n (AU A n q a)).dh n q (AU A n q a)).link2 n q (AU A n q a)).hZ q
def Am.di (A:Am) (key:Int) (n:Nat):Am:=
 {(A.unlink n).setNode n {((A.unlink n).node n)with q:= -1}with free:=A.free++[n],at_:=A.at_.eraseP (λy=>y.1==key)}
def Am.out (A:Am) (key:Int):Am:=
 match A.idx key with
 |none=>A
 |some n=>A.di key n
def Am.bo (A:Am) (key:Int):Int:=
 match A.idx key with
 |none=>0
 |some n=>((A.unlink n).node n).aD
def Am.place (A:Am):Nat:=if A.free=[]then A.l.length else A.free.getLastD 0
def Am.ready (A:Am):Am:=if A.free=[]then {A with l:=A.l++[⟨0,0,0,0,0⟩]}else {A with free:=A.free.dropLast}
def Am.lK (A:Am) (key a:Int) (q:Nat) (b:Bool):Am:=
 {(A.ready.setNode A.place ⟨key,a,0,0,0⟩)with at_:=A.at_++[(key,A.place)]}.link A.place q b
structure Am.Ok (A:Am):Prop where
 l1:0<A.l.length
 l2:A.l.length<=1000000
 node:∀(n:Nat) (x:Node),A.l[n]?=some x->x.prev<A.l.length/\x.next<A.l.length/\x.q<=A.qs.length/\0<=x.aD/\x.aD<=1000
 free:∀n∈A.free,n<A.l.length
 mT:A.free.length<=1000000
 ends:∀(q:Nat) (x:PU),A.qs[q]?=some x->x.head<A.l.length/\x.tail<A.l.length/\x.n<=1000000
 at_:∀key n,A.idx key=some n->n<A.l.length/\0<=(A.node n).q
structure Am.eX (A:Am) (n q:Nat):Prop where
 lt:n<A.l.length
 at_:(A.node n).q=(q:Int)
 one:0<(A.ends q).n
 ql:q<A.qs.length
structure Am.ie (A:Am) (key aD:Int) (q:Nat):Prop where
 none_:A.idx key=none
 lt:q<A.qs.length
 aD:0<=aD/\aD<=1000
 room:A.l.length<1000000
 place:A.place≠0/\(A.ends q).head≠A.place/\(A.ends q).tail≠A.place
def dd (A:Am):Nat->List Nat->Prop
 |h,[]=>h=0
 |h,n::r=>h=n/\n≠0/\n<A.l.length/\dd A (A.node n).next r
end Go.Proofs.YtepoejiigmhlbaaGreatDoor.Ev
