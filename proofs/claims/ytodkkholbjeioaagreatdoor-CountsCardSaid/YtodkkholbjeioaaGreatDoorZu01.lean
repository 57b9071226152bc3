/- Lemmas for a law's walk. Conditions: none. -/
import Derived.Test.YtodkkholbjeioaaGreatDoorZu00
set_option linter.all false
set_option maxRecDepth 100000
set_option maxHeartbeats 8000000
namespace Go.Proofs.YtodkkholbjeioaaGreatDoor.Ev
open _root_.Go.Proofs.Tryz
open Go Go.RowKit
structure Ac (S:Nat->Prop) (w w':World):Prop where
 os:w'.os=w.os
 tape:w'.tape=w.tape
 output:w'.output=w.output
 size:w.heap.size<=w'.heap.size
 block:∀k,¬S k->w'.heap[k]?=w.heap[k]?
def Up (S:Nat->Prop) (w:World):Prop:=∀k,w.heap.size<=k->S k
section
variable {S S':Nat->Prop}{w w' bI:World}
theorem Ac.refl (S:Nat->Prop) (w:World):Ac S w w:=⟨rfl,rfl,rfl,Ab _,λ_ _=>rfl⟩
theorem zAr {S:Nat->Prop}{w:World}:Ac S w w:=Ac.refl S w
theorem Ac.trans (h:Ac S w w') (k:Ac S w' bI):Ac S w bI:=
 ⟨k.os.trans h.os,k.tape.trans h.tape,k.output.trans h.output,Ad h.size k.size,λi a=>(k.block i a).trans (h.block i a)⟩
theorem Ac.mono (h:Ac S w w') (a:∀k,S k->S' k):Ac S' w w':=⟨h.os,h.tape,h.output,h.size,λk c=>h.block k (λx=>c (a k x))⟩
theorem Up.kept (h:Up S w) (k:Ac S' w w'):Up S w':=λi a=>h i (Ad k.size a)
theorem Ac.drew (h:Ac S w w'):Ac S w w'.drew:=⟨h.os,h.tape,h.output,h.size,h.block⟩
theorem Ac.drewN (h:Ac S w w') (n:Nat):Ac S w (w'.drewN n):=⟨h.os,h.tape,h.output,h.size,h.block⟩
theorem Ac.alloc (h:Ac S w w') (a:S w'.heap.size) (o:Obj):Ac S w (w'.alloc o):=
 h.trans ⟨rfl,rfl,rfl,by simp,λk c=>by
  show(w'.heap.push o)[k]?=_;rw[Array.getElem?_push,Ai (by rintro rfl;exact c a)]⟩
theorem Ac.setCell (h:Ac S w w') {p:Addr}(a:S p.block) (u:Value):Ac S w (w'.setCell p u):=
 h.trans ⟨rfl,rfl,rfl,by simp[World.setCell],λk c=>F8 _ _ _ _ (λe=>c (e▸a))⟩
theorem Ac.one (w:World) (p:Addr) (u:Value):Ac (λb=>b=p.block) w (w.setCell p u):=Ac.setCell (S:=λb=>b=p.block) (Ac.refl _ w) rfl u
theorem Ac.cell (h:Ac S w w') {p:Addr}(a:¬S p.block):w'.cell? p=w.cell? p:=World.cell?_of_block (w:=w) (h.block p.block a)
theorem Ac.frozen (h:Ac S w w') {p:Addr}(a:¬S p.block):w'.frozen? p=w.frozen? p:=World.frozen?_of_block (w:=w) (h.block p.block a)
theorem Ac.below {B:Nat}(h:Ac S w w') (a:∀k,S k->B<=k):Below B w w':=⟨h.os,h.tape,h.output,h.size,λk c=>h.block k (λx=>by have:=a k x;omega)⟩
theorem Ac.dF {B:Nat}(h:Below B w w') (c:∀k,B<=k->S k):Ac S w w':=⟨h.os,h.tape,h.output,h.size,λk d=>h.block k (by
 rcases Be k B with a|a
 ·exact a
 ·exact absurd (c k a) d)⟩
end
theorem Du {P:Program}{id:Nat}{Q:Exit->Act->World->Prop}{a:Act}{w:World}{l:List Oper}(n:Nat) (c:P.follows .mixedOrders=true) (d:Region.lexTailB .any l.toArray n=true)
  (h:wpStill P l.toArray w.drew (λe=>wpList P l.toArray Q (l.drop n) e w.drew) (l.take n) a):(Code.region id l.toArray true).wp P Q a w:=wp_region_still_tail n c d h
theorem C4 (w:World) (n:Nat) (a:Addr) (v:Value):(w.drewN n).setCell a v=(w.setCell a v).drewN n:=rfl
theorem Gb (w:World) (n:Nat) (o:Obj):(w.drewN n).alloc o=(w.alloc o).drewN n:=rfl
theorem Dy (w:World) (a:Addr) (v:Value):w.drew.setCell a v=(w.setCell a v).drew:=rfl
theorem Hn (w:World) (o:Obj):w.drew.alloc o=(w.alloc o).drew:=rfl
def AF (w:World) (g:Nat) (t:TypeId) (cs:List Value):Prop:=w.heap[g]?=some (.cells cs.toArray t (0,0))
section
variable {S:Nat->Prop}{w w':World}{g g':Nat}{t t':TypeId}{cs be:List Value}
theorem AF.lt (h:AF w g t cs):g<w.heap.size:=by
 rcases Be g w.heap.size with a|c
 ·exact a
 ·unfold AF at h;rw[Cj c]at h;cases h
theorem AF.cell (h:AF w g t cs) (i:Nat):w.cell? ⟨g,i,none⟩=cs[i]?:=(cell_of_row w g i cs.toArray t (0,0) h).trans (by simp)
theorem AF.frozen (h:AF w g t cs) (i:Nat):w.frozen? ⟨g,i,none⟩=false:=by unfold AF at h;simp[World.frozen?,h]
theorem AF.new (w:World) (t:TypeId) (cs:List Value):AF (w.alloc (.cells cs.toArray t)) w.heap.size t cs:=P7 w _
theorem AF.drew (h:AF w g t cs):AF w.drew g t cs:=h
theorem AF.drewN (h:AF w g t cs) (n:Nat):AF (w.drewN n) g t cs:=h
theorem AF.alloc (h:AF w g t cs) (o:Obj):AF (w.alloc o) g t cs:=(FU w o g h.lt).trans h
theorem AF.bM (h:AF w g t cs) (i:Nat) (u:Value):AF (w.setCell ⟨g,i,none⟩ u) g t (cs.set i u):=by unfold AF at h ⊢;simp[World.setCell,Array.getElem?_modify,h]
theorem AF.dK (h:AF w g t cs) {p:Addr}(a:g≠p.block) (u:Value):AF (w.setCell p u) g t cs:=(F8 w p u g a).trans h
theorem AF.kept (h:AF w g t cs) (k:Ac S w w') (a:¬S g):AF w' g t cs:=(k.block g a).trans h
theorem AF.cZ (h:AF w g t cs) (a:AF w g' t' be) (c:t≠t'):g≠g':=by rintro rfl;unfold AF at h a;rw[h]at a;injection a with a;injection a with _ d;exact c d
end
abbrev G5:=List (Int×Value)
def FX (M:G5) (x:Int):Option Value:=(M.find? (λy=>y.1==x)).map (·.2)
def Ut (M:G5) (x:Int) (v:Value):G5:=if(FX M x).isSome then M.map (λy=>if y.1==x then(x,v)else y)else M++[(x,v)]
def br (M:G5) (x:Int):G5:=M.eraseP (λy=>y.1==x)
def BR (w:World) (b:Nat) (k:IntKind) (M:G5):Prop:=
 ∃c a,w.heap[b]?=some (.map c a)/\c.toList.map (λe=>(e.key,e.val))=M.map (λx=>(Value.int k x.1,x.2))/\
  (∀e∈c.toList,e.born<a)/\(c.toList.map (·.born)).Nodup/\(M.map (·.1)).Nodup
section
variable {S:Nat->Prop}{w w':World}{b:Nat}{k:IntKind}{M:G5}
theorem BR.fU (h:BR w b k M) (a:w'.heap[b]?=w.heap[b]?):BR w' b k M:=by obtain⟨d,c,e,f⟩:=h;exact⟨d,c,a.trans e,f⟩
theorem BR.kept (h:BR w b k M) (a:Ac S w w') (c:¬S b):BR w' b k M:=h.fU (a.block b c)
theorem BR.lt (h:BR w b k M):b<w.heap.size:=by
 obtain⟨f,c,e,_⟩:=h;rcases Be b w.heap.size with a|d
 ·exact a
 ·rw[Cj d]at e;cases e
theorem BR.bK (h:BR w b k M) {g:Nat}{t:TypeId}{cs:List Value}(a:AF w g t cs):b≠g:=by rintro rfl;obtain⟨e,c,d,_⟩:=h;unfold AF at a;rw[a]at d;cases d
theorem BR.new (w:World) (k:IntKind):BR (w.alloc (.map #[] 0)) w.heap.size k []:=
 ⟨#[],0,P7 w _,rfl,by simp,by simp,by simp⟩
theorem Uj (k:IntKind) (x:Int):∀(a:List MapEntry) (M:G5) (i:Nat),a.map (λe=>(e.key,e.val))=M.map (λy=>(Value.int k y.1,y.2))->
  Instr.findNow (.int k) (.int k x) a i=some ((M.findIdx? (λy=>y.1==x)).bind λj=>(M[j]?).map λy=>(i+j,y.2))
 | [],[],i,_=>rfl
 | [],_::_,_,h=>by simp at h
 |_::_,[],_,h=>by simp at h
 |e::a,y::M,i,h=>by
  simp only[BS,IZ,Jf]at h;obtain⟨⟨d,f⟩,l⟩:=h;unfold Instr.findNow;rw[d];simp only[Instr.sameNow,A7];by_cases c:x=y.1
  ·subst c;simp[Qg,f]
  ·have m:(x==y.1)=false:=by simpa using c
   have n:(y.1==x)=false:=by simpa using λe=>c e.symm
   simp only[m,Qg,n];rw[Uj k x a M (i+1) l];cases M.findIdx? (λy=>y.1==x)with
   |none=>rfl
   |some j=>simp[FH 1 j,E5]
theorem bq (M:G5) (x:Int):FX M x=(M.findIdx? (λy=>y.1==x)).bind λj=>(M[j]?).map (·.2):=by
 unfold FX
 induction M with
 |nil=>rfl
 |cons y M c=>
  by_cases a:y.1==x
  ·simp[La,Qg,a]
  ·simp only[TV]at a;simp only[La,a,Qg,c];cases M.findIdx? (λy=>y.1==x)with
   |none=>rfl
   |some j=>simp
theorem FK {P:Program}{t:TypeId}(c:P.underlying t=some (.int k)) (a:Bool) (x:Int) (w:World):(Instr.checkKey a 10000 t (.int k x)).run P w= .ok () w:=by
 have h:∀n,(Instr.checkKey a (n+1) t (.int k x)).run P w= .ok () w:=λn=>by simp only[Instr.checkKey,GO,JT c,GP];rfl
 exact h 9999
theorem KL {P:Program}{t:TypeId}(c:P.underlying t=some (.int k)) (x:Int) (a:List MapEntry) (d:a.map (λe=>(e.key,e.val))=M.map (λy=>(Value.int k y.1,y.2))) (w:World):
  (Instr.findKey t (.int k x) a).run P w= .ok ((M.findIdx? (λy=>y.1==x)).bind λj=>(M[j]?).map λy=>(j,y.2)) w:=by
 have h:=Uj k x a M 0 d;simp only[DK]at h;simp[Instr.findKey,JT c,h]
theorem Ha {P:Program}{w:World}{b:Nat}{a:Array MapEntry}{c:Nat}(h:w.heap[b]?=some (.map a c)):(getObj b).run P w= .ok (.map a c) w:=by simp[getObj,Sem.run,h]
theorem Jq {P:Program}{w:World}{b:Nat}{a:Array MapEntry}{c:Nat}(h:w.heap[b]?=some (.map a c)) (o:Obj):
  (setObj b o).run P w= .ok () {w with heap:=w.heap.setIfInBounds b o}:=by
 simp[setObj,Sem.run,h]
theorem BR.lookup {P:Program}{T K E:TypeId}(h:BR w b k M) (e:P.underlying T=some (.map K E)) (d:P.underlying K=some (.int k)) {z:Value}(f:∀w,(zeroValue E).run P w= .ok z w)
  (x:Int) (c:Bool):(Instr.lookup T (.map (some b)) (.int k x) c).run P w=
   .ok (if c then .tuple #[(FX M x).getD z,.bool (FX M x).isSome]else(FX M x).getD z) w:=by
 obtain⟨i,p,l,m,_⟩:=h;have n:=KL d x i.toList m w;rw[bq];simp only[Instr.lookup,GO,JT e,GP,Ha l,FK d,n,UG];cases o:M.findIdx? (λy=>y.1==x)with
 |none=>simp[f]
 |some j=>
  have a:j<M.length:=by obtain⟨a,_⟩:=Mh.1 o;exact a
  simp[Ae a]
end
end Go.Proofs.YtodkkholbjeioaaGreatDoor.Ev
namespace Go.Proofs.YtodkkholbjeioaaGreatDoor.Ev
open _root_.Go.Proofs.Tryz
structure Node where
 key:Int
 bI:Int
 prev:Nat
 next:Nat
 q:Int
deriving Inhabited
structure Qi where
 head:Nat
 tail:Nat
 n:Nat
deriving Inhabited
structure Am where
 l:List Node
 free:List Nat
 qs:List Qi
 at_:List (Int×Nat)
def Am.idx (A:Am) (key:Int):Option Nat:=(A.at_.find? (λy=>y.1==key)).map (·.2)
def Am.node (A:Am) (n:Nat):Node:=(A.l[n]?).getD ⟨0,0,0,0,0⟩
def Am.ends (A:Am) (q:Nat):Qi:=(A.qs[q]?).getD ⟨0,0,0⟩
def Am.cz (A:Am) (key:Int):Int:=
 match A.idx key with
 |none=> -1
 |some n=>(A.node n).q
def Am.len (A:Am) (q:Nat):Nat:=(A.ends q).n
def Am.tail (A:Am) (q:Nat):Int:=(A.node (A.ends q).tail).key
def Am.dW (A:Am) (key:Int):Int:=
 match A.idx key with
 |none=>0
 |some n=>(A.node n).bI
def Am.setNode (A:Am) (n:Nat) (x:Node):Am:={A with l:=A.l.set n x}
def Am.bL (A:Am) (q:Nat) (x:Qi):Am:={A with qs:=A.qs.set q x}
def DV (n by_ a:Int):Int:=min (max (n+by_) 0) a
def Am.iC (A:Am) (key by_ a:Int):Am:=
 match A.idx key with
 |none=>A
 |some n=>A.setNode n {(A.node n)with bI:=DV (A.node n).bI by_ a}
def Am.bT (A:Am) (x:Node):Am:=
 if x.prev=0 then A.bL x.q.toNat {(A.ends x.q.toNat)with head:=x.next}else A.setNode x.prev {(A.node x.prev)with next:=x.next}
def Am.bU (A:Am) (x:Node):Am:=
 if x.next=0 then A.bL x.q.toNat {(A.ends x.q.toNat)with tail:=x.prev}else A.setNode x.next {(A.node x.next)with prev:=x.prev}
def Am.dR (A:Am) (x:Node):Am:=A.bL x.q.toNat {(A.ends x.q.toNat)with n:=(A.ends x.q.toNat).n-1}
def Am.unlink (A:Am) (n:Nat):Am:=((A.bT (A.node n)).bU (A.node n)).dR (A.node n)
def AW (A:Am) (n q:Nat) (a:Bool):Node:=
 {(A.node n)with q:=(q:Int),prev:=if a then(A.ends q).tail else 0,next:=if a then 0 else(A.ends q).head}
def Am.dL (A:Am) (n q:Nat) (x:Node):Am:=
 if x.prev=0 then A.bL q {(A.ends q)with head:=n}else A.setNode x.prev {(A.node x.prev)with next:=n}
def Am.link2 (A:Am) (n q:Nat) (x:Node):Am:=
 if x.next=0 then A.bL q {(A.ends q)with tail:=n}else A.setNode x.next {(A.node x.next)with prev:=n}
def Am.iG (A:Am) (q:Nat):Am:=A.bL q {(A.ends q)with n:=(A.ends q).n+1}
def Am.link (A:Am) (n q:Nat) (a:Bool):Am:=
 (((A.setNode n (AW A n q a)).dL n q (AW A n q a)).link2 n q (AW A n q a)).iG q
def Am.dN (A:Am) (key:Int) (n:Nat):Am:=
 {(A.unlink n).setNode n {((A.unlink n).node n)with q:= -1}with free:=A.free++[n],at_:=A.at_.eraseP (λy=>y.1==key)}
def Am.out (A:Am) (key:Int):Am:=
 match A.idx key with
 |none=>A
 |some n=>A.dN key n
def Am.bW (A:Am) (key:Int):Int:=
 match A.idx key with
 |none=>0
 |some n=>((A.unlink n).node n).bI
def Am.place (A:Am):Nat:=if A.free=[]then A.l.length else A.free.getLastD 0
def Am.ready (A:Am):Am:=if A.free=[]then {A with l:=A.l++[⟨0,0,0,0,0⟩]}else {A with free:=A.free.dropLast}
def Am.lQ (A:Am) (key a:Int) (q:Nat) (b:Bool):Am:=
 {(A.ready.setNode A.place ⟨key,a,0,0,0⟩)with at_:=A.at_++[(key,A.place)]}.link A.place q b
structure Am.Ok (A:Am):Prop where
 l1:0<A.l.length
 l2:A.l.length<=1000000
 node:∀(n:Nat) (x:Node),A.l[n]?=some x->x.prev<A.l.length/\x.next<A.l.length/\x.q<=A.qs.length/\0<=x.bI/\x.bI<=1000
 free:∀n∈A.free,n<A.l.length
 nA:A.free.length<=1000000
 ends:∀(q:Nat) (x:Qi),A.qs[q]?=some x->x.head<A.l.length/\x.tail<A.l.length/\x.n<=1000000
 at_:∀key n,A.idx key=some n->n<A.l.length/\0<=(A.node n).q
structure Am.fF (A:Am) (n q:Nat):Prop where
 lt:n<A.l.length
 at_:(A.node n).q=(q:Int)
 one:0<(A.ends q).n
 ql:q<A.qs.length
structure Am.jR (A:Am) (key bI:Int) (q:Nat):Prop where
 none_:A.idx key=none
 lt:q<A.qs.length
 bI:0<=bI/\bI<=1000
 room:A.l.length<1000000
 place:A.place≠0/\(A.ends q).head≠A.place/\(A.ends q).tail≠A.place
def dM (A:Am):Nat->List Nat->Prop
 |h,[]=>h=0
 |h,n::r=>h=n/\n≠0/\n<A.l.length/\dM A (A.node n).next r
end Go.Proofs.YtodkkholbjeioaaGreatDoor.Ev
