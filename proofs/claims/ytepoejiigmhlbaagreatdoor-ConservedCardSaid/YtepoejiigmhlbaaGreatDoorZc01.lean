/- Lemmas for a law's walk. Conditions: none. -/
import Derived.WalkKit
import Derived.Deep.Draws
import Derived.Lib.Hide
import Derived.MapKept
import Derived.StillTailTactics
import Derived.Test.YtepoejiigmhlbaaGreatDoorProg
import Derived.Deep.QuietTactic
import Derived.BigQuiet
import Derived.RegionTactic
import Derived.Deep.DeepCutAuto
import Derived.Maps.OwnSet
import Derived.Maps.RangeWalk
import Derived.Maps.AppendAt
import Derived.Deep.DeepMust
import Derived.Laws.MakeOwn
import Derived.Deep.AppendLies
import Derived.Deep.RegionHeld3
import Derived.Deep.RegionLaw
set_option linter.all false
namespace Go.Proofs.YtepoejiigmhlbaaGreatDoor.Ev
open Go Go.RowKit
structure Kept (S:Nat→Prop) (w w':World):Prop where
 os:w'.os=w.os
 tape:w'.tape=w.tape
 output:w'.output=w.output
 size:w.heap.size≤w'.heap.size
 block:∀k,¬S k→w'.heap[k]?=w.heap[k]?
def Up (S:Nat→Prop) (w:World):Prop:=∀k,w.heap.size≤k→S k
section
variable {S S':Nat→Prop} {w w' w'':World}
theorem Kept.refl (S:Nat→Prop) (w:World):Kept S w w:=⟨rfl,rfl,rfl,Nat.le_refl _,fun _ _=>rfl⟩
theorem Kept.trans (h:Kept S w w') (k:Kept S w' w''):Kept S w w'':=
 ⟨k.os.trans h.os,k.tape.trans h.tape,k.output.trans h.output,Nat.le_trans h.size k.size,fun i hi=>(k.block i hi).trans (h.block i hi)⟩
theorem Kept.mono (h:Kept S w w') (hS:∀k,S k→S' k):Kept S' w w':=⟨h.os,h.tape,h.output,h.size,fun k hk=>h.block k (fun x=>hk (hS k x))⟩
theorem Up.kept (h:Up S w) (k:Kept S' w w'):Up S w':=fun i hi=>h i (Nat.le_trans k.size hi)
theorem Kept.drew (h:Kept S w w'):Kept S w w'.drew:=⟨h.os,h.tape,h.output,h.size,h.block⟩
theorem Kept.drewN (h:Kept S w w') (n:Nat):Kept S w (w'.drewN n):=⟨h.os,h.tape,h.output,h.size,h.block⟩
theorem Kept.alloc (h:Kept S w w') (hS:S w'.heap.size) (o:Obj):Kept S w (w'.alloc o):=
 h.trans ⟨rfl,rfl,rfl,by simp,fun k hk=>by
  show(w'.heap.push o)[k]?=_
  rw[Array.getElem?_push,if_neg (by rintro rfl;exact hk hS)]⟩
theorem Kept.setCell (h:Kept S w w') {p:Addr} (hp:S p.block) (u:Value):Kept S w (w'.setCell p u):=
 h.trans ⟨rfl,rfl,rfl,by simp[World.setCell],fun k hk=>Below.heap_setCell _ _ _ _ (fun e=>hk (e▸hp))⟩
theorem Kept.one (w:World) (p:Addr) (u:Value):Kept (fun b=>b=p.block) w (w.setCell p u):=Kept.setCell (S:=fun b=>b=p.block) (Kept.refl _ w) rfl u
theorem Kept.cell (h:Kept S w w') {p:Addr} (hp:¬S p.block):w'.cell? p=w.cell? p:=World.cell?_of_block (w:=w) (h.block p.block hp)
theorem Kept.frozen (h:Kept S w w') {p:Addr} (hp:¬S p.block):w'.frozen? p=w.frozen? p:=World.frozen?_of_block (w:=w) (h.block p.block hp)
theorem Kept.below {B:Nat} (h:Kept S w w') (hS:∀k,S k→B≤k):Below B w w':=⟨h.os,h.tape,h.output,h.size,fun k hk=>h.block k (fun x=>by have:=hS k x;omega)⟩
theorem Kept.of_below {B:Nat} (h:Below B w w') (hS:∀k,B≤k→S k):Kept S w w':=⟨h.os,h.tape,h.output,h.size,fun k hk=>h.block k (by
 rcases Nat.lt_or_ge k B with h1|h1
 ·exact h1
 ·exact absurd (hS k h1) hk)⟩
end
theorem wp_tail {P:Program} {id:Nat} {Q:Exit→Act→World→Prop} {a:Act} {w:World} {l:List Oper} (n:Nat) (hm:P.follows .mixedOrders=true) (hB:Region.lexTailB .any l.toArray n=true)
  (h:wpStill P l.toArray w.drew (fun a'=>wpList P l.toArray Q (l.drop n) a' w.drew) (l.take n) a):(Code.region id l.toArray true).wp P Q a w:=wp_region_still_tail n hm hB h
theorem drewN_setCell (w:World) (n:Nat) (a:Addr) (v:Value):(w.drewN n).setCell a v=(w.setCell a v).drewN n:=rfl
theorem drewN_alloc (w:World) (n:Nat) (o:Obj):(w.drewN n).alloc o=(w.alloc o).drewN n:=rfl
theorem drew_setCell (w:World) (a:Addr) (v:Value):w.drew.setCell a v=(w.setCell a v).drew:=rfl
theorem drew_alloc (w:World) (o:Obj):w.drew.alloc o=(w.alloc o).drew:=rfl
def Row (w:World) (g:Nat) (t:TypeId) (cs:List Value):Prop:=w.heap[g]?=some (.cells cs.toArray t (0,0))
section
variable {S:Nat→Prop} {w w':World} {g g':Nat} {t t':TypeId} {cs cs':List Value}
theorem Row.lt (h:Row w g t cs):g<w.heap.size:=by
 rcases Nat.lt_or_ge g w.heap.size with hlt|hge
 ·exact hlt
 ·unfold Row at h;rw[Array.getElem?_eq_none hge]at h;cases h
theorem Row.cell (h:Row w g t cs) (i:Nat):w.cell? ⟨g,i,none⟩=cs[i]?:=(cell_of_row w g i cs.toArray t (0,0) h).trans (by simp)
theorem Row.frozen (h:Row w g t cs) (i:Nat):w.frozen? ⟨g,i,none⟩=false:=by unfold Row at h;simp[World.frozen?,h]
theorem Row.new (w:World) (t:TypeId) (cs:List Value):Row (w.alloc (.cells cs.toArray t)) w.heap.size t cs:=heap_alloc_new w _
theorem Row.drew (h:Row w g t cs):Row w.drew g t cs:=h
theorem Row.drewN (h:Row w g t cs) (n:Nat):Row (w.drewN n) g t cs:=h
theorem Row.alloc (h:Row w g t cs) (o:Obj):Row (w.alloc o) g t cs:=(Below.heap_alloc w o g h.lt).trans h
theorem Row.set_ (h:Row w g t cs) (i:Nat) (u:Value):Row (w.setCell ⟨g,i,none⟩ u) g t (cs.set i u):=by
 unfold Row at h ⊢
 simp[World.setCell,Array.getElem?_modify,h]
theorem Row.far (h:Row w g t cs) {p:Addr} (hp:g≠p.block) (u:Value):Row (w.setCell p u) g t cs:=(Below.heap_setCell w p u g hp).trans h
theorem Row.kept (h:Row w g t cs) (k:Kept S w w') (hg:¬S g):Row w' g t cs:=(k.block g hg).trans h
theorem Row.ne_ (h:Row w g t cs) (h':Row w g' t' cs') (hne:t≠t'):g≠g':=by
 rintro rfl
 unfold Row at h h'
 rw[h]at h'
 injection h' with h'
 injection h' with _ ht
 exact hne ht
end
abbrev IMap:=List (Int×Value)
def mget (M:IMap) (x:Int):Option Value:=(M.find? (fun y=>y.1==x)).map (·.2)
def mput (M:IMap) (x:Int) (v:Value):IMap:=if(mget M x).isSome then M.map (fun y=>if y.1==x then(x,v)else y)else M++[(x,v)]
def mdel (M:IMap) (x:Int):IMap:=M.eraseP (fun y=>y.1==x)
def IsMap (w:World) (b:Nat) (k:IntKind) (M:IMap):Prop:=
 ∃es clock,w.heap[b]?=some (.map es clock)∧es.toList.map (fun e=>(e.key,e.val))=M.map (fun x=>(Value.int k x.1,x.2))∧
  (∀e∈es.toList,e.born<clock)∧(es.toList.map (·.born)).Nodup∧(M.map (·.1)).Nodup
section
variable {S:Nat→Prop} {w w':World} {b:Nat} {k:IntKind} {M:IMap}
theorem IsMap.of_block (h:IsMap w b k M) (hb:w'.heap[b]?=w.heap[b]?):IsMap w' b k M:=by
 obtain⟨es,c,h1,h2⟩:=h
 exact⟨es,c,hb.trans h1,h2⟩
theorem IsMap.kept (h:IsMap w b k M) (hk:Kept S w w') (hb:¬S b):IsMap w' b k M:=h.of_block (hk.block b hb)
theorem IsMap.lt (h:IsMap w b k M):b<w.heap.size:=by
 obtain⟨es,c,h1,_⟩:=h
 rcases Nat.lt_or_ge b w.heap.size with hlt|hge
 ·exact hlt
 ·rw[Array.getElem?_eq_none hge]at h1;cases h1
theorem IsMap.ne_row (h:IsMap w b k M) {g:Nat} {t:TypeId} {cs:List Value} (hr:Row w g t cs):b≠g:=by
 rintro rfl
 obtain⟨es,c,h1,_⟩:=h
 unfold Row at hr
 rw[hr]at h1
 cases h1
theorem IsMap.new (w:World) (k:IntKind):IsMap (w.alloc (.map #[] 0)) w.heap.size k []:=
 ⟨#[],0,heap_alloc_new w _,rfl,by simp,by simp,by simp⟩
theorem findNow_int (k:IntKind) (x:Int):∀(es:List MapEntry) (M:IMap) (i:Nat),es.map (fun e=>(e.key,e.val))=M.map (fun y=>(Value.int k y.1,y.2))→
  Instr.findNow (.int k) (.int k x) es i=some ((M.findIdx? (fun y=>y.1==x)).bind fun j=>(M[j]?).map fun y=>(i+j,y.2))
 | [],[],i,_=>rfl
 | [],_::_,_,h=>by simp at h
 |_::_,[],_,h=>by simp at h
 |e::es,y::M,i,h=>by
  simp only[List.map_cons,List.cons.injEq,Prod.mk.injEq]at h
  obtain⟨⟨hk,hv⟩,hr⟩:=h
  unfold Instr.findNow
  rw[hk]
  simp only[Instr.sameNow,if_true]
  by_cases hx:x=y.1
  ·subst hx
   simp[List.findIdx?_cons,hv]
  ·have h1:(x==y.1)=false:=by simpa using hx
   have h2:(y.1==x)=false:=by simpa using fun e=>hx e.symm
   simp only[h1,List.findIdx?_cons,h2]
   rw[findNow_int k x es M (i+1) hr]
   cases M.findIdx? (fun y=>y.1==x)with
   |none=>rfl
   |some j=>simp[Nat.add_comm 1 j,Nat.add_assoc]
theorem mget_idx (M:IMap) (x:Int):mget M x=(M.findIdx? (fun y=>y.1==x)).bind fun j=>(M[j]?).map (·.2):=by
 unfold mget
 induction M with
 |nil=>rfl
 |cons y M ih=>
  by_cases hx:y.1==x
  ·simp[List.find?_cons,List.findIdx?_cons,hx]
  ·simp only[Bool.not_eq_true]at hx
   simp only[List.find?_cons,hx,List.findIdx?_cons,ih]
   cases M.findIdx? (fun y=>y.1==x)with
   |none=>rfl
   |some j=>simp
theorem run_checkKey_int {P:Program} {t:TypeId} (ht:P.underlying t=some (.int k)) (em:Bool) (x:Int) (w:World):(Instr.checkKey em 10000 t (.int k x)).run P w= .ok () w:=by
 have h:∀n,(Instr.checkKey em (n+1) t (.int k x)).run P w= .ok () w:=fun n=>by simp only[Instr.checkKey,Sem.run_bind,run_underlying ht,Result.andThen_ok];rfl
 exact h 9999
theorem run_findKey_int {P:Program} {t:TypeId} (ht:P.underlying t=some (.int k)) (x:Int) (es:List MapEntry) (hM:es.map (fun e=>(e.key,e.val))=M.map (fun y=>(Value.int k y.1,y.2))) (w:World):
  (Instr.findKey t (.int k x) es).run P w= .ok ((M.findIdx? (fun y=>y.1==x)).bind fun j=>(M[j]?).map fun y=>(j,y.2)) w:=by
 have h:=findNow_int k x es M 0 hM
 simp only[Nat.zero_add]at h
 simp[Instr.findKey,run_underlying ht,h]
theorem run_getObj_map {P:Program} {w:World} {b:Nat} {es:Array MapEntry} {c:Nat} (h:w.heap[b]?=some (.map es c)):(getObj b).run P w= .ok (.map es c) w:=by
 simp[getObj,Sem.run,h]
theorem run_setObj_map {P:Program} {w:World} {b:Nat} {es:Array MapEntry} {c:Nat} (h:w.heap[b]?=some (.map es c)) (o:Obj):
  (setObj b o).run P w= .ok () {w with heap:=w.heap.setIfInBounds b o}:=by
 simp[setObj,Sem.run,h]
theorem IsMap.lookup {P:Program} {T K E:TypeId} (h:IsMap w b k M) (hT:P.underlying T=some (.map K E)) (hK:P.underlying K=some (.int k)) {z:Value} (hz:∀w,(zeroValue E).run P w= .ok z w)
  (x:Int) (c:Bool):(Instr.lookup T (.map (some b)) (.int k x) c).run P w=
   .ok (if c then .tuple #[(mget M x).getD z,.bool (mget M x).isSome]else(mget M x).getD z) w:=by
 obtain⟨es,cl,h1,h2,_⟩:=h
 have hf:=run_findKey_int hK x es.toList h2 w
 rw[mget_idx]
 simp only[Instr.lookup,Sem.run_bind,run_underlying hT,Result.andThen_ok,run_getObj_map h1,run_checkKey_int hK,hf,Sem.run_pure]
 cases hj:M.findIdx? (fun y=>y.1==x)with
 |none=>simp[hz]
 |some j=>
  have hlt:j<M.length:=by
   obtain⟨hlt,_⟩:=List.findIdx?_eq_some_iff_getElem.1 hj
   exact hlt
  simp[List.getElem?_eq_getElem hlt]
end
end Go.Proofs.YtepoejiigmhlbaaGreatDoor.Ev
namespace Go.Proofs.YtepoejiigmhlbaaGreatDoor.Ev
structure Node where
 key:Int
 freq:Int
 prev:Nat
 next:Nat
 q:Int
deriving Inhabited
structure Ends where
 head:Nat
 tail:Nat
 n:Nat
deriving Inhabited
structure Arena where
 l:List Node
 free:List Nat
 qs:List Ends
 at_:List (Int×Nat)
def Arena.idx (A:Arena) (key:Int):Option Nat:=(A.at_.find? (fun y=>y.1==key)).map (·.2)
def Arena.node (A:Arena) (n:Nat):Node:=(A.l[n]?).getD ⟨0,0,0,0,0⟩
def Arena.ends (A:Arena) (q:Nat):Ends:=(A.qs[q]?).getD ⟨0,0,0⟩
def Arena.where_ (A:Arena) (key:Int):Int:=
 match A.idx key with
 |none=> -1
 |some n=>(A.node n).q
def Arena.len (A:Arena) (q:Nat):Nat:=(A.ends q).n
def Arena.tail (A:Arena) (q:Nat):Int:=(A.node (A.ends q).tail).key
def Arena.freqOf (A:Arena) (key:Int):Int:=
 match A.idx key with
 |none=>0
 |some n=>(A.node n).freq
def Arena.setNode (A:Arena) (n:Nat) (x:Node):Arena:={A with l:=A.l.set n x}
def Arena.setEnds (A:Arena) (q:Nat) (x:Ends):Arena:={A with qs:=A.qs.set q x}
def clampUp (n by_ most:Int):Int:=min (max (n+by_) 0) most
def Arena.tune (A:Arena) (key by_ most:Int):Arena:=
 match A.idx key with
 |none=>A
 |some n=>A.setNode n {(A.node n)with freq:=clampUp (A.node n).freq by_ most}
def Arena.unlink1 (A:Arena) (x:Node):Arena:=
 if x.prev=0 then A.setEnds x.q.toNat {(A.ends x.q.toNat)with head:=x.next}else A.setNode x.prev {(A.node x.prev)with next:=x.next}
def Arena.unlink2 (A:Arena) (x:Node):Arena:=
 if x.next=0 then A.setEnds x.q.toNat {(A.ends x.q.toNat)with tail:=x.prev}else A.setNode x.next {(A.node x.next)with prev:=x.prev}
def Arena.unlink3 (A:Arena) (x:Node):Arena:=A.setEnds x.q.toNat {(A.ends x.q.toNat)with n:=(A.ends x.q.toNat).n-1}
def Arena.unlink (A:Arena) (n:Nat):Arena:=((A.unlink1 (A.node n)).unlink2 (A.node n)).unlink3 (A.node n)
def linkNode (A:Arena) (n q:Nat) (tail:Bool):Node:=
 {(A.node n)with q:=(q:Int),prev:=if tail then(A.ends q).tail else 0,next:=if tail then 0 else(A.ends q).head}
def Arena.link1 (A:Arena) (n q:Nat) (x:Node):Arena:=
 if x.prev=0 then A.setEnds q {(A.ends q)with head:=n}else A.setNode x.prev {(A.node x.prev)with next:=n}
def Arena.link2 (A:Arena) (n q:Nat) (x:Node):Arena:=
 if x.next=0 then A.setEnds q {(A.ends q)with tail:=n}else A.setNode x.next {(A.node x.next)with prev:=n}
def Arena.link3 (A:Arena) (q:Nat):Arena:=A.setEnds q {(A.ends q)with n:=(A.ends q).n+1}
def Arena.link (A:Arena) (n q:Nat) (tail:Bool):Arena:=
 (((A.setNode n (linkNode A n q tail)).link1 n q (linkNode A n q tail)).link2 n q (linkNode A n q tail)).link3 q
def Arena.outAt (A:Arena) (key:Int) (n:Nat):Arena:=
 {(A.unlink n).setNode n {((A.unlink n).node n)with q:= -1}with free:=A.free++[n],at_:=A.at_.eraseP (fun y=>y.1==key)}
def Arena.out (A:Arena) (key:Int):Arena:=
 match A.idx key with
 |none=>A
 |some n=>A.outAt key n
def Arena.outFreq (A:Arena) (key:Int):Int:=
 match A.idx key with
 |none=>0
 |some n=>((A.unlink n).node n).freq
def Arena.place (A:Arena):Nat:=if A.free=[]then A.l.length else A.free.getLastD 0
def Arena.ready (A:Arena):Arena:=if A.free=[]then {A with l:=A.l++[⟨0,0,0,0,0⟩]}else {A with free:=A.free.dropLast}
def Arena.in_ (A:Arena) (key freq:Int) (q:Nat) (tail:Bool):Arena:=
 {(A.ready.setNode A.place ⟨key,freq,0,0,0⟩)with at_:=A.at_++[(key,A.place)]}.link A.place q tail
structure Arena.Ok (A:Arena):Prop where
 l1:0<A.l.length
 l2:A.l.length≤1000000
 node:∀(n:Nat) (x:Node),A.l[n]?=some x→x.prev<A.l.length∧x.next<A.l.length∧x.q≤A.qs.length∧0≤x.freq∧x.freq≤1000
 free:∀n∈A.free,n<A.l.length
 free2:A.free.length≤1000000
 ends:∀(q:Nat) (x:Ends),A.qs[q]?=some x→x.head<A.l.length∧x.tail<A.l.length∧x.n≤1000000
 at_:∀key n,A.idx key=some n→n<A.l.length∧0≤(A.node n).q
structure Arena.CanUnlink (A:Arena) (n q:Nat):Prop where
 lt:n<A.l.length
 at_:(A.node n).q=(q:Int)
 one:0<(A.ends q).n
 ql:q<A.qs.length
structure Arena.CanIn (A:Arena) (key freq:Int) (q:Nat):Prop where
 none_:A.idx key=none
 lt:q<A.qs.length
 freq:0≤freq∧freq≤1000
 room:A.l.length<1000000
 place:A.place≠0∧(A.ends q).head≠A.place∧(A.ends q).tail≠A.place
def Chain (A:Arena):Nat→List Nat→Prop
 |h,[]=>h=0
 |h,n::r=>h=n∧n≠0∧n<A.l.length∧Chain A (A.node n).next r
end Go.Proofs.YtepoejiigmhlbaaGreatDoor.Ev
namespace Go.Proofs.YtepoejiigmhlbaaGreatDoor.Ev
open Go Go.RowKit
def encNode (x:Node):List Value:=[.int .u64 x.key,.int .i64 x.freq,.int .i64 x.prev,.int .i64 x.next,.int .i64 x.q]
def encEnds (x:Ends):List Value:=[.int .i64 x.head,.int .i64 x.tail,.int .i64 x.n]
def encInt (n:Nat):Value:=.int .i64 n
def encAt (M:List (Int×Nat)):IMap:=M.map fun x=>(x.1,.int .i64 x.2)
def Sl (S:Nat→Prop) (w:World) (e:TypeId) (size:Nat) (v:Value) (n:Nat) (xs:List Value):Prop:=
 w.ownsRow 0 e size v n xs∧∀g,v.ownBlock=some g→S g
theorem flat_get {α:Type} (f:α→List Value) (k:Nat) (hk:∀x,(f x).length=k):∀(l:List α) (i j:Nat) (x:α),l[i]?=some x→j<k→(l.flatMap f)[i*k+j]?=(f x)[j]?
 | [],i,j,x,h,_=>by simp at h
 |y::l,0,j,x,h,hj=>by
  simp only[List.getElem?_cons_zero,Option.some.injEq]at h
  subst h
  rw[List.flatMap_cons,List.getElem?_append_left (by rw[hk];omega)]
  simp
 |y::l,i+1,j,x,h,hj=>by
  simp only[List.getElem?_cons_succ]at h
  have e:(i+1)*k+j=k+(i*k+j):=by rw[Nat.add_mul];omega
  rw[List.flatMap_cons,e,List.getElem?_append_right (by rw[hk];omega),hk,Nat.add_sub_cancel_left]
  exact flat_get f k hk l i j x h hj
section
variable {S:Nat→Prop} {w w':World} {e:TypeId} {size n:Nat} {v:Value} {xs:List Value}
theorem Sl.form (h:Sl S w e size v n xs) (hn:0<n):∃g cap,v= .slice (some ⟨g,0,none⟩) n cap∧S g∧n≤cap∧cap≤maxLen∧g<w.heap.size:=by
 obtain⟨⟨_,h1⟩,h2⟩:=h
 rcases h1 with⟨_,h0⟩|⟨g,cap,cur,rfl,_,hg,h3,h4,_⟩
 ·omega
 ·exact⟨g,cap,rfl,h2 g rfl,h3,h4,Row.lt (cs:=cur.toList) (by unfold Row;simpa using hg)⟩
theorem Sl.kept (h:Sl S w e size v n xs) {S1:Nat→Prop} (hk:Kept S1 w w') (hS:∀g,v.ownBlock=some g→¬S1 g):Sl S w' e size v n xs:=by
 obtain⟨⟨h0,h1⟩,h2⟩:=h
 refine⟨⟨h0,?_⟩,h2⟩
 rcases h1 with h1|⟨g,cap,cur,rfl,hb,hg,h3⟩
 ·exact .inl h1
 ·exact .inr ⟨g,cap,cur,rfl,hb,(hk.block g (hS g rfl)).trans hg,h3⟩
theorem Sl.mono (h:Sl S w e size v n xs) {S':Nat→Prop} (hS:∀k,S k→S' k):Sl S' w e size v n xs:=⟨h.1,fun g hg=>hS g (h.2 g hg)⟩
theorem Sl.at_ {α:Type} {f:α→List Value} {l:List α} {g cap:Nat} (h:Sl S w e size (.slice (some ⟨g,0,none⟩) l.length cap) l.length (l.flatMap f)) (hk:∀x,(f x).length=size)
  {i j:Nat} {x:α} (hx:l[i]?=some x) (hj:j<size):w.cell? ⟨g,i*size+j,none⟩=(f x)[j]?:=by
 have hi:i<l.length:=(List.getElem?_eq_some_iff.1 hx).1
 have hb:i*size+j<l.length*size:=by
  have h1:(i+1)*size≤l.length*size:=Nat.mul_le_mul_right _ hi
  rw[Nat.add_mul]at h1
  omega
 exact(h.1.cellAt _ hb).trans (flat_get f size hk l i j x hx hj)
theorem Sl.frz {g cap m:Nat} (h:Sl S w e size (.slice (some ⟨g,0,none⟩) n cap) m xs) (hm:m=n) (j:Nat):w.frozen? ⟨g,j,none⟩=false:=by
 subst hm
 exact h.1.frozenAt j
theorem flat_set {α:Type} (f:α→List Value) (k:Nat) (hk:∀x,(f x).length=k):∀(l:List α) (i j:Nat) (x x':α) (u:Value),l[i]?=some x→j<k→f x'=(f x).set j u→
  (l.flatMap f).set (i*k+j) u=(l.set i x').flatMap f
 | [],i,j,x,x',u,h,_,_=>by simp at h
 |y::l,0,j,x,x',u,h,hj,he=>by
  simp only[List.getElem?_cons_zero,Option.some.injEq]at h
  subst h
  simp only[List.flatMap_cons,List.set_cons_zero,he,Nat.zero_mul,Nat.zero_add]
  rw[List.set_append_left _ _ (by rw[hk];omega)]
 |y::l,i+1,j,x,x',u,h,hj,he=>by
  simp only[List.getElem?_cons_succ]at h
  have e:(i+1)*k+j=k+(i*k+j):=by rw[Nat.add_mul];omega
  simp only[List.flatMap_cons,List.set_cons_succ]
  rw[e,List.set_append_right _ _ (by rw[hk];omega),hk,Nat.add_sub_cancel_left,flat_set f k hk l i j x x' u h hj he]
theorem Sl.set_ {α:Type} {f:α→List Value} {l:List α} {g cap:Nat} (h:Sl S w e size (.slice (some ⟨g,0,none⟩) l.length cap) l.length (l.flatMap f)) (hk:∀x,(f x).length=size)
  {i j:Nat} {x x':α} {u:Value} (hx:l[i]?=some x) (hj:j<size) (he:f x'=(f x).set j u):
  Sl S (w.setCell ⟨g,i*size+j,none⟩ u) e size (.slice (some ⟨g,0,none⟩) (l.set i x').length cap) (l.set i x').length ((l.set i x').flatMap f):=by
 have hi:i<l.length:=(List.getElem?_eq_some_iff.1 hx).1
 have hb:i*size+j<l.length*size:=by
  have h1:(i+1)*size≤l.length*size:=Nat.mul_le_mul_right _ hi
  rw[Nat.add_mul]at h1
  omega
 have hs:=h.1.stored (i*size+j) u
 rw[flat_set f size hk l i j x x' u hx hj he]at hs
 rw[List.length_set]
 exact⟨hs.1,h.2⟩
end
section
variable {S S':Nat→Prop} {w w':World} {e e' t:TypeId} {size size' n n':Nat} {v v':Value} {xs xs' cs:List Value} {g:Nat}
theorem Sl.row (h:Sl S w e size v n xs) (hg:v.ownBlock=some g):∃cs,Row w g e cs:=by
 obtain⟨_,_,cur,rfl,_,hh,_⟩:=h.1.2.resolve_left (by rintro⟨h0,_⟩;rw[h0]at hg;cases hg)
 injection hg with hg
 simp only at hg
 subst hg
 exact⟨cur.toList,by unfold Row;simpa using hh⟩
theorem Sl.ne_row (h:Sl S w e size v n xs) (hr:Row w g t cs) (hne:e≠t):v.ownBlock≠some g:=by
 intro hg
 obtain⟨cs',h1⟩:=h.row hg
 exact h1.ne_ hr hne rfl
theorem Sl.ne_sl (h:Sl S w e size v n xs) (h':Sl S' w e' size' v' n' xs') (hne:e≠e') (hg:v'.ownBlock=some g):v.ownBlock≠some g:=by
 obtain⟨cs',h1⟩:=h'.row hg
 exact h.ne_row h1 hne
theorem Sl.lt (h:Sl S w e size v n xs) (hg:v.ownBlock=some g):g<w.heap.size:=by
 obtain⟨cs',h1⟩:=h.row hg
 exact h1.lt
theorem Sl.ne_map (h:Sl S w e size v n xs) {k:IntKind} {M:IMap} (hm:IsMap w g k M):v.ownBlock≠some g:=by
 intro hg
 obtain⟨cs',h1⟩:=h.row hg
 exact hm.ne_row h1 rfl
theorem Sl.of_heap (h:Sl S w e size v n xs) (hh:w'.heap=w.heap):Sl S w' e size v n xs:=h.kept (S1:=fun _=>False) (w':={w with heap:=w'.heap}) ⟨rfl,rfl,rfl,by rw[hh];exact Nat.le_refl _,fun k _=>by rw[hh]⟩ (fun _ _ h=>h)
theorem Sl.alloc (h:Sl S w e size v n xs) (o:Obj):Sl S (w.alloc o) e size v n xs:=⟨h.1.alloc o,h.2⟩
end
structure ARep (S:Nat→Prop) (w:World) (g:Nat) (A:Arena) (vl vf vq:Value) (bm:Nat):Prop where
 row:Row w g 136 [vl,vf,vq,.map (some bm)]
 l:Sl S w 148 5 vl A.l.length (A.l.flatMap encNode)
 f:Sl S w 3 1 vf A.free.length (A.free.map encInt)
 q:Sl S w 174 3 vq A.qs.length (A.qs.flatMap encEnds)
 m:IsMap w bm .u64 (encAt A.at_)
 sg:S g
 sm:S bm
section
variable {S S':Nat→Prop} {w w':World} {g bm:Nat} {A:Arena} {vl vf vq:Value}
theorem ARep.kept (h:ARep S w g A vl vf vq bm) {S1:Nat→Prop} (hk:Kept S1 w w') (hS:∀b,S b→¬S1 b):ARep S w' g A vl vf vq bm:=
 ⟨h.row.kept hk (hS _ h.sg),h.l.kept hk (fun b hb=>hS b (h.l.2 b hb)),h.f.kept hk (fun b hb=>hS b (h.f.2 b hb)),h.q.kept hk (fun b hb=>hS b (h.q.2 b hb)),h.m.kept hk (hS _ h.sm),h.sg,h.sm⟩
theorem ARep.mono (h:ARep S w g A vl vf vq bm) (hS:∀b,S b→S' b):ARep S' w g A vl vf vq bm:=
 ⟨h.row,h.l.mono hS,h.f.mono hS,h.q.mono hS,h.m,hS _ h.sg,hS _ h.sm⟩
theorem ARep.of_heap (h:ARep S w g A vl vf vq bm) (hh:w'.heap=w.heap):ARep S w' g A vl vf vq bm:=by
 refine⟨?_,h.l.of_heap hh,h.f.of_heap hh,h.q.of_heap hh,h.m.of_block (by rw[hh]),h.sg,h.sm⟩
 have:=h.row
 unfold Row at this ⊢
 rw[hh]
 exact this
theorem ARep.alloc (h:ARep S w g A vl vf vq bm) (o:Obj):ARep S (w.alloc o) g A vl vf vq bm:=
 ⟨h.row.alloc o,h.l.alloc o,h.f.alloc o,h.q.alloc o,h.m.of_block (Below.heap_alloc w o bm h.m.lt),h.sg,h.sm⟩
theorem ARep.drew (h:ARep S w g A vl vf vq bm):ARep S w.drew g A vl vf vq bm:=h.of_heap rfl
theorem ARep.drewN (h:ARep S w g A vl vf vq bm) (n:Nat):ARep S (w.drewN n) g A vl vf vq bm:=h.of_heap rfl
theorem Arena.node_some {n:Nat} (h:n<A.l.length):A.l[n]?=some (A.node n):=by
 unfold Arena.node
 rw[List.getElem?_eq_getElem h];rfl
theorem Arena.ends_some {n:Nat} (h:n<A.qs.length):A.qs[n]?=some (A.ends n):=by
 unfold Arena.ends
 rw[List.getElem?_eq_getElem h];rfl
theorem ARep.setNode {gl cl:Nat} (h:ARep S w g A (.slice (some ⟨gl,0,none⟩) A.l.length cl) vf vq bm) {n:Nat} {x':Node} (j:Nat) {u:Value} (hn:n<A.l.length) (hj:j<5)
  (he:encNode x'=(encNode (A.node n)).set j u):
  ARep S (w.setCell ⟨gl,n*5+j,none⟩ u) g (A.setNode n x') (.slice (some ⟨gl,0,none⟩) (A.setNode n x').l.length cl) vf vq bm:=by
 have hk:Kept (fun b=>b=gl) w (w.setCell ⟨gl,n*5+j,none⟩ u):=Kept.one w ⟨gl,n*5+j,none⟩ u
 have e:(A.setNode n x').l.length=A.l.length:=List.length_set ..
 obtain⟨cs,hr⟩:=h.l.row rfl
 exact⟨by rw[e];exact h.row.kept hk (h.row.ne_ hr (by decide)),h.l.set_ (fun _=>rfl) (Arena.node_some hn) hj he,h.f.kept hk (fun b hb e=>h.f.ne_row hr (by decide) (e▸hb)),
  h.q.kept hk (fun b hb e=>h.q.ne_row hr (by decide) (e▸hb)),h.m.kept hk (fun e=>h.m.ne_row hr e),h.sg,h.sm⟩
theorem ARep.setEnds {gq cq:Nat} (h:ARep S w g A vl vf (.slice (some ⟨gq,0,none⟩) A.qs.length cq) bm) {n:Nat} {x':Ends} (j:Nat) {u:Value} (hn:n<A.qs.length) (hj:j<3)
  (he:encEnds x'=(encEnds (A.ends n)).set j u):
  ARep S (w.setCell ⟨gq,n*3+j,none⟩ u) g (A.setEnds n x') vl vf (.slice (some ⟨gq,0,none⟩) (A.setEnds n x').qs.length cq) bm:=by
 have hk:Kept (fun b=>b=gq) w (w.setCell ⟨gq,n*3+j,none⟩ u):=Kept.one w ⟨gq,n*3+j,none⟩ u
 have e:(A.setEnds n x').qs.length=A.qs.length:=List.length_set ..
 obtain⟨cs,hr⟩:=h.q.row rfl
 exact⟨by rw[e];exact h.row.kept hk (h.row.ne_ hr (by decide)),h.l.kept hk (fun b hb e=>h.l.ne_row hr (by decide) (e▸hb)),h.f.kept hk (fun b hb e=>h.f.ne_row hr (by decide) (e▸hb)),
  h.q.set_ (fun _=>rfl) (Arena.ends_some hn) hj he,h.m.kept hk (fun e=>h.m.ne_row hr e),h.sg,h.sm⟩
theorem ARep.apart {gl cl gq cq:Nat} (h:ARep S w g A (.slice (some ⟨gl,0,none⟩) A.l.length cl) vf (.slice (some ⟨gq,0,none⟩) A.qs.length cq) bm):
  (¬gl=g∧¬g=gl)∧(¬gq=g∧¬g=gq)∧(¬gl=gq∧¬gq=gl):=by
 obtain⟨cs,hr⟩:=h.l.row rfl
 obtain⟨cs',hr'⟩:=h.q.row rfl
 have h1:=hr.ne_ h.row (by decide)
 have h2:=hr'.ne_ h.row (by decide)
 have h3:=hr.ne_ hr' (by decide)
 exact⟨⟨h1,fun e=>h1 e.symm⟩,⟨h2,fun e=>h2 e.symm⟩,⟨h3,fun e=>h3 e.symm⟩⟩
theorem ARep.nodeCells {gl cl:Nat} (h:ARep S w g A (.slice (some ⟨gl,0,none⟩) A.l.length cl) vf vq bm) {n:Nat} (hn:n<A.l.length):
  w.cell? ⟨gl,n*5,none⟩=some (.int .u64 (A.node n).key)∧w.cell? ⟨gl,n*5+1,none⟩=some (.int .i64 (A.node n).freq)∧w.cell? ⟨gl,n*5+2,none⟩=some (.int .i64 (A.node n).prev)∧
  w.cell? ⟨gl,n*5+3,none⟩=some (.int .i64 (A.node n).next)∧w.cell? ⟨gl,n*5+4,none⟩=some (.int .i64 (A.node n).q):=by
 have c:=fun j hj=>h.l.at_ (f:=encNode) (fun _=>rfl) (Arena.node_some hn) (j:=j) hj
 exact⟨c 0 (by omega),c 1 (by omega),c 2 (by omega),c 3 (by omega),c 4 (by omega)⟩
theorem ARep.endsCells {gq cq:Nat} (h:ARep S w g A vl vf (.slice (some ⟨gq,0,none⟩) A.qs.length cq) bm) {n:Nat} (hn:n<A.qs.length):
  w.cell? ⟨gq,n*3,none⟩=some (.int .i64 (A.ends n).head)∧w.cell? ⟨gq,n*3+1,none⟩=some (.int .i64 (A.ends n).tail)∧w.cell? ⟨gq,n*3+2,none⟩=some (.int .i64 (A.ends n).n):=by
 have c:=fun j hj=>h.q.at_ (f:=encEnds) (fun _=>rfl) (Arena.ends_some hn) (j:=j) hj
 exact⟨c 0 (by omega),c 1 (by omega),c 2 (by omega)⟩
end
theorem mget_encAt (M:List (Int×Nat)) (key:Int):mget (encAt M) key=((M.find? (fun y=>y.1==key)).map (·.2)).map fun(n:Nat)=>(Value.int .i64 n):=by
 unfold mget encAt
 induction M with
 |nil=>rfl
 |cons y M ih=>
  by_cases hx:y.1==key
  ·simp[List.find?_cons,hx]
  ·simp only[Bool.not_eq_true]at hx
   simp only[List.map_cons,List.find?_cons,hx]
   exact ih
end Go.Proofs.YtepoejiigmhlbaaGreatDoor.Ev
namespace Go.Proofs.YtepoejiigmhlbaaGreatDoor.Ev
open Go Go.RowKit
theorem zeroInt (w:World):(zeroValue 3).run Tryz.prog w= .ok (.int .i64 0) w:=by kernel_rfl
section
variable {S:Nat→Prop} {w:World} {g bm:Nat} {A:Arena} {vl vf vq:Value}
theorem ARep.look (h:ARep S w g A vl vf vq bm) (key:Int) (c:Bool):(Instr.lookup 134 (.map (some bm)) (.int .u64 key) c).run Tryz.prog w=
  .ok (if c then .tuple #[.int .i64 ((A.idx key).getD 0:Nat),.bool (A.idx key).isSome]else .int .i64 ((A.idx key).getD 0:Nat)) w:=by
 have hk:=h.m.lookup (P:=Tryz.prog) Tryz.underlying134 Tryz.underlying32 zeroInt key c
 rw[hk,mget_encAt]
 unfold Arena.idx
 cases (A.at_.find? (fun y=>y.1==key)).map (·.2)<;>simp
set_option maxHeartbeats 400000 in
theorem where_any (h:ARep S w g A vl vf vq bm) (ok:A.Ok) (key:Int):
  Calls Tryz.prog 25 #[.pointer (some ⟨g,0,none⟩),.int .u64 key] w fun e w'=>e= .returned (.int .i64 (A.where_ key))∧w=w':=by
 have c0:=h.row.cell 0
 have c3:=h.row.cell 3
 have hk:=h.look key true
 obtain⟨gl,cl,rfl,_,hlc,hcm,_⟩:=h.l.form ok.l1
 cases hi:A.idx key with
 |none=>
  rw[hi]at hk
  have hw:A.where_ key= -1:=by unfold Arena.where_;rw[hi]
  rw[hw]
  clear hi hw
  simp at c0 c3 hk
  go_enter Tryz.func25,Tryz.ntmps25
  go_wp2
  go_ret
  exact⟨rfl,rfl⟩
 |some n=>
  rw[hi]at hk
  have hn:=(ok.at_ key n hi).1
  have hw:A.where_ key=(A.node n).q:=by unfold Arena.where_;rw[hi]
  rw[hw]
  have hl2:=ok.l2
  have cq:=h.l.at_ (f:=encNode) (fun _=>rfl) (Arena.node_some hn) (j:=4) (by omega)
  simp[encNode]at cq
  generalize (A.node n).q=q at*
  clear hi hw
  simp at c0 c3 hk
  go_enter Tryz.func25,Tryz.ntmps25
  go_wp2
  go_ret
  exact⟨rfl,rfl⟩
set_option maxHeartbeats 400000 in
theorem freq_any (h:ARep S w g A vl vf vq bm) (ok:A.Ok) (key:Int):
  Calls Tryz.prog 87 #[.pointer (some ⟨g,0,none⟩),.int .u64 key] w fun e w'=>e= .returned (.int .i64 (A.freqOf key))∧w=w':=by
 have c0:=h.row.cell 0
 have c3:=h.row.cell 3
 have hk:=h.look key true
 obtain⟨gl,cl,rfl,_,hlc,hcm,_⟩:=h.l.form ok.l1
 cases hi:A.idx key with
 |none=>
  rw[hi]at hk
  have hw:A.freqOf key=0:=by unfold Arena.freqOf;rw[hi]
  rw[hw]
  clear hi hw
  simp at c0 c3 hk
  go_enter Tryz.func87,Tryz.ntmps87
  go_wp2
  go_ret
  exact⟨rfl,rfl⟩
 |some n=>
  rw[hi]at hk
  have hn:=(ok.at_ key n hi).1
  have hw:A.freqOf key=(A.node n).freq:=by unfold Arena.freqOf;rw[hi]
  rw[hw]
  have hl2:=ok.l2
  have cq:=h.l.at_ (f:=encNode) (fun _=>rfl) (Arena.node_some hn) (j:=1) (by omega)
  simp[encNode]at cq
  generalize (A.node n).freq=q at*
  clear hi hw
  simp at c0 c3 hk
  go_enter Tryz.func87,Tryz.ntmps87
  go_wp2
  go_ret
  exact⟨rfl,rfl⟩
set_option maxHeartbeats 400000 in
theorem len_any (h:ARep S w g A vl vf vq bm) (ok:A.Ok) (q:Nat) (hq:q<A.qs.length) (hq2:A.qs.length≤1000):
  Calls Tryz.prog 86 #[.pointer (some ⟨g,0,none⟩),.int .i64 q] w fun e w'=>e= .returned (.int .i64 (A.len q))∧w=w':=by
 have c2:=h.row.cell 2
 obtain⟨gq,cq,rfl,_,hlc,hcm,_⟩:=h.q.form (by omega)
 have cn:=h.q.at_ (f:=encEnds) (fun _=>rfl) (Arena.ends_some hq) (j:=2) (by omega)
 simp[encEnds]at cn
 unfold Arena.len
 generalize (A.ends q).n=n at*
 simp at c2
 go_enter Tryz.func86,Tryz.ntmps86
 go_wp2
 go_ret
 exact⟨rfl,rfl⟩
set_option maxHeartbeats 400000 in
theorem tail_any (h:ARep S w g A vl vf vq bm) (ok:A.Ok) (q:Nat) (hq:q<A.qs.length) (hq2:A.qs.length≤1000):
  Calls Tryz.prog 90 #[.pointer (some ⟨g,0,none⟩),.int .i64 q] w fun e w'=>e= .returned (.int .u64 (A.tail q))∧∃n,w'=w.drewN n:=by
 have c0:=h.row.cell 0
 have c2:=h.row.cell 2
 obtain⟨gl,cl,rfl,_,hlc,hcm,_⟩:=h.l.form ok.l1
 obtain⟨gq,cq,rfl,_,hqc,hqm,_⟩:=h.q.form (by omega)
 have ht:=(ok.ends q _ (Arena.ends_some hq)).2.1
 have hl2:=ok.l2
 have cn:=h.q.at_ (f:=encEnds) (fun _=>rfl) (Arena.ends_some hq) (j:=1) (by omega)
 have ck:=h.l.at_ (f:=encNode) (fun _=>rfl) (Arena.node_some ht) (j:=0) (by omega)
 simp[encEnds]at cn
 simp[encNode]at ck
 unfold Arena.tail
 generalize (A.ends q).tail=n at*
 generalize (A.node n).key=k at*
 simp at c0 c2
 go_enter Tryz.func90,Tryz.ntmps90
 go_wp2
 go_quiet (fail)
 go_wp2
 go_ret
 exact⟨rfl,_,rfl⟩
end
end Go.Proofs.YtepoejiigmhlbaaGreatDoor.Ev
namespace Go.Proofs.YtepoejiigmhlbaaGreatDoor.Ev
open Go Go.RowKit
section
variable {S:Nat→Prop} {w:World} {g bm:Nat} {A:Arena} {vl vf vq:Value}
set_option maxRecDepth 100000 in
set_option maxHeartbeats 400000 in
theorem tune_any (h:ARep S w g A vl vf vq bm) (ok:A.Ok) (key by_ most:Int) (hb: -1≤by_∧by_≤1) (hm:0≤most∧most≤1000):
  Calls Tryz.prog 94 #[.pointer (some ⟨g,0,none⟩),.int .u64 key,.int .i64 by_,.int .i64 most] w fun e w'=>e= .returned (.tuple #[])∧Kept S w w'∧∃vl,ARep S w' g (A.tune key by_ most) vl vf vq bm:=by
 have c0:=h.row.cell 0
 have c3:=h.row.cell 3
 have hk:=h.look key true
 obtain⟨gl,cl,rfl,hgl,hlc,hcm,_⟩:=h.l.form ok.l1
 cases hi:A.idx key with
 |none=>
  rw[hi]at hk
  have hw:A.tune key by_ most=A:=by unfold Arena.tune;rw[hi]
  rw[hw]
  clear hi hw
  simp at c0 c3 hk
  go_enter Tryz.func94,Tryz.ntmps94
  go_wp2
  go_end0
  exact⟨rfl,Kept.refl _ _,_,h⟩
 |some n=>
  rw[hi]at hk
  have hn:=(ok.at_ key n hi).1
  have hl2:=ok.l2
  have hx:=ok.node n _ (Arena.node_some hn)
  have hf:=hx.2.2.2
  have cq:=h.l.at_ (f:=encNode) (fun _=>rfl) (Arena.node_some hn) (j:=1) (by omega)
  have fq:=h.l.frz rfl (n*5+1)
  have hfin:∀c,c=clampUp (A.node n).freq by_ most→ARep S (w.setCell ⟨gl,n*5+1,none⟩ (.int .i64 c)) g (A.tune key by_ most) (.slice (some ⟨gl,0,none⟩) (A.tune key by_ most).l.length cl) vf vq bm:=by
   rintro c rfl
   have hw:A.tune key by_ most=A.setNode n {(A.node n)with freq:=clampUp (A.node n).freq by_ most}:=by unfold Arena.tune;rw[hi]
   rw[hw]
   exact h.setNode 1 hn (by omega) rfl
  generalize A.tune key by_ most=A' at*
  simp[encNode]at cq
  unfold clampUp at hfin
  generalize (A.node n).freq=q at*
  clear hi hx
  have hwr:IntKind.i64.wrap (q+by_)=q+by_:=IntWalk.i64_in _ (by omega)
  simp at c0 c3 hk
  go_enter Tryz.func94,Tryz.ntmps94
  go_wp2
  have Hf:=Lib.hid hfin
  clear hfin
  go_still_tail 20,(by kernel_rfl)
  go_wp2
  all_goals
   go_end0
   refine⟨rfl,((Kept.refl _ _).setCell hgl _).drew,_,ARep.drew (Hf.out _ (by omega))⟩
theorem bne0 {n:Nat} (h:n≠0):((n:Int)==0)=false:=by simp[h]
theorem toNat_eq {a:Int} {q:Nat} (h:a=(q:Int)):a.toNat=q:=by omega
theorem ARep.unlink1 {gl cl gq cq:Nat} (h:ARep S w g A (.slice (some ⟨gl,0,none⟩) A.l.length cl) vf (.slice (some ⟨gq,0,none⟩) A.qs.length cq) bm) {x:Node} {q:Nat} (hq:x.q=(q:Int)) (hql:q<A.qs.length) (hpl:x.prev<A.l.length):
  ARep S (w.setCell (if x.prev=0 then⟨gq,q*3,none⟩else⟨gl,x.prev*5+3,none⟩) (.int .i64 x.next)) g (A.unlink1 x) (.slice (some ⟨gl,0,none⟩) (A.unlink1 x).l.length cl) vf (.slice (some ⟨gq,0,none⟩) (A.unlink1 x).qs.length cq) bm:=by
 unfold Arena.unlink1
 by_cases hp:x.prev=0
 ·simp only[hp,if_true]
  rw[toNat_eq hq]
  exact h.setEnds 0 hql (by omega) rfl
 ·simp only[if_neg hp]
  exact h.setNode 3 hpl (by omega) rfl
theorem ARep.unlink2 {gl cl gq cq:Nat} (h:ARep S w g A (.slice (some ⟨gl,0,none⟩) A.l.length cl) vf (.slice (some ⟨gq,0,none⟩) A.qs.length cq) bm) {x:Node} {q:Nat} (hq:x.q=(q:Int)) (hql:q<A.qs.length) (hpl:x.next<A.l.length):
  ARep S (w.setCell (if x.next=0 then⟨gq,q*3+1,none⟩else⟨gl,x.next*5+2,none⟩) (.int .i64 x.prev)) g (A.unlink2 x) (.slice (some ⟨gl,0,none⟩) (A.unlink2 x).l.length cl) vf (.slice (some ⟨gq,0,none⟩) (A.unlink2 x).qs.length cq) bm:=by
 unfold Arena.unlink2
 by_cases hp:x.next=0
 ·simp only[hp,if_true]
  rw[toNat_eq hq]
  exact h.setEnds 1 hql (by omega) rfl
 ·simp only[if_neg hp]
  exact h.setNode 2 hpl (by omega) rfl
theorem ARep.unlink3 {gl cl gq cq:Nat} (h:ARep S w g A (.slice (some ⟨gl,0,none⟩) A.l.length cl) vf (.slice (some ⟨gq,0,none⟩) A.qs.length cq) bm) {x:Node} {q:Nat} (hq:x.q=(q:Int)) (hql:q<A.qs.length):
  ARep S (w.setCell ⟨gq,q*3+2,none⟩ (.int .i64 ((A.ends q).n-1:Nat))) g (A.unlink3 x) (.slice (some ⟨gl,0,none⟩) (A.unlink3 x).l.length cl) vf (.slice (some ⟨gq,0,none⟩) (A.unlink3 x).qs.length cq) bm:=by
 unfold Arena.unlink3
 rw[toNat_eq hq]
 exact h.setEnds 2 hql (by omega) rfl
theorem unlink1_len (x:Node):(A.unlink1 x).l.length=A.l.length∧(A.unlink1 x).qs.length=A.qs.length:=by
 unfold Arena.unlink1;split<;>simp[Arena.setEnds,Arena.setNode]
theorem unlink2_len (x:Node):(A.unlink2 x).l.length=A.l.length∧(A.unlink2 x).qs.length=A.qs.length:=by
 unfold Arena.unlink2;split<;>simp[Arena.setEnds,Arena.setNode]
theorem unlink12_n (x:Node) (q:Nat) (hq:x.q=(q:Int)) (hql:q<A.qs.length):(((A.unlink1 x).unlink2 x).ends q).n=(A.ends q).n:=by
 unfold Arena.unlink2 Arena.unlink1
 split<;>split<;>simp[Arena.setEnds,Arena.setNode,Arena.ends,toNat_eq hq,hql]
set_option maxRecDepth 100000 in
set_option maxHeartbeats 4000000 in
theorem unlink_any (h:ARep S w g A vl vf vq bm) (hS:Up S w) (ok:A.Ok) (n q:Nat) (hu:A.CanUnlink n q) (hq2:A.qs.length≤1000000):
  Calls Tryz.prog 55 #[.pointer (some ⟨g,0,none⟩),.int .i64 n] w fun e w'=>e= .returned (.tuple #[])∧Kept S w w'∧∃vl vq,ARep S w' g (A.unlink n) vl vf vq bm:=by
 have c0:=h.row.cell 0
 have c2:=h.row.cell 2
 obtain⟨gl,cl,rfl,hgl,hlc,hcm,hgl2⟩:=h.l.form ok.l1
 obtain⟨hn,hqe,hm,hqlt⟩:=hu
 have hb:=ok.node n _ (Arena.node_some hn)
 have hql:A.qs.length≤1000000:=hq2
 obtain⟨gq,cq,rfl,hgq,hqc,hqm,hgq2⟩:=h.q.form (by omega)
 obtain⟨n0,n1,n2,n3,n4⟩:=h.nodeCells hn
 obtain⟨e0,e1,e2⟩:=h.endsCells hqlt
 obtain⟨_,_,x2,_,_⟩:=h.nodeCells hb.2.1
 obtain⟨_,_,_,y3,_⟩:=h.nodeCells hb.1
 have fq:=fun j=>h.q.frz rfl j
 have fl:=fun j=>h.l.frz rfl j
 have hl2:=ok.l2
 have hgs:=h.row.lt
 have hen:=(ok.ends q _ (Arena.ends_some hqlt)).2.2
 have hsw:S w.heap.size:=hS _ (Nat.le_refl _)
 obtain⟨⟨a1,a2⟩,⟨a3,a4⟩,⟨a5,a6⟩⟩:=h.apart
 have a7:¬gl=w.heap.size:=by omega
 have a8:¬w.heap.size=gl:=by omega
 have a9:¬gq=w.heap.size:=by omega
 have a10:¬w.heap.size=gq:=by omega
 have hfin:∀W:World,W.heap=((((w.alloc (Obj.cells #[.int .u64 (A.node n).key,.int .i64 (A.node n).freq,.int .i64 (A.node n).prev,.int .i64 (A.node n).next,.int .i64 q] 148)).setCell
   (if(A.node n).prev=0 then⟨gq,q*3,none⟩else⟨gl,(A.node n).prev*5+3,none⟩) (.int .i64 (A.node n).next)).setCell
   (if(A.node n).next=0 then⟨gq,q*3+1,none⟩else⟨gl,(A.node n).next*5+2,none⟩) (.int .i64 (A.node n).prev)).setCell ⟨gq,q*3+2,none⟩ (.int .i64 ((A.ends q).n-1:Nat))).heap→
   ARep S W g (A.unlink n) (.slice (some ⟨gl,0,none⟩) (A.unlink n).l.length cl) vf (.slice (some ⟨gq,0,none⟩) (A.unlink n).qs.length cq) bm:=by
  intro W hW
  have s1:=(h.alloc (Obj.cells #[.int .u64 (A.node n).key,.int .i64 (A.node n).freq,.int .i64 (A.node n).prev,.int .i64 (A.node n).next,.int .i64 q] 148)).unlink1 hqe hqlt hb.1
  have s2:=s1.unlink2 hqe (by rw[(unlink1_len _).2];exact hqlt) (by rw[(unlink1_len _).1];exact hb.2.1)
  have s3:=s2.unlink3 hqe (by rw[(unlink2_len _).2,(unlink1_len _).2];exact hqlt)
  rw[unlink12_n _ _ hqe hqlt]at s3
  exact s3.of_heap hW
 generalize A.unlink n=A' at*
 rw[hqe]at n4
 simp at c0 c2
 generalize (A.node (A.node n).next).prev=pvx at*
 generalize (A.node (A.node n).prev).next=nxy at*
 generalize (A.node n).key=key at*
 generalize (A.node n).freq=freq at*
 generalize (A.node n).prev=pv at*
 generalize (A.node n).next=nx at*
 generalize (A.ends q).head=hd at*
 generalize (A.ends q).tail=tl at*
 generalize (A.ends q).n=m at*
 obtain⟨m,rfl⟩:∃k,m=k+1:=⟨m-1,by omega⟩
 obtain⟨hb1,hb2,_⟩:=hb
 clear hqe hm
 by_cases hp:pv=0
 ·by_cases hx:nx=0
  ·subst hp
   subst hx
   simp only[if_true]at hfin
   have Hf:=Lib.hid hfin
   clear hfin
   go_enter Tryz.func55,Tryz.ntmps55
   go_wp2
   go_quiet (fail)
   go_wp2
   go_end0
   refine⟨rfl,?_,_,_,Hf.out _ (by(try simp only[drewN_setCell,drewN_alloc,drew_setCell,drew_alloc,World.heap_drewN,heap_drew]);(try simp only[Int.natCast_add,Int.cast_ofNat_Int,Nat.add_sub_cancel]);try with_reducible rfl)⟩
   repeat' first|with_reducible exact Kept.refl _ _|with_reducible refine Kept.drewN ?_ _|with_reducible refine Kept.drew ?_|with_reducible refine Kept.setCell ?_ (by assumption) _|with_reducible refine Kept.alloc ?_ (by assumption) _
  ·subst hp
   simp only[if_true,if_neg hx]at hfin
   have Hf:=Lib.hid hfin
   clear hfin
   have hx2:=bne0 hx
   have Hx:=Lib.hid hx
   clear hx
   go_enter Tryz.func55,Tryz.ntmps55
   go_wp2
   go_quiet (fail)
   go_wp2
   (refine wp_tail 10 (by kernel_rfl) (by kernel_rfl) ?_;simp only[List.take_succ_cons,List.take_zero,List.drop_succ_cons,List.drop_zero];repeat still_step);refine wpStill_nil ?_
   go_wp2
   go_end0
   refine⟨rfl,?_,_,_,Hf.out _ (by(try simp only[drewN_setCell,drewN_alloc,drew_setCell,drew_alloc,World.heap_drewN,heap_drew]);(try simp only[Int.natCast_add,Int.cast_ofNat_Int,Nat.add_sub_cancel]);try with_reducible rfl)⟩
   repeat' first|with_reducible exact Kept.refl _ _|with_reducible refine Kept.drewN ?_ _|with_reducible refine Kept.drew ?_|with_reducible refine Kept.setCell ?_ (by assumption) _|with_reducible refine Kept.alloc ?_ (by assumption) _
 ·by_cases hx:nx=0
  ·subst hx
   simp only[if_true,if_neg hp]at hfin
   have Hf:=Lib.hid hfin
   clear hfin
   have hp2:=bne0 hp
   have Hp:=Lib.hid hp
   clear hp
   go_enter Tryz.func55,Tryz.ntmps55
   go_wp2
   go_quiet (fail)
   go_wp2
   (refine wp_tail 10 (by kernel_rfl) (by kernel_rfl) ?_;simp only[List.take_succ_cons,List.take_zero,List.drop_succ_cons,List.drop_zero];repeat still_step);refine wpStill_nil ?_
   go_wp2
   go_end0
   refine⟨rfl,?_,_,_,Hf.out _ (by(try simp only[drewN_setCell,drewN_alloc,drew_setCell,drew_alloc,World.heap_drewN,heap_drew]);(try simp only[Int.natCast_add,Int.cast_ofNat_Int,Nat.add_sub_cancel]);try with_reducible rfl)⟩
   repeat' first|with_reducible exact Kept.refl _ _|with_reducible refine Kept.drewN ?_ _|with_reducible refine Kept.drew ?_|with_reducible refine Kept.setCell ?_ (by assumption) _|with_reducible refine Kept.alloc ?_ (by assumption) _
  ·simp only[if_neg hp,if_neg hx]at hfin
   have Hf:=Lib.hid hfin
   clear hfin
   have hp2:=bne0 hp
   have Hp:=Lib.hid hp
   clear hp
   have hx2:=bne0 hx
   have Hx:=Lib.hid hx
   clear hx
   go_enter Tryz.func55,Tryz.ntmps55
   go_wp2
   go_quiet (fail)
   go_wp2
   (refine wp_tail 10 (by kernel_rfl) (by kernel_rfl) ?_;simp only[List.take_succ_cons,List.take_zero,List.drop_succ_cons,List.drop_zero];repeat still_step);refine wpStill_nil ?_
   go_wp2
   (refine wp_tail 10 (by kernel_rfl) (by kernel_rfl) ?_;simp only[List.take_succ_cons,List.take_zero,List.drop_succ_cons,List.drop_zero];repeat still_step);refine wpStill_nil ?_
   go_wp2
   go_end0
   refine⟨rfl,?_,_,_,Hf.out _ (by(try simp only[drewN_setCell,drewN_alloc,drew_setCell,drew_alloc,World.heap_drewN,heap_drew]);(try simp only[Int.natCast_add,Int.cast_ofNat_Int,Nat.add_sub_cancel]);try with_reducible rfl)⟩
   repeat' first|with_reducible exact Kept.refl _ _|with_reducible refine Kept.drewN ?_ _|with_reducible refine Kept.drew ?_|with_reducible refine Kept.setCell ?_ (by assumption) _|with_reducible refine Kept.alloc ?_ (by assumption) _
end
end Go.Proofs.YtepoejiigmhlbaaGreatDoor.Ev
namespace Go.Proofs.YtepoejiigmhlbaaGreatDoor.Ev
open Go Go.RowKit
section
variable {S:Nat→Prop} {w:World} {g bm:Nat} {A:Arena} {vl vf vq:Value}
theorem setNode_twice (n:Nat) (a b:Node):(A.setNode n a).setNode n b=A.setNode n b:=by simp[Arena.setNode,List.set_set]
theorem node_setNode {n:Nat} (hn:n<A.l.length) (x:Node):(A.setNode n x).node n=x:=by simp[Arena.setNode,Arena.node,hn]
theorem setNode_len (n:Nat) (x:Node):(A.setNode n x).l.length=A.l.length∧(A.setNode n x).qs.length=A.qs.length:=by simp[Arena.setNode]
theorem ends_setNode (n:Nat) (x:Node) (q:Nat):(A.setNode n x).ends q=A.ends q:=rfl
theorem ARep.link1 {gl cl gq cq:Nat} (h:ARep S w g A (.slice (some ⟨gl,0,none⟩) A.l.length cl) vf (.slice (some ⟨gq,0,none⟩) A.qs.length cq) bm) (n:Nat) {x:Node} {q:Nat} (hql:q<A.qs.length) (hpl:x.prev<A.l.length):
  ARep S (w.setCell (if x.prev=0 then⟨gq,q*3,none⟩else⟨gl,x.prev*5+3,none⟩) (.int .i64 n)) g (A.link1 n q x) (.slice (some ⟨gl,0,none⟩) (A.link1 n q x).l.length cl) vf (.slice (some ⟨gq,0,none⟩) (A.link1 n q x).qs.length cq) bm:=by
 unfold Arena.link1
 by_cases hp:x.prev=0
 ·simp only[hp,if_true]
  exact h.setEnds 0 hql (by omega) rfl
 ·simp only[if_neg hp]
  exact h.setNode 3 hpl (by omega) rfl
theorem ARep.link2 {gl cl gq cq:Nat} (h:ARep S w g A (.slice (some ⟨gl,0,none⟩) A.l.length cl) vf (.slice (some ⟨gq,0,none⟩) A.qs.length cq) bm) (n:Nat) {x:Node} {q:Nat} (hql:q<A.qs.length) (hpl:x.next<A.l.length):
  ARep S (w.setCell (if x.next=0 then⟨gq,q*3+1,none⟩else⟨gl,x.next*5+2,none⟩) (.int .i64 n)) g (A.link2 n q x) (.slice (some ⟨gl,0,none⟩) (A.link2 n q x).l.length cl) vf (.slice (some ⟨gq,0,none⟩) (A.link2 n q x).qs.length cq) bm:=by
 unfold Arena.link2
 by_cases hp:x.next=0
 ·simp only[hp,if_true]
  exact h.setEnds 1 hql (by omega) rfl
 ·simp only[if_neg hp]
  exact h.setNode 2 hpl (by omega) rfl
theorem ARep.link3 {gl cl gq cq:Nat} (h:ARep S w g A (.slice (some ⟨gl,0,none⟩) A.l.length cl) vf (.slice (some ⟨gq,0,none⟩) A.qs.length cq) bm) {q:Nat} (hql:q<A.qs.length):
  ARep S (w.setCell ⟨gq,q*3+2,none⟩ (.int .i64 ((A.ends q).n+1:Nat))) g (A.link3 q) (.slice (some ⟨gl,0,none⟩) (A.link3 q).l.length cl) vf (.slice (some ⟨gq,0,none⟩) (A.link3 q).qs.length cq) bm:=by
 unfold Arena.link3
 exact h.setEnds 2 hql (by omega) rfl
theorem link1_len (n q:Nat) (x:Node):(A.link1 n q x).l.length=A.l.length∧(A.link1 n q x).qs.length=A.qs.length:=by
 unfold Arena.link1;split<;>simp[Arena.setEnds,Arena.setNode]
theorem link2_len (n q:Nat) (x:Node):(A.link2 n q x).l.length=A.l.length∧(A.link2 n q x).qs.length=A.qs.length:=by
 unfold Arena.link2;split<;>simp[Arena.setEnds,Arena.setNode]
theorem link12_n (n:Nat) (x:Node) (q:Nat) (hql:q<A.qs.length):(((A.link1 n q x).link2 n q x).ends q).n=(A.ends q).n:=by
 unfold Arena.link2 Arena.link1
 split<;>split<;>simp[Arena.setEnds,Arena.setNode,Arena.ends,hql]
theorem ARep.link_rest {gl cl gq cq:Nat} {n q:Nat} {tail:Bool} (h:ARep S w g (A.setNode n (linkNode A n q tail)) (.slice (some ⟨gl,0,none⟩) A.l.length cl) vf (.slice (some ⟨gq,0,none⟩) A.qs.length cq) bm)
  (hn:n<A.l.length) (hql:q<A.qs.length) (hpl:(linkNode A n q tail).prev<A.l.length) (hnl:(linkNode A n q tail).next<A.l.length) {W:World}
  (hW:W.heap=(((w.setCell (if(linkNode A n q tail).prev=0 then⟨gq,q*3,none⟩else⟨gl,(linkNode A n q tail).prev*5+3,none⟩) (.int .i64 n)).setCell
   (if(linkNode A n q tail).next=0 then⟨gq,q*3+1,none⟩else⟨gl,(linkNode A n q tail).next*5+2,none⟩) (.int .i64 n)).setCell ⟨gq,q*3+2,none⟩ (.int .i64 ((A.ends q).n+1:Nat))).heap):
  ARep S W g (A.link n q tail) (.slice (some ⟨gl,0,none⟩) (A.link n q tail).l.length cl) vf (.slice (some ⟨gq,0,none⟩) (A.link n q tail).qs.length cq) bm:=by
 unfold Arena.link
 rw[←(setNode_len (A:=A) n (linkNode A n q tail)).1,←(setNode_len (A:=A) n (linkNode A n q tail)).2]at h
 have e1:=(setNode_len (A:=A) n (linkNode A n q tail)).1
 have e2:=(setNode_len (A:=A) n (linkNode A n q tail)).2
 have e3:=ends_setNode (A:=A) n (linkNode A n q tail) q
 generalize linkNode A n q tail=x at*
 generalize A.setNode n x=B at*
 rw[←e3]at hW
 have s1:=h.link1 n (x:=x) (q:=q) (by omega) (by omega)
 have s2:=s1.link2 n (x:=x) (q:=q) (by rw[(link1_len _ _ _).2];omega) (by rw[(link1_len _ _ _).1];omega)
 have s3:=s2.link3 (q:=q) (by rw[(link2_len _ _ _).2,(link1_len _ _ _).2];omega)
 rw[link12_n _ _ _ (by omega)]at s3
 exact s3.of_heap hW
set_option maxRecDepth 100000 in
set_option maxHeartbeats 2000000 in
theorem link_any (h:ARep S w g A vl vf vq bm) (ok:A.Ok) (n q:Nat) (tail:Bool) (hn:n<A.l.length) (hn0:n≠0) (hqlt:q<A.qs.length) (hq2:A.qs.length≤1000000) (hh:(A.ends q).head≠n) (ht:(A.ends q).tail≠n):
  Calls Tryz.prog 115 #[.pointer (some ⟨g,0,none⟩),.int .i64 n,.int .i64 q,.bool tail] w fun e w'=>e= .returned (.tuple #[])∧Kept S w w'∧∃vl vq,ARep S w' g (A.link n q tail) vl vf vq bm:=by
 have c0:=h.row.cell 0
 have c2:=h.row.cell 2
 obtain⟨gl,cl,rfl,hgl,hlc,hcm,hgl2⟩:=h.l.form ok.l1
 obtain⟨gq,cq,rfl,hgq,hqc,hqm,hgq2⟩:=h.q.form (by omega)
 obtain⟨n0,n1,n2,n3,n4⟩:=h.nodeCells hn
 obtain⟨e0,e1,e2⟩:=h.endsCells hqlt
 obtain⟨hb1,hb2,hen⟩:=ok.ends q _ (Arena.ends_some hqlt)
 have fq:=fun j=>h.q.frz rfl j
 have fl:=fun j=>h.l.frz rfl j
 have hl2:=ok.l2
 obtain⟨⟨a1,a2⟩,⟨a3,a4⟩,⟨a5,a6⟩⟩:=h.apart
 have s1:=h.setNode (x':={(A.node n)with q:=(q:Int)}) 4 (u:=.int .i64 q) hn (by omega) rfl
 have s2:=s1.setNode (n:=n) (x':={(A.node n)with q:=(q:Int),prev:=0}) 2 (u:=.int .i64 0) (by rw[(setNode_len _ _).1];exact hn) (by omega) (by rw[node_setNode hn];rfl)
 rw[setNode_twice]at s2
 have s3:=s2.setNode (n:=n) (x':={(A.node n)with q:=(q:Int),prev:=0,next:=(A.ends q).head}) 3 (u:=.int .i64 (A.ends q).head) (by rw[(setNode_len _ _).1];exact hn) (by omega) (by rw[node_setNode hn];rfl)
 rw[setNode_twice]at s3
 have s4:=s3.setNode (n:=n) (x':={(A.node n)with q:=(q:Int),prev:=(A.ends q).tail,next:=(A.ends q).head}) 2 (u:=.int .i64 (A.ends q).tail) (by rw[(setNode_len _ _).1];exact hn) (by omega) (by rw[node_setNode hn];rfl)
 rw[setNode_twice]at s4
 have s5:=s4.setNode (n:=n) (x':={(A.node n)with q:=(q:Int),prev:=(A.ends q).tail,next:=0}) 3 (u:=.int .i64 0) (by rw[(setNode_len _ _).1];exact hn) (by omega) (by rw[node_setNode hn];rfl)
 rw[setNode_twice,(setNode_len _ _).1]at s5
 rw[(setNode_len _ _).1]at s3
 have S3:=Lib.hid s3
 have S5:=Lib.hid s5
 clear s1 s2 s3 s4 s5
 simp at c0 c2
 have Hh:=Lib.hid hh
 have Ht:=Lib.hid ht
 have Hn0:=Lib.hid hn0
 clear hh ht hn0
 go_enter Tryz.func115,Tryz.ntmps115
 go_upto_if 36 with fail
 go_cut [] (fun wx=>Kept S w wx∧ARep S wx g (A.setNode n (linkNode A n q tail)) (.slice (some ⟨gl,0,none⟩) A.l.length cl) vf (.slice (some ⟨gq,0,none⟩) A.qs.length cq) bm)
 case first=>
  cases tail
  ·go_wp2
   go_meet
   refine⟨?_,S3.out⟩
   repeat' first|with_reducible exact Kept.refl _ _|with_reducible refine Kept.drewN ?_ _|with_reducible refine Kept.drew ?_|with_reducible refine Kept.setCell ?_ (by assumption) _|with_reducible refine Kept.alloc ?_ (by assumption) _
  ·go_wp2
   go_meet
   refine⟨?_,S5.out⟩
   repeat' first|with_reducible exact Kept.refl _ _|with_reducible refine Kept.drewN ?_ _|with_reducible refine Kept.drew ?_|with_reducible refine Kept.setCell ?_ (by assumption) _|with_reducible refine Kept.alloc ?_ (by assumption) _
 case rest=>
  clear c0 c2 n0 n1 n2 n3 n4 e0 e1 e2 fq fl S3 S5 hgl2 hgq2
  obtain⟨hk0,hA⟩:=hcut
  have hk:=Lib.hid hk0
  clear hk0
  have hxp:(linkNode A n q tail).prev≠n:=by
   unfold linkNode;cases tail
   ·exact fun e=>Hn0.out e.symm
   ·exact Ht.out
  have hln:(linkNode A n q tail).prev<A.l.length∧(linkNode A n q tail).next<A.l.length:=by
   unfold linkNode;cases tail
   ·exact⟨by show 0<_;omega,hb1⟩
   ·exact⟨hb2,by show 0<_;omega⟩
  have hfin:∀W:World,W.heap=(((wc.setCell (if(linkNode A n q tail).prev=0 then⟨gq,q*3,none⟩else⟨gl,(linkNode A n q tail).prev*5+3,none⟩) (.int .i64 n)).setCell
   (if(linkNode A n q tail).next=0 then⟨gq,q*3+1,none⟩else⟨gl,(linkNode A n q tail).next*5+2,none⟩) (.int .i64 n)).setCell ⟨gq,q*3+2,none⟩ (.int .i64 ((A.ends q).n+1:Nat))).heap→
   ARep S W g (A.link n q tail) (.slice (some ⟨gl,0,none⟩) (A.link n q tail).l.length cl) vf (.slice (some ⟨gq,0,none⟩) (A.link n q tail).qs.length cq) bm:=
   fun W hW=>hA.link_rest hn hqlt hln.1 hln.2 hW
  have c0:=hA.row.cell 0
  have c2:=hA.row.cell 2
  have fq:=fun j=>hA.q.frz rfl j
  have fl:=fun j=>hA.l.frz (by rw[(setNode_len _ _).1]) j
  have hA':=hA
  rw[←(setNode_len (A:=A) n (linkNode A n q tail)).1]at hA'
  obtain⟨n0,n1,n2,n3,n4⟩:=hA'.nodeCells (n:=n) (by rw[(setNode_len _ _).1];exact hn)
  obtain⟨_,_,x2,_,_⟩:=hA'.nodeCells (n:=(linkNode A n q tail).next) (by rw[(setNode_len _ _).1];exact hln.2)
  obtain⟨_,_,_,y3,_⟩:=hA'.nodeCells (n:=(linkNode A n q tail).prev) (by rw[(setNode_len _ _).1];exact hln.1)
  obtain⟨e0,e1,e2⟩:=hA.endsCells (n:=q) hqlt
  rw[node_setNode hn]at n0 n1 n2 n3 n4
  simp only[ends_setNode]at e0 e1 e2
  generalize ((A.setNode n (linkNode A n q tail)).node (linkNode A n q tail).next).prev=pvx at*
  generalize ((A.setNode n (linkNode A n q tail)).node (linkNode A n q tail).prev).next=nxy at*
  clear hA hA' Ht Hh
  generalize hA2:A.link n q tail=A' at hfin
  have HA2:=Lib.hid hA2
  clear hA2
  simp at c0 c2
  generalize linkNode A n q tail=x at*
  obtain⟨xk,xf,xp,xn,xq⟩:=x
  simp only at*
  generalize (A.ends q).head=hd at*
  generalize (A.ends q).tail=tl at*
  generalize (A.ends q).n=m at*
  have hxp2:¬n=xp:=fun e=>hxp e.symm
  by_cases hp:xp=0
  ·subst hp
   by_cases hx:xn=0
   ·subst hx
    simp only[if_true]at hfin
    have Hf:=Lib.hid hfin
    clear hfin
    go_wp2
    go_end0
    rw[HA2.out]
    refine⟨rfl,hk.out.trans ?_,_,_,Hf.out _ (by(try simp only[drewN_setCell,drewN_alloc,drew_setCell,drew_alloc,World.heap_drewN,heap_drew]);(try simp only[Int.natCast_add,Int.cast_ofNat_Int,Nat.add_sub_cancel]);try with_reducible rfl)⟩
    repeat' first|with_reducible exact Kept.refl _ _|with_reducible refine Kept.drewN ?_ _|with_reducible refine Kept.drew ?_|with_reducible refine Kept.setCell ?_ (by assumption) _|with_reducible refine Kept.alloc ?_ (by assumption) _
   ·simp only[if_true,if_neg hx]at hfin
    have Hf:=Lib.hid hfin
    clear hfin
    have hx2:=bne0 hx
    have Hx:=Lib.hid hx
    clear hx
    go_wp2
    (refine wp_tail 11 (by kernel_rfl) (by kernel_rfl) ?_;simp only[List.take_succ_cons,List.take_zero,List.drop_succ_cons,List.drop_zero];repeat still_step);refine wpStill_nil ?_
    go_wp2
    go_end0
    rw[HA2.out]
    refine⟨rfl,hk.out.trans ?_,_,_,Hf.out _ (by(try simp only[drewN_setCell,drewN_alloc,drew_setCell,drew_alloc,World.heap_drewN,heap_drew]);(try simp only[Int.natCast_add,Int.cast_ofNat_Int,Nat.add_sub_cancel]);try with_reducible rfl)⟩
    repeat' first|with_reducible exact Kept.refl _ _|with_reducible refine Kept.drewN ?_ _|with_reducible refine Kept.drew ?_|with_reducible refine Kept.setCell ?_ (by assumption) _|with_reducible refine Kept.alloc ?_ (by assumption) _
  ·by_cases hx:xn=0
   ·subst hx
    simp only[if_true,if_neg hp]at hfin
    have Hf:=Lib.hid hfin
    clear hfin
    have hp2:=bne0 hp
    have Hp:=Lib.hid hp
    clear hp
    go_wp2
    (refine wp_tail 11 (by kernel_rfl) (by kernel_rfl) ?_;simp only[List.take_succ_cons,List.take_zero,List.drop_succ_cons,List.drop_zero];repeat still_step);refine wpStill_nil ?_
    go_wp2
    go_end0
    rw[HA2.out]
    refine⟨rfl,hk.out.trans ?_,_,_,Hf.out _ (by(try simp only[drewN_setCell,drewN_alloc,drew_setCell,drew_alloc,World.heap_drewN,heap_drew]);(try simp only[Int.natCast_add,Int.cast_ofNat_Int,Nat.add_sub_cancel]);try with_reducible rfl)⟩
    repeat' first|with_reducible exact Kept.refl _ _|with_reducible refine Kept.drewN ?_ _|with_reducible refine Kept.drew ?_|with_reducible refine Kept.setCell ?_ (by assumption) _|with_reducible refine Kept.alloc ?_ (by assumption) _
   ·simp only[if_neg hp,if_neg hx]at hfin
    have Hf:=Lib.hid hfin
    clear hfin
    have hp2:=bne0 hp
    have Hp:=Lib.hid hp
    clear hp
    have hx2:=bne0 hx
    have Hx:=Lib.hid hx
    clear hx
    go_wp2
    (refine wp_tail 11 (by kernel_rfl) (by kernel_rfl) ?_;simp only[List.take_succ_cons,List.take_zero,List.drop_succ_cons,List.drop_zero];repeat still_step);refine wpStill_nil ?_
    go_wp2
    (refine wp_tail 11 (by kernel_rfl) (by kernel_rfl) ?_;simp only[List.take_succ_cons,List.take_zero,List.drop_succ_cons,List.drop_zero];repeat still_step);refine wpStill_nil ?_
    go_wp2
    go_end0
    rw[HA2.out]
    refine⟨rfl,hk.out.trans ?_,_,_,Hf.out _ (by(try simp only[drewN_setCell,drewN_alloc,drew_setCell,drew_alloc,World.heap_drewN,heap_drew]);(try simp only[Int.natCast_add,Int.cast_ofNat_Int,Nat.add_sub_cancel]);try with_reducible rfl)⟩
    repeat' first|with_reducible exact Kept.refl _ _|with_reducible refine Kept.drewN ?_ _|with_reducible refine Kept.drew ?_|with_reducible refine Kept.setCell ?_ (by assumption) _|with_reducible refine Kept.alloc ?_ (by assumption) _
end
end Go.Proofs.YtepoejiigmhlbaaGreatDoor.Ev
namespace Go.Proofs.YtepoejiigmhlbaaGreatDoor.Ev
open Go Go.RowKit
section
variable {S:Nat→Prop} {w w':World} {b:Nat} {k:IntKind} {M:IMap} {P:Program}
theorem setObj_kept {w:World} {b:Nat} (o:Obj):Kept (fun x=>x=b) w {w with heap:=w.heap.setIfInBounds b o}:=
 ⟨rfl,rfl,rfl,by simp,fun i hi=>by simp only[Array.getElem?_setIfInBounds];rw[if_neg (fun e=>hi e.symm)]⟩
theorem setObj_same {w:World} {b:Nat} {o:Obj} (hb:b<w.heap.size):({w with heap:=w.heap.setIfInBounds b o}:World).heap[b]?=some o:=by
 simp[Array.getElem?_setIfInBounds,hb]
theorem entries_idx {es:List MapEntry} (h:es.map (fun e=>(e.key,e.val))=M.map (fun x=>(Value.int k x.1,x.2))) (j:Nat):
  (es[j]?).map (fun e=>(e.key,e.val))=(M[j]?).map (fun x=>(Value.int k x.1,x.2)):=by
 rw[←List.getElem?_map,h,List.getElem?_map]
theorem mget_none_iff {x:Int}:mget M x=none↔M.findIdx? (fun y=>y.1==x)=none:=by
 unfold mget
 simp[List.find?_eq_none,List.findIdx?_eq_none_iff]
theorem run_keyStays (P:Program) (x:Int) (w:World):(Instr.keyThatStays (.int k x) (.int k x)).run P w= .ok (.int k x) w:=by
 have h:∀n,Instr.sameBits (n+1) (.int k x) (.int k x)=true:=fun n=>by simp[Instr.sameBits]
 simp[Instr.keyThatStays,h 9999]
theorem map_erase {α β:Type} (f:α→β):∀(l:List α) (i:Nat),(l.eraseIdx i).map f=(l.map f).eraseIdx i
 | [],i=>by simp
 |x::l,0=>by simp
 |x::l,i+1=>by simp[map_erase f l i]
theorem IsMap.update {T K E:TypeId} (h:IsMap w b k M) (hT:P.underlying T=some (.map K E)) (hK:P.underlying K=some (.int k)) (x:Int) (v:Value):
  ∃w',(Instr.mapUpdate T (.map (some b)) (.int k x) v).run P w= .ok () w'∧IsMap w' b k (mput M x v)∧Kept (fun i=>i=b) w w':=by
 have hlt:=h.lt
 obtain⟨es,cl,h1,h2,h3,h4,h5⟩:=h
 have hf:=run_findKey_int hK x es.toList h2 w
 cases hj:M.findIdx? (fun y=>y.1==x)with
 |none=>
  have hno:mget M x=none:=mget_none_iff.2 hj
  refine⟨{w with heap:=w.heap.setIfInBounds b (.map (es.push {key:=.int k x,val:=v,born:=cl}) (cl+1))},?_,⟨_,_,setObj_same hlt,?_,?_,?_,?_⟩,setObj_kept _⟩
  ·rw[hj]at hf
   simp[Instr.mapUpdate,run_underlying hT,run_getObj_map h1,run_checkKey_int hK,hf,run_setObj_map h1]
  ·simp[mput,hno,h2]
  ·intro e he
   simp only[Array.toList_push,List.mem_append,List.mem_singleton]at he
   rcases he with he|rfl
   ·have:=h3 e he;omega
   ·exact Nat.lt_succ_self _
  ·simp only[Array.toList_push,List.map_append,List.map_cons,List.map_nil]
   rw[List.nodup_append]
   refine⟨h4,by simp,?_⟩
   intro a ha c hc e
   simp only[List.mem_singleton]at hc
   obtain⟨y,hy,rfl⟩:=List.mem_map.1 ha
   have:=h3 y hy
   omega
  ·simp only[mput,hno,Option.isSome_none,Bool.false_eq_true,if_false,List.map_append,List.map_cons,List.map_nil]
   rw[List.nodup_append]
   refine⟨h5,by simp,?_⟩
   intro a ha c hc e
   simp only[List.mem_singleton]at hc
   subst hc
   subst e
   obtain⟨y,hy,rfl⟩:=List.mem_map.1 ha
   have:=List.findIdx?_eq_none_iff.1 hj y hy
   simp at this
 |some j=>
  obtain⟨hlt2,hjx,_⟩:=List.findIdx?_eq_some_iff_getElem.1 hj
  have hsome:(mget M x).isSome=true:=by
   rw[mget_idx,hj];simp[List.getElem?_eq_getElem hlt2]
  have hidx:=entries_idx h2 j
  rw[List.getElem?_eq_getElem hlt2]at hidx
  have hlen:es.toList.length=M.length:=by have:=congrArg List.length h2;simpa using this
  have hej:es.toList[j]?=some es.toList[j]:=List.getElem?_eq_getElem (by omega)
  have hx:M[j].1=x:=by simpa using hjx
  have hkey:es.toList[j].key= .int k x:=by
   rw[hej]at hidx
   simp only[Option.map_some,Option.some.injEq,Prod.mk.injEq]at hidx
   rw[hidx.1,hx]
  refine⟨{w with heap:=w.heap.setIfInBounds b (.map (es.modify j fun e=>{e with key:=.int k x,val:=v}) cl)},?_,⟨_,_,setObj_same hlt,?_,?_,?_,?_⟩,setObj_kept _⟩
  ·rw[hj]at hf
   simp only[Option.bind_some,List.getElem?_eq_getElem hlt2,Option.map_some]at hf
   have hk2:((es[j]?).map (·.key)).getD (.int k x)= .int k x:=by
    rw[←Array.getElem?_toList,hej];simpa using hkey
   simp only[Instr.mapUpdate,Sem.run_bind,run_underlying hT,Result.andThen_ok,run_getObj_map h1,run_checkKey_int hK,hf,hk2,run_keyStays,run_setObj_map h1]
  ·have e1:∀(l:List MapEntry) (M:IMap) (j:Nat),l.map (fun e=>(e.key,e.val))=M.map (fun y=>(Value.int k y.1,y.2))→(M.map (·.1)).Nodup→(hl:j<M.length)→M[j].1=x→
     (l.modify j fun e=>{e with key:=.int k x,val:=v}).map (fun e=>(e.key,e.val))=(M.map (fun y=>if y.1==x then(x,v)else y)).map (fun y=>(Value.int k y.1,y.2)):=by
    intro l
    induction l with
    |nil=>
     intro M j h _ hl
     have:=congrArg List.length h
     simp at this
     omega
    |cons e l ih=>
     intro M j h hn hl hx
     cases M with
     |nil=>simp at hl
     |cons y M=>
      simp only[List.map_cons,List.cons.injEq]at h
      simp only[List.map_cons,List.nodup_cons]at hn
      cases j with
      |zero=>
       simp only[List.getElem_cons_zero]at hx
       simp only[List.modify_zero_cons,List.map_cons,hx,beq_self_eq_true,if_true,h.2,List.cons.injEq,true_and]
       refine(List.map_congr_left ?_:List.map (fun y=>(Value.int k y.1,y.2)) M=List.map (fun y=>(Value.int k (if y.1==x then(x,v)else y).1,(if y.1==x then(x,v)else y).2)) M).trans ?_
       ·intro z hz
        have:(z.1==x)=false:=by
         simp only[beq_eq_false_iff_ne]
         intro hzx
         exact hn.1 (by rw[hx,←hzx];exact List.mem_map.2 ⟨z,hz,rfl⟩)
        simp[this]
       ·simp[List.map_map,Function.comp_def]
      |succ j=>
       simp only[List.getElem_cons_succ]at hx
       have hne:(y.1==x)=false:=by
        simp only[beq_eq_false_iff_ne]
        intro hyx
        exact hn.1 (by rw[hyx,←hx];exact List.mem_map.2 ⟨_,List.getElem_mem _,rfl⟩)
       simp only[List.modify_succ_cons,List.map_cons,hne]
       rw[ih M j h.2 hn.2 (by simpa using hl) hx]
       simp[h.1]
   rw[Array.toList_modify]
   simp only[mput,hsome,if_true]
   exact e1 _ _ _ h2 h5 hlt2 hx
  ·intro e he
   rw[Array.toList_modify]at he
   obtain⟨i,hi⟩:=List.mem_iff_getElem?.1 he
   rw[List.getElem?_modify]at hi
   split at hi
   ·cases hy:es.toList[i]? with
    |none=>rw[hy]at hi;cases hi
    |some y=>rw[hy]at hi;simp at hi;subst hi;exact h3 y (List.mem_of_getElem? hy)
   ·cases hy:es.toList[i]? with
    |none=>rw[hy]at hi;cases hi
    |some y=>rw[hy]at hi;simp at hi;subst hi;exact h3 y (List.mem_of_getElem? hy)
  ·rw[Array.toList_modify]
   have:∀(l:List MapEntry) (j:Nat),(l.modify j fun e=>{e with key:=.int k x,val:=v}).map (·.born)=l.map (·.born):=by
    intro l
    induction l with
    |nil=>intro j;simp
    |cons e l ih=>intro j;cases j with
     |zero=>simp
     |succ j=>simp[ih]
   rw[this];exact h4
  ·simp only[mput,hsome,if_true,List.map_map]
   have:(M.map ((fun y:Int×Value=>y.1)∘fun y=>if y.1==x then(x,v)else y))=M.map (·.1):=by
    refine List.map_congr_left fun y hy=>?_
    by_cases hyx:y.1==x
    ·have e:y.1=x:=by simpa using hyx
     simp[e]
    ·have e:¬y.1=x:=by simpa using hyx
     simp[e]
   rw[this];exact h5
theorem IsMap.delete {T K E:TypeId} (h:IsMap w b k M) (hT:P.underlying T=some (.map K E)) (hK:P.underlying K=some (.int k)) (x:Int) (ty:TypeId):
  ∃w',(Builtin.delete_ #[T,K] ty #[.map (some b),.int k x]).run P w= .ok (.tuple #[]) w'∧IsMap w' b k (mdel M x)∧Kept (fun i=>i=b) w w':=by
 have hlt:=h.lt
 obtain⟨es,cl,h1,h2,h3,h4,h5⟩:=h
 have hf:=run_findKey_int hK x es.toList h2 w
 cases hj:M.findIdx? (fun y=>y.1==x)with
 |none=>
  refine⟨{w with heap:=w.heap.setIfInBounds b (.map es cl)},?_,⟨_,_,setObj_same hlt,?_,h3,h4,?_⟩,setObj_kept _⟩
  ·rw[hj]at hf
   simp[Builtin.delete_,run_underlying hT,run_getObj_map h1,run_checkKey_int hK,hf,run_setObj_map h1]
  all_goals
   have:mdel M x=M:=by
    unfold mdel
    exact List.eraseP_of_forall_not (fun y hy=>by have:=List.findIdx?_eq_none_iff.1 hj y hy;simpa using this)
   rw[this]
  ·exact h2
  ·exact h5
 |some j=>
  obtain⟨hlt2,hjx,hbef⟩:=List.findIdx?_eq_some_iff_getElem.1 hj
  have hlen:es.toList.length=M.length:=by have:=congrArg List.length h2;simpa using this
  have hdel:mdel M x=M.eraseIdx j:=by
   unfold mdel
   rw[List.eraseP_eq_eraseIdx,hj]
  have hesz:j<es.size:=by rw[←Array.length_toList];omega
  refine⟨{w with heap:=w.heap.setIfInBounds b (.map (es.eraseIdxIfInBounds j) cl)},?_,⟨_,_,setObj_same hlt,?_,?_,?_,?_⟩,setObj_kept _⟩
  ·rw[hj]at hf
   simp only[Option.bind_some,List.getElem?_eq_getElem hlt2,Option.map_some]at hf
   simp[Builtin.delete_,run_underlying hT,run_getObj_map h1,run_checkKey_int hK,hf,run_setObj_map h1]
  ·rw[Array.toList_eraseIdxIfInBounds,hdel,map_erase,h2,map_erase]
  ·intro e he
   rw[Array.toList_eraseIdxIfInBounds]at he
   exact h3 e (List.mem_of_mem_eraseIdx he)
  ·rw[Array.toList_eraseIdxIfInBounds,map_erase]
   exact h4.sublist (List.eraseIdx_sublist _ _)
  ·rw[hdel,map_erase]
   exact h5.sublist (List.eraseIdx_sublist _ _)
end
end Go.Proofs.YtepoejiigmhlbaaGreatDoor.Ev
namespace Go.Proofs.YtepoejiigmhlbaaGreatDoor.Ev
open Go Go.RowKit
section
variable {S:Nat→Prop} {P:Program} {w:World} {ops:Array Oper} {rest:List Oper} {o:Oper} {a:Act} {Q:Exit→Act→World→Prop}
theorem wp_mapUpdate {b:Nat} {k:IntKind} {M:IMap} {T K E:TypeId} (hT:P.underlying T=some (.map K E)) (hK:P.underlying K=some (.int k)) (h:IsMap w b k M)
  (hg:o.guard=none) (m x v:Operand) (hop:o.op=Op.mapUpdate T m x v) (hm:a.eval m= .map (some b)) (key:Int) (hx:a.eval x= .int k key) (val:Value) (hv:a.eval v=val)
  (hK':∀w',IsMap w' b k (mput M key val)→Kept (fun i=>i=b) w w'→wpList P ops Q rest (a.put o.dst undef) w'):wpList P ops Q (o::rest) a w:=by
 refine wpList_plain hg fun K' hK2=>?_
 obtain⟨w',hrun,r1,r2⟩:=h.update hT hK key val
 unfold Oper.wp
 simp[execOp,hop,hm,hx,hv,hrun,Result.andThen]
 exact hK2 _ _ (hK' w' r1 r2)
theorem wp_delete {b:Nat} {k:IntKind} {M:IMap} {T K E:TypeId} (hT:P.underlying T=some (.map K E)) (hK:P.underlying K=some (.int k)) (h:IsMap w b k M)
  (hg:o.guard=none) (m x:Operand) (hop:o.op=Op.call {callee:=.builtin .delete,args:=#[m,x],argTypes:=#[T,K]}) (hm:a.eval m= .map (some b)) (key:Int) (hx:a.eval x= .int k key)
  (hK':∀w',IsMap w' b k (mdel M key)→Kept (fun i=>i=b) w w'→wpList P ops Q rest (a.put o.dst (.tuple #[])) w'):wpList P ops Q (o::rest) a w:=by
 refine wpList_plain hg fun K' hK2=>?_
 obtain⟨w',hrun,r1,r2⟩:=h.delete hT hK key o.type
 unfold Oper.wp execOp
 simp only[hop,resolve,invoke,builtin,Sem.run_bind,Sem.run_pure,Result.andThen_ok,List.map_toArray,List.map_cons,List.map_nil,hm,hx,hrun]
 exact hK2 _ _ (hK' w' r1 r2)
theorem wp_append {e:TypeId} {i:TypeInfo} {z:Value} {size bytes:Nat} {t:TypeId} (ht:P.underlying t=some (.slice e)) (hi:P.info? e=some i) (hz:i.zero=some z)
  (hsize:i.size=size) (hby:i.bytes=bytes) (hzs:z.cells.size=size) (hsz:0<size) {v:Value} {n:Nat} {xs:List Value} (h:Sl S w e size v n xs) (hS:S w.heap.size)
  (hgd:o.guard=none) (s x:Operand) (ho:o.op= .call {callee:=.builtin .append,args:=#[s,x],argTypes:=#[t,t]}) (hs:a.eval s=v)
  (ad:Addr) (m c:Nat) (news:List Value) (hx:a.eval x= .slice (some ad) m c) (hl:news.length=m*size) (hnews:∀j u,news[j]?=some u→w.cell? (ad.add j)=some u) (h1:∀u∈news,u.oneCell'=true)
  (h63:n+m≤maxLen) (hbytes:(n+m)*bytes≤140737488355328)
  (hK:∀v' w',Sl S w' e size v' (n+m) (xs++news)→Kept (fun b=>v.ownBlock=some b∨w.heap.size≤b) w w'→(v'.ownBlock=v.ownBlock∨v'.ownBlock=some w.heap.size)→
   (v'= .slice none 0 0↔v= .slice none 0 0∧m=0)→wpList P ops Q rest (a.put o.dst v') w'):wpList P ops Q (o::rest) a w:=by
 refine wpList_append_own_at w hgd s x t ho 0 e i z size bytes ht hi hz hsize hby hzs hsz v n xs hs h.1 ad m c news hx hl hnews h1 h63 hbytes (Nat.zero_le _) fun v' w' h2 h3 h4 h5=>?_
 refine hK v' w' ⟨h2,fun g hg=>?_⟩ ?_ h5 h4
 ·rcases h5 with h5|h5
  ·exact h.2 g (h5▸hg)
  ·rw[h5]at hg
   injection hg with hg
   exact hg▸hS
 ·refine⟨h3.os,h3.tape,h3.output,h3.size,fun k hk=>?_⟩
  rcases Nat.lt_or_ge k w.heap.size with hlt|hge
  ·exact h3.block k hlt (fun e=>hk (.inl e.symm))
  ·exact absurd (.inr hge) hk
theorem wp_append1 {e:TypeId} {i:TypeInfo} {z:Value} {size bytes:Nat} {t:TypeId} (ht:P.underlying t=some (.slice e)) (hi:P.info? e=some i) (hz:i.zero=some z)
  (hsize:i.size=size) (hby:i.bytes=bytes) (hzs:z.cells.size=size) (hsz:0<size) {v:Value} {n:Nat} {xs:List Value} (h:Sl S w e size v n xs) (hS:S w.heap.size)
  (hgd:o.guard=none) (s x:Operand) (ho:o.op= .call {callee:=.builtin .append,args:=#[s,x],argTypes:=#[t,t]}) (hs:a.eval s=v)
  (ad:Addr) (m c:Nat) (news:List Value) (hx:a.eval x= .slice (some ad) m c) (hl:news.length=m*size) (hnews:∀j u,news[j]?=some u→w.cell? (ad.add j)=some u) (h1:∀u∈news,u.oneCell'=true)
  (h63:n+m≤maxLen) (hbytes:(n+m)*bytes≤140737488355328) (hpos:0<n+m)
  (hK:∀g cap w',Sl S w' e size (.slice (some ⟨g,0,none⟩) (n+m) cap) (n+m) (xs++news)→Kept (fun b=>v.ownBlock=some b∨w.heap.size≤b) w w'→(v.ownBlock=some g∨g=w.heap.size)→
   wpList P ops Q rest (a.put o.dst (.slice (some ⟨g,0,none⟩) (n+m) cap)) w'):wpList P ops Q (o::rest) a w:=by
 refine wp_append ht hi hz hsize hby hzs hsz h hS hgd s x ho hs ad m c news hx hl hnews h1 h63 hbytes fun v' w' h2 h3 h4 _=>?_
 obtain⟨g,cap,rfl,_⟩:=h2.form hpos
 refine hK g cap w' h2 h3 ?_
 rcases h4 with h4|h4
 ·exact .inl h4.symm
 ·injection h4 with h4
  exact .inr h4
end
section
variable {S:Nat→Prop} {w w2:World} {g bm:Nat} {A:Arena} {vl vf vq:Value}
theorem ARep.setFree (h:ARep S w g A vl vf vq bm) {free':List Nat} {g' cap:Nat} (hs:Sl S w2 3 1 (.slice (some ⟨g',0,none⟩) free'.length cap) free'.length (free'.map encInt))
  (hk:Kept (fun b=>vf.ownBlock=some b∨w.heap.size≤b) w w2):
  ARep S (w2.setCell ⟨g,1,none⟩ (.slice (some ⟨g',0,none⟩) free'.length cap)) g {A with free:=free'} vl (.slice (some ⟨g',0,none⟩) free'.length cap) vq bm:=by
 have hg:¬(vf.ownBlock=some g∨w.heap.size≤g):=by
  rintro(h1|h1)
  ·exact h.f.ne_row h.row (by decide) h1
  ·have:=h.row.lt;omega
 have hk2:Kept (fun b=>b=g) w2 _:=Kept.one w2 ⟨g,1,none⟩ (.slice (some ⟨g',0,none⟩) free'.length cap)
 have hr2:=h.row.kept hk hg
 have hl2:=h.l.kept hk (fun b hb=>by
  rintro(h1|h1)
  ·exact h.f.ne_sl h.l (by decide) hb h1
  ·have:=h.l.lt hb;omega)
 have hq2:=h.q.kept hk (fun b hb=>by
  rintro(h1|h1)
  ·exact h.f.ne_sl h.q (by decide) hb h1
  ·have:=h.q.lt hb;omega)
 have hm2:=h.m.kept hk (by
  rintro(h1|h1)
  ·exact h.f.ne_map h.m h1
  ·have:=h.m.lt;omega)
 exact⟨hr2.set_ 1 _,hl2.kept hk2 (fun b hb e=>hl2.ne_row hr2 (by decide) (e▸hb)),hs.kept hk2 (fun b hb e=>hs.ne_row hr2 (by decide) (e▸hb)),hq2.kept hk2 (fun b hb e=>hq2.ne_row hr2 (by decide) (e▸hb)),
  hm2.kept hk2 (fun e=>hm2.ne_row hr2 e),h.sg,h.sm⟩
theorem ARep.setL (h:ARep S w g A vl vf vq bm) {l':List Node} {g' cap:Nat} (hs:Sl S w2 148 5 (.slice (some ⟨g',0,none⟩) l'.length cap) l'.length (l'.flatMap encNode))
  (hk:Kept (fun b=>vl.ownBlock=some b∨w.heap.size≤b) w w2):
  ARep S (w2.setCell ⟨g,0,none⟩ (.slice (some ⟨g',0,none⟩) l'.length cap)) g {A with l:=l'} (.slice (some ⟨g',0,none⟩) l'.length cap) vf vq bm:=by
 have hg:¬(vl.ownBlock=some g∨w.heap.size≤g):=by
  rintro(h1|h1)
  ·exact h.l.ne_row h.row (by decide) h1
  ·have:=h.row.lt;omega
 have hk2:Kept (fun b=>b=g) w2 _:=Kept.one w2 ⟨g,0,none⟩ (.slice (some ⟨g',0,none⟩) l'.length cap)
 have hr2:=h.row.kept hk hg
 have hf2:=h.f.kept hk (fun b hb=>by
  rintro(h1|h1)
  ·exact h.l.ne_sl h.f (by decide) hb h1
  ·have:=h.f.lt hb;omega)
 have hq2:=h.q.kept hk (fun b hb=>by
  rintro(h1|h1)
  ·exact h.l.ne_sl h.q (by decide) hb h1
  ·have:=h.q.lt hb;omega)
 have hm2:=h.m.kept hk (by
  rintro(h1|h1)
  ·exact h.l.ne_map h.m h1
  ·have:=h.m.lt;omega)
 exact⟨hr2.set_ 0 _,hs.kept hk2 (fun b hb e=>hs.ne_row hr2 (by decide) (e▸hb)),hf2.kept hk2 (fun b hb e=>hf2.ne_row hr2 (by decide) (e▸hb)),hq2.kept hk2 (fun b hb e=>hq2.ne_row hr2 (by decide) (e▸hb)),
  hm2.kept hk2 (fun e=>hm2.ne_row hr2 e),h.sg,h.sm⟩
theorem ARep.setM (h:ARep S w g A vl vf vq bm) {M:List (Int×Nat)} (hm:IsMap w2 bm .u64 (encAt M)) (hk:Kept (fun i=>i=bm) w w2):ARep S w2 g {A with at_:=M} vl vf vq bm:=
 ⟨h.row.kept hk (fun e=>h.m.ne_row h.row e.symm),h.l.kept hk (fun b hb e=>h.l.ne_map h.m (e▸hb)),h.f.kept hk (fun b hb e=>h.f.ne_map h.m (e▸hb)),h.q.kept hk (fun b hb e=>h.q.ne_map h.m (e▸hb)),hm,h.sg,h.sm⟩
theorem mdel_encAt (M:List (Int×Nat)) (key:Int):mdel (encAt M) key=encAt (M.eraseP (fun y=>y.1==key)):=by
 unfold mdel encAt
 rw[List.eraseP_map]
 rfl
theorem mput_encAt (M:List (Int×Nat)) (key:Int) (n:Nat) (h:M.find? (fun y=>y.1==key)=none):mput (encAt M) key (.int .i64 n)=encAt (M++[(key,n)]):=by
 unfold mput
 rw[mget_encAt,h]
 simp[encAt]
end
end Go.Proofs.YtepoejiigmhlbaaGreatDoor.Ev
namespace Go.Proofs.YtepoejiigmhlbaaGreatDoor.Ev
open Go Go.RowKit
theorem infoInt:(Tryz.prog.info? 3).map (fun i=>(i.zero,i.size,i.bytes))=some (some (.int .i64 0),1,8):=by kernel_rfl
section
variable {S:Nat→Prop} {w:World} {g bm:Nat} {A:Arena} {vl vf vq:Value}
theorem unlink_len (n:Nat):(A.unlink n).l.length=A.l.length∧(A.unlink n).qs.length=A.qs.length:=by
 unfold Arena.unlink Arena.unlink3
 constructor
 ·show((A.unlink1 _).unlink2 _).l.length=_
  rw[(unlink2_len _).1,(unlink1_len _).1]
 ·simp only[Arena.setEnds,List.length_set]
  rw[(unlink2_len _).2,(unlink1_len _).2]
theorem unlink_rest (n:Nat):(A.unlink n).free=A.free∧(A.unlink n).at_=A.at_:=by
 unfold Arena.unlink Arena.unlink3 Arena.unlink2 Arena.unlink1 Arena.setEnds Arena.setNode
 split<;>split<;>exact⟨rfl,rfl⟩
set_option maxRecDepth 100000 in
set_option maxHeartbeats 2000000 in
theorem out_any (h:ARep S w g A vl vf vq bm) (hS:Up S w) (ok:A.Ok) (hq2:A.qs.length≤1000000) (key:Int) (hu:∀n,A.idx key=some n→∃q,A.CanUnlink n q):
  Calls Tryz.prog 28 #[.pointer (some ⟨g,0,none⟩),.int .u64 key] w fun e w'=>
   e= .returned (.tuple #[.int .i64 (A.outFreq key),.bool (A.idx key).isSome])∧Kept S w w'∧∃vl vf vq,ARep S w' g (A.out key) vl vf vq bm:=by
 have c0:=h.row.cell 0
 have c3:=h.row.cell 3
 have hk:=h.look key true
 cases hi:A.idx key with
 |none=>
  rw[hi]at hk
  have hw:A.out key=A:=by unfold Arena.out;rw[hi]
  have hf:A.outFreq key=0:=by unfold Arena.outFreq;rw[hi]
  rw[hw,hf]
  clear hi hw hf
  simp at c0 c3 hk
  go_enter Tryz.func28,Tryz.ntmps28
  go_wp2_with fail
  go_ret2
  exact⟨rfl,Kept.refl _ _,_,_,_,h⟩
 |some n=>
  rw[hi]at hk
  obtain⟨q,hq⟩:=hu n hi
  have hw:A.out key=A.outAt key n:=by unfold Arena.out;rw[hi]
  have hf:A.outFreq key=((A.unlink n).node n).freq:=by unfold Arena.outFreq;rw[hi]
  rw[hw,hf]
  have hn:=hq.lt
  clear hi hw hf
  simp at c0 c3 hk
  go_enter Tryz.func28,Tryz.ntmps28
  go_wp2_with fail
  refine(unlink_any h hS ok n q hq hq2).mono ?_
  rintro e w1 ⟨rfl,hk1,vl1,vq1,h1⟩
  have d0:=h1.row.cell 0
  have d1:=h1.row.cell 1
  have d3:=h1.row.cell 3
  obtain⟨ul,uq⟩:=unlink_len (A:=A) n
  obtain⟨uf,ua⟩:=unlink_rest (A:=A) n
  have hl1:=ok.l1
  have hl2:=ok.l2
  have hf2:=ok.free2
  obtain⟨gl,cl,rfl,hgl,hlc,hcm,hgl2⟩:=h1.l.form (by omega)
  have hn1:n<(A.unlink n).l.length:=by omega
  obtain⟨n0,n1,n2,n3,n4⟩:=h1.nodeCells hn1
  have s1:=h1.setNode (n:=n) (x':={((A.unlink n).node n)with q:= -1}) 4 (u:=.int .i64 (-1)) hn1 (by omega) rfl
  have hres:A.outAt key n={(A.unlink n).setNode n {((A.unlink n).node n)with q:= -1}with free:=A.free++[n],at_:=A.at_.eraseP (fun y=>y.1==key)}:=rfl
  have hB2:((A.unlink n).setNode n {((A.unlink n).node n)with q:= -1}).free=A.free∧((A.unlink n).setNode n {((A.unlink n).node n)with q:= -1}).at_=A.at_:=⟨uf,ua⟩
  have Hres:=Lib.hid hres
  clear hres
  generalize (A.unlink n).setNode n {((A.unlink n).node n)with q:= -1}=B2 at*
  have hS1:=hS.kept hk1
  have s1f:Sl S (w1.setCell ⟨gl,n*5+4,none⟩ (.int .i64 (-1))) 3 1 vf A.free.length (A.free.map encInt):=by rw[←hB2.1];exact s1.f
  obtain⟨i0,hi0,hz0,hz1,hz2⟩:=info_parts infoInt
  have hgs:=h1.row.lt
  have fl:=fun j=>h1.l.frz rfl j
  have fg:=fun j=>h1.row.frozen j
  have hne:¬gl=g∧¬g=gl:=by
   obtain⟨cs,hr⟩:=h1.l.row rfl
   have:=hr.ne_ h1.row (by decide)
   exact⟨this,fun e=>this e.symm⟩
  obtain⟨hne1,hne2⟩:=hne
  have hsg:=h1.sg
  have S1:=Lib.hid s1
  have HB2:=Lib.hid hB2
  have Hk1:=Lib.hid hk1
  have HS1:=Lib.hid hS1
  have S1f:=Lib.hid s1f
  clear s1 hB2 hk1 hS1 s1f
  have hkl:Kept S w1 (w1.setCell ⟨gl,n*5+4,none⟩ (.int .i64 (-1))):=Kept.setCell (Kept.refl _ _) hgl _
  have Hkl:=Lib.hid hkl
  clear hkl ul uq uf ua
  simp at d0 d1 d3
  have q1:S ((w1.setCell ⟨gl,n*5+4,none⟩ (.int .i64 (-1))).alloc (.cells #[.int .i64 n] 3)).heap.size:=HS1.out _ (by simp)
  have q2:∀j u,[Value.int .i64 n][j]?=some u→((w1.setCell ⟨gl,n*5+4,none⟩ (.int .i64 (-1))).alloc (.cells #[.int .i64 n] 3)).cell? ((⟨w1.heap.size,0,none⟩:Addr).add j)=some u:=by
   simpa using cell_one_new (w1.setCell ⟨gl,n*5+4,none⟩ (.int .i64 (-1))) (.int .i64 n) 3
  have q3:∀u∈ [Value.int .i64 n],u.oneCell'=true:=ints_oneCell .i64 [(n:Int)]
  have q4:A.free.length+1≤maxLen:=by unfold maxLen;omega
  have q5:(A.free.length+1)*8≤140737488355328:=by omega
  have Q1:=Lib.hid q1
  have Q2:=Lib.hid q2
  have Q3:=Lib.hid q3
  clear q1 q2 q3
  have s2:=S1.out.alloc (.cells #[.int .i64 n] 3)
  have q6:¬(vf.ownBlock=some g∨((w1.setCell ⟨gl,n*5+4,none⟩ (.int .i64 (-1))).alloc (.cells #[.int .i64 n] 3)).heap.size≤g):=by
   rintro(h0|h0)
   ·exact s2.f.ne_row s2.row (by decide) h0
   ·simp at h0;omega
  have q7:¬(vf.ownBlock=some bm∨((w1.setCell ⟨gl,n*5+4,none⟩ (.int .i64 (-1))).alloc (.cells #[.int .i64 n] 3)).heap.size≤bm):=by
   have:=s2.m.lt
   rintro(h0|h0)
   ·exact s2.f.ne_map s2.m h0
   ·omega
  have q8:¬bm=g:=s2.m.ne_row s2.row
  have S2:=Lib.hid s2
  have Q6:=Lib.hid q6
  have Q7:=Lib.hid q7
  clear s2 q6 q7
  go_wp2_with (first
   |(at_builtin;go_must (refine wp_append1 Tryz.underlying69 hi0 hz0 hz1 hz2 rfl (by decide) (S1f.out.alloc _) Q1.out rfl _ _ rfl rfl ⟨w1.heap.size,0,none⟩ 1 1 [.int .i64 n] rfl rfl Q2.out Q3.out q4 q5 (Nat.succ_pos _) ?_;intro g2 cap2 w2 hs2 hk2 hloc;have e1:=(S2.out.row.kept hk2 Q6.out).cell 1;have e3:=(S2.out.row.kept hk2 Q6.out).cell 3;have e5:=fun j=>(S2.out.row.kept hk2 Q6.out).frozen j;have M2:=Lib.hid (S2.out.m.kept hk2 Q7.out);have Hs2:=Lib.hid hs2;have Hk2:=Lib.hid hk2;clear hs2 hk2 hloc;simp at e1 e3))
   |(at_delete;go_must (refine wp_delete Tryz.underlying134 Tryz.underlying32 (M2.out.kept (Kept.one _ _ _) q8) rfl _ _ rfl rfl key rfl ?_;intro w3 hm3 hk3;have Hm3:=Lib.hid hm3;have Hk3:=Lib.hid hk3;clear hm3 hk3)))
  go_ret2
  have el:(A.free++[n]).length=A.free.length+1:=by simp
  have hs2:=Hs2.out
  have hs2':Sl S w2 3 1 (.slice (some ⟨g2,0,none⟩) (A.free++[n]).length cap2) (A.free++[n]).length ((A.free++[n]).map encInt):=by
   rw[el,List.map_append];exact hs2
  have f1:=S2.out.setFree hs2' Hk2.out
  have hm3:=Hm3.out
  rw[HB2.out.2,mdel_encAt]at hm3
  rw[el]at f1
  have f2:=f1.setM hm3 Hk3.out
  refine⟨rfl,?_,⟨_,_,_,by rw[Hres.out];exact f2⟩⟩
  ·have k2:Kept S w1 ((w1.setCell ⟨gl,n*5+4,none⟩ (.int .i64 (-1))).alloc (.cells #[.int .i64 n] 3)):=Hkl.out.alloc (HS1.out _ (by simp)) _
   have k3:Kept S w1 w2:=k2.trans (Hk2.out.mono (fun b hb=>by
    rcases hb with hb|hb
    ·exact S2.out.f.2 b hb
    ·exact HS1.out _ (Nat.le_trans k2.size hb)))
   have k4:=k3.setCell (p:=⟨g,1,none⟩) hsg (.slice (some ⟨g2,0,none⟩) (A.free.length+1) cap2)
   exact Hk1.out.trans (k4.trans (Hk3.out.mono (fun b hb=>by rw[hb];exact h1.sm)))
end
end Go.Proofs.YtepoejiigmhlbaaGreatDoor.Ev
namespace Go.Proofs.YtepoejiigmhlbaaGreatDoor.Ev
open Go Go.RowKit
theorem infoNode:(Tryz.prog.info? 148).map (fun i=>(i.zero,i.size,i.bytes))=some (some (.agg #[.int .u64 0,.int .i64 0,.int .i64 0,.int .i64 0,.int .i64 0]),5,40):=by kernel_rfl
theorem Sl.take {S:Nat→Prop} {w:World} {e:TypeId} {size n:Nat} {g cap:Nat} {xs:List Value} (h:Sl S w e size (.slice (some ⟨g,0,none⟩) n cap) n xs) (m:Nat) (hm:m≤n):
  Sl S w e size (.slice (some ⟨g,0,none⟩) m cap) m (xs.take (m*size)):=by
 obtain⟨⟨h0,h1⟩,h2⟩:=h
 obtain⟨g',cap',cur,hv,hb,hh,hc,hcm,hs,ht⟩:=h1.resolve_left (by rintro⟨h0,_⟩;cases h0)
 injection hv with hv hv1 hv2
 injection hv with hv
 injection hv with hv
 subst hv hv2
 have hmn:m*size≤n*size:=Nat.mul_le_mul_right _ hm
 refine⟨⟨by rw[List.length_take,h0];omega,.inr ⟨g,cap,cur,rfl,hb,hh,by omega,hcm,hs,?_⟩⟩,fun g hg=>h2 g hg⟩
 rw[←ht,List.take_take]
 congr 1
 omega
theorem Sl.shape {S:Nat→Prop} {w:World} {e:TypeId} {size n:Nat} {v:Value} {xs:List Value} (h:Sl S w e size v n xs):∃a c,v= .slice a n c:=by
 rcases h.1.2 with⟨rfl,rfl⟩|⟨g,cap,cur,rfl,_⟩
 ·exact⟨none,0,rfl⟩
 ·exact⟨_,cap,rfl⟩
theorem cells_new (w:World) (l:List Value) (t:TypeId):∀j u,l[j]?=some u→(w.alloc (.cells l.toArray t)).cell? ((⟨w.heap.size,0,none⟩:Addr).add j)=some u:=by
 intro j u hu
 have:=(Row.new w t l).cell j
 rw[hu]at this
 unfold Addr.add
 split
 ·rename_i h0
  subst h0
  exact this
 ·simpa using this
section
variable {S:Nat→Prop} {w:World} {g bm:Nat} {A:Arena} {vl vf vq:Value}
theorem place_lt (ok:A.Ok):A.place<A.ready.l.length:=by
 unfold Arena.place Arena.ready
 by_cases h:A.free=[]
 ·simp[h]
 ·simp only[h,if_false]
  refine ok.free _ ?_
  rw[List.getLastD_eq_getLast?,List.getLast?_eq_some_getLast h]
  exact List.getLast_mem h
theorem ready_parts:A.ready.qs=A.qs∧A.ready.at_=A.at_∧A.l.length≤A.ready.l.length∧A.ready.l.length≤A.l.length+1∧(∀n,n∈A.ready.free→n∈A.free)∧A.ready.free.length≤A.free.length:=by
 unfold Arena.ready
 by_cases h:A.free=[]
 ·simp[h]
 ·simp only[h,if_false]
  exact⟨trivial,trivial,Nat.le_refl _,Nat.le_succ _,fun n hn=>List.dropLast_subset _ hn,by simp⟩
theorem ready_node (n:Nat) (x:Node) (h:A.ready.l[n]?=some x):A.l[n]?=some x∨x=⟨0,0,0,0,0⟩:=by
 unfold Arena.ready at h
 split at h
 ·simp only[List.getElem?_append]at h
  split at h
  ·exact .inl h
  ·cases hn:n-A.l.length with
   |zero=>rw[hn]at h;simp at h;exact .inr h.symm
   |succ k=>rw[hn]at h;simp at h
 ·exact .inl h
def Arena.put_ (A:Arena) (key freq:Int):Arena:={(A.ready.setNode A.place ⟨key,freq,0,0,0⟩)with at_:=A.at_++[(key,A.place)]}
theorem Arena.put_ok (ok:A.Ok) {key freq:Int} {q:Nat} (hc:A.CanIn key freq q):(A.put_ key freq).Ok:=by
 obtain⟨r1,r2,r3,r4,r5,r6⟩:=ready_parts (A:=A)
 have hp:=place_lt ok
 have hl:(A.put_ key freq).l.length=A.ready.l.length:=List.length_set ..
 have hqs:(A.put_ key freq).qs=A.qs:=r1
 have hroom:=hc.room
 have hl1:=ok.l1
 have hq:=hc.lt
 refine⟨by omega,by omega,?_,?_,?_,?_,?_⟩
 ·intro n x hx
  have hx':(A.ready.l.set A.place ⟨key,freq,0,0,0⟩)[n]?=some x:=hx
  rw[hqs,hl]
  rw[List.getElem?_set]at hx'
  split at hx'
  ·injection hx' with hx'
   subst hx'
   exact⟨by show 0<_;omega,by show 0<_;omega,by show(0:Int)≤_;omega,hc.freq.1,hc.freq.2⟩
  ·rcases ready_node n x hx' with h|rfl
   ·obtain⟨a,b,c,d⟩:=ok.node n x h
    exact⟨by omega,by omega,c,d⟩
   ·exact⟨by show 0<_;omega,by show 0<_;omega,by show(0:Int)≤_;omega,by decide,by decide⟩
 ·intro n hn
  have:=ok.free n (r5 n hn)
  omega
 ·have:=ok.free2
  have h2:(A.put_ key freq).free=A.ready.free:=rfl
  rw[h2];omega
 ·intro q x hx
  rw[hqs]at hx
  obtain⟨a,b,c⟩:=ok.ends q x hx
  exact⟨by omega,by omega,c⟩
 ·intro k n hk
  have hk':((A.at_++[(key,A.place)]).find? (fun y=>y.1==k)).map (·.2)=some n:=hk
  rw[List.find?_append]at hk'
  cases hf:A.at_.find? (fun y=>y.1==k)with
  |some y=>
   rw[hf]at hk'
   have hk2:A.idx k=some n:=by unfold Arena.idx;rw[hf];simpa using hk'
   obtain⟨h1,h2⟩:=ok.at_ k n hk2
   refine⟨by omega,?_⟩
   show 0≤((A.ready.l.set A.place ⟨key,freq,0,0,0⟩)[n]?.getD ⟨0,0,0,0,0⟩).q
   rw[List.getElem?_set]
   split
   ·simp
   ·have:A.ready.l[n]?=A.l[n]?:=by
     unfold Arena.ready
     split
     ·simp[List.getElem?_append,h1]
     ·rfl
    rw[this]
    exact h2
  |none=>
   rw[hf]at hk'
   simp only[List.find?_cons,List.find?_nil,Option.none_or]at hk'
   split at hk'
   ·simp at hk'
    subst hk'
    refine⟨by omega,?_⟩
    show 0≤((A.ready.l.set A.place ⟨key,freq,0,0,0⟩)[A.place]?.getD ⟨0,0,0,0,0⟩).q
    rw[List.getElem?_set]
    simp[hp]
   ·simp at hk'
theorem ARep.dropFree {gf cf:Nat} (h:ARep S w g A vl (.slice (some ⟨gf,0,none⟩) A.free.length cf) vq bm) (hf:A.free≠ []):
  ARep S (w.setCell ⟨g,1,none⟩ (.slice (some ⟨gf,0,none⟩) (A.free.length-1) cf)) g A.ready vl (.slice (some ⟨gf,0,none⟩) (A.free.length-1) cf) vq bm:=by
 have e:A.ready={A with free:=A.free.dropLast}:=by unfold Arena.ready;rw[if_neg hf]
 have el:A.free.dropLast.length=A.free.length-1:=by simp
 have hs:=h.f.take (A.free.length-1) (by omega)
 have e2:(A.free.map encInt).take ((A.free.length-1)*1)=A.free.dropLast.map encInt:=by
  rw[Nat.mul_one,←List.map_take,List.dropLast_eq_take]
 rw[e2,←el]at hs
 have:=h.setFree hs ((Kept.refl _ w).mono (fun _ h=>h))
 rw[e,←el]
 exact this
set_option maxRecDepth 100000 in
set_option maxHeartbeats 2000000 in
theorem in_any (h:ARep S w g A vl vf vq bm) (hS:Up S w) (ok:A.Ok) (hq2:A.qs.length≤1000000) (key freq:Int) (q:Nat) (tail:Bool) (hc:A.CanIn key freq q):
  Calls Tryz.prog 92 #[.pointer (some ⟨g,0,none⟩),.int .u64 key,.int .i64 freq,.int .i64 q,.bool tail] w fun e w'=>
   e= .returned (.tuple #[])∧Kept S w w'∧∃vl vf vq,ARep S w' g (A.in_ key freq q tail) vl vf vq bm:=by
 have c0:=h.row.cell 0
 have c1:=h.row.cell 1
 have fg:=fun j=>h.row.frozen j
 have hl1:=ok.l1
 have hl2:=ok.l2
 have hf2:=ok.free2
 have hsg:=h.sg
 have hgs:=h.row.lt
 have hroom:=hc.room
 simp at c0 c1
 have HA:=Lib.hid h
 obtain⟨af,cf,rfl⟩:=h.f.shape
 clear h
 go_enter Tryz.func92,Tryz.ntmps92
 go_upto_if 18 with fail
 go_cut [10] (fun s10 wx=>s10= .int .i64 A.place∧Kept S w wx∧∃vl vf,ARep S wx g A.ready vl vf vq bm)
 case first=>
  by_cases hf:A.free=[]
  ·obtain⟨gl,cl,rfl,hgl,hlc,hcm,hgl2⟩:=HA.out.l.form hl1
   have h0:A.free.length=0:=by rw[hf];rfl
   have hp:A.place=A.l.length:=by unfold Arena.place;rw[if_pos hf]
   have hr:A.ready={A with l:=A.l++[⟨0,0,0,0,0⟩]}:=by unfold Arena.ready;rw[if_pos hf]
   obtain⟨i0,hi0,hz0,hz1,hz2⟩:=info_parts infoNode
   have q1:S (w.alloc (.cells #[.int .u64 0,.int .i64 0,.int .i64 0,.int .i64 0,.int .i64 0] 148)).heap.size:=hS _ (by simp)
   have q2:=cells_new w [.int .u64 0,.int .i64 0,.int .i64 0,.int .i64 0,.int .i64 0] 148
   have q3:∀u∈ [Value.int .u64 0,.int .i64 0,.int .i64 0,.int .i64 0,.int .i64 0],u.oneCell'=true:=by
    intro u hu;simp at hu;rcases hu with rfl|rfl<;>rfl
   have q4:A.l.length+1≤maxLen:=by unfold maxLen;omega
   have q5:(A.l.length+1)*40≤140737488355328:=by omega
   have s2:=HA.out.alloc (.cells #[.int .u64 0,.int .i64 0,.int .i64 0,.int .i64 0,.int .i64 0] 148)
   have q6:¬((Value.slice (some ⟨gl,0,none⟩) A.l.length cl).ownBlock=some g∨(w.alloc (.cells #[.int .u64 0,.int .i64 0,.int .i64 0,.int .i64 0,.int .i64 0] 148)).heap.size≤g):=by
    rintro(h0|h0)
    ·exact s2.l.ne_row s2.row (by decide) h0
    ·simp at h0;omega
   have S2:=Lib.hid s2
   have Q1:=Lib.hid q1
   have Q2:=Lib.hid q2
   have Q3:=Lib.hid q3
   have Q6:=Lib.hid q6
   have Hr:=Lib.hid hr
   have Hp:=Lib.hid hp
   have Hf:=Lib.hid hf
   clear s2 q1 q2 q3 q6 hr hp hf
   have h00:¬(0<A.free.length):=by omega
   have H0:=Lib.hid h0
   clear h0
   go_wp2_with (at_builtin;go_must (refine wp_append1 Tryz.underlying132 hi0 hz0 hz1 hz2 rfl (by decide) (S2.out.l) Q1.out rfl _ _ rfl rfl ⟨w.heap.size,0,none⟩ 1 1 [.int .u64 0,.int .i64 0,.int .i64 0,.int .i64 0,.int .i64 0] rfl rfl Q2.out Q3.out q4 q5 (Nat.succ_pos _) ?_;intro g2 cap2 w2 hs2 hk2 hloc;have e0:=(S2.out.row.kept hk2 Q6.out).cell 0;have e5:=fun j=>(S2.out.row.kept hk2 Q6.out).frozen j;have Hs2:=Lib.hid hs2;have Hk2:=Lib.hid hk2;clear hs2 hk2 hloc;simp at e0))
   go_meet
   have el:(A.l++[(⟨0,0,0,0,0⟩:Node)]).length=A.l.length+1:=by simp
   have hs2:=Hs2.out
   have hs2':Sl S w2 148 5 (.slice (some ⟨g2,0,none⟩) (A.l++[(⟨0,0,0,0,0⟩:Node)]).length cap2) (A.l++[(⟨0,0,0,0,0⟩:Node)]).length ((A.l++[(⟨0,0,0,0,0⟩:Node)]).flatMap encNode):=by
    rw[el,List.flatMap_append];exact hs2
   have f1:=S2.out.setL hs2' Hk2.out
   rw[el]at f1
   refine⟨by rw[Hp.out],?_,_,_,by rw[Hr.out];exact f1⟩
   have k2:=(Kept.refl S w).alloc (hS _ (Nat.le_refl _)) (.cells #[.int .u64 0,.int .i64 0,.int .i64 0,.int .i64 0,.int .i64 0] 148)
   have k3:Kept S w w2:=k2.trans (Hk2.out.mono (fun b hb=>by
    rcases hb with hb|hb
    ·exact S2.out.l.2 b hb
    ·exact hS _ (Nat.le_trans k2.size hb)))
   exact k3.setCell hsg _
  ·have hfl:0<A.free.length:=List.length_pos_iff.2 hf
   obtain⟨gf,cf,hv,hgf,hfc,hfm,_⟩:=HA.out.f.form hfl
   injection hv with hv _ hv2
   subst hv hv2
   have hlast:A.free[A.free.length-1]?=some A.place:=by
    unfold Arena.place
    rw[if_neg hf,List.getLastD_eq_getLast?,List.getLast?_eq_getElem?]
    rw[List.getElem?_eq_getElem (by omega)];rfl
   have cl:=HA.out.f.1.cellAt (A.free.length-1) (by omega)
   rw[List.getElem?_map,hlast]at cl
   simp[encInt]at cl
   have s1:=HA.out.dropFree hf
   have S1:=Lib.hid s1
   have Hf:=Lib.hid hf
   clear s1 hf hlast
   have e1:(A.free.length:Int)-1=(A.free.length-1:Nat):=by omega
   have E1:=Lib.hid e1
   clear e1
   go_wp2
   go_meet
   exact⟨rfl,(Kept.refl _ _).setCell hsg _,_,_,S1.out⟩
 case rest=>
  obtain⟨rfl,hk1,vl1,vf1,h1⟩:=hcut
  clear c0 c1 fg hgs
  obtain⟨r1,r2,r3,r4,r5,r6⟩:=ready_parts (A:=A)
  have d0:=h1.row.cell 0
  have d3:=h1.row.cell 3
  have hn:=place_lt ok
  obtain⟨gl,cl,rfl,hgl,hlc,hcm,hgl2⟩:=h1.l.form (by omega)
  obtain⟨n0,n1,n2,n3,n4⟩:=h1.nodeCells hn
  have fl:=fun j=>h1.l.frz rfl j
  have hne:¬gl=g∧¬g=gl:=by
   obtain⟨cs,hr⟩:=h1.l.row rfl
   have:=hr.ne_ h1.row (by decide)
   exact⟨this,fun e=>this e.symm⟩
  obtain⟨hne1,hne2⟩:=hne
  have hgb:¬bm=gl:=by
   obtain⟨cs,hr⟩:=h1.l.row rfl
   exact h1.m.ne_row hr
  have hpn:∀(B:Arena) (gl cl:Nat) (w:World) (vf:Value),ARep S w g B (.slice (some ⟨gl,0,none⟩) B.l.length cl) vf vq bm→A.place<B.l.length→
    ARep S (((((w.setCell ⟨gl,A.place*5,none⟩ (.int .u64 key)).setCell ⟨gl,A.place*5+1,none⟩ (.int .i64 freq)).setCell ⟨gl,A.place*5+2,none⟩ (.int .i64 0)).setCell ⟨gl,A.place*5+3,none⟩ (.int .i64 0)).setCell ⟨gl,A.place*5+4,none⟩ (.int .i64 0)) g
     (B.setNode A.place ⟨key,freq,0,0,0⟩) (.slice (some ⟨gl,0,none⟩) B.l.length cl) vf vq bm:=by
   intro B gl cl w vf hB hp
   have t1:=hB.setNode (x':={(B.node A.place)with key:=key}) 0 (u:=.int .u64 key) hp (by omega) rfl
   have t2:=t1.setNode (n:=A.place) (x':={(B.node A.place)with key:=key,freq:=freq}) 1 (u:=.int .i64 freq) (by rw[(setNode_len _ _).1];exact hp) (by omega) (by rw[node_setNode hp];rfl)
   rw[setNode_twice]at t2
   have t3:=t2.setNode (n:=A.place) (x':={(B.node A.place)with key:=key,freq:=freq,prev:=0}) 2 (u:=.int .i64 0) (by rw[(setNode_len _ _).1];exact hp) (by omega) (by rw[node_setNode hp];rfl)
   rw[setNode_twice]at t3
   have t4:=t3.setNode (n:=A.place) (x':={(B.node A.place)with key:=key,freq:=freq,prev:=0,next:=0}) 3 (u:=.int .i64 0) (by rw[(setNode_len _ _).1];exact hp) (by omega) (by rw[node_setNode hp];rfl)
   rw[setNode_twice]at t4
   have t5:=t4.setNode (n:=A.place) (x':=⟨key,freq,0,0,0⟩) 4 (u:=.int .i64 0) (by rw[(setNode_len _ _).1];exact hp) (by omega) (by rw[node_setNode hp];rfl)
   rw[setNode_twice,(setNode_len _ _).1]at t5
   exact t5
  have s5:=hpn A.ready gl cl wc vf1 h1 hn
  have hpre:(A.put_ key freq).l.length=A.ready.l.length:=List.length_set ..
  have hpq:(A.put_ key freq).qs=A.qs:=r1
  have hpe:(A.put_ key freq).ends q=A.ends q:=by unfold Arena.ends;rw[hpq]
  have hok:=Arena.put_ok ok hc
  have hat:A.at_.find? (fun y=>y.1==key)=none:=by
   have:=hc.none_
   unfold Arena.idx at this
   cases hh:A.at_.find? (fun y=>y.1==key)with
   |none=>rfl
   |some y=>rw[hh]at this;simp at this
  have S5:=Lib.hid s5
  have Hk1:=Lib.hid hk1
  have Hpq:=Lib.hid hpq
  have Hpe:=Lib.hid hpe
  have Hpre:=Lib.hid hpre
  have Hat:=Lib.hid hat
  have R2:=Lib.hid r2
  have HC:=Lib.hid hc
  clear hpn s5 hk1 hpq hpe hpre r1 r2 hat hc
  simp at d0 d3
  go_wp2_with (at_mapUpdate;go_must (refine wp_mapUpdate Tryz.underlying134 Tryz.underlying32 S5.out.m rfl _ _ _ rfl rfl key rfl (.int .i64 A.place) rfl ?_;intro w3 hm3 hk3;have Hm3:=Lib.hid hm3;have Hk3:=Lib.hid hk3;clear hm3 hk3))
  have hm3:=Hm3.out
  have hk3:=Hk3.out
  have e1:(A.ready.setNode A.place ⟨key,freq,0,0,0⟩).at_=A.at_:=R2.out
  rw[e1,mput_encAt _ _ _ Hat.out]at hm3
  have s6:ARep S w3 g (A.put_ key freq) _ vf1 vq bm:=S5.out.setM hm3 hk3
  have hk2:Kept S wc w3:=by
   refine Kept.trans ?_ (hk3.mono (fun b hb=>by rw[hb];exact h1.sm))
   repeat' first|with_reducible exact Kept.refl _ _|with_reducible refine Kept.setCell ?_ (by assumption) _
  refine(link_any s6 hok A.place q tail (by rw[Hpre.out];exact hn) HC.out.place.1 (by rw[Hpq.out];exact HC.out.lt) (by rw[Hpq.out];exact hq2) (by rw[Hpe.out];exact HC.out.place.2.1) (by rw[Hpe.out];exact HC.out.place.2.2)).mono ?_
  rintro e w4 ⟨rfl,hk4,vl4,vq4,h4⟩
  go_wp2
  go_end0
  exact⟨rfl,Hk1.out.trans (hk2.trans hk4),_,_,_,h4⟩
end
end Go.Proofs.YtepoejiigmhlbaaGreatDoor.Ev
namespace Go.Proofs.YtepoejiigmhlbaaGreatDoor.Ev
open Go Go.RowKit
theorem infoU64:(Tryz.prog.info? 32).map (fun i=>(i.zero,i.size,i.bytes))=some (some (.int .u64 0),1,8):=by kernel_rfl
def lenV:Value→Nat
 | .slice _ n _=>n
 |_=>0
section
variable {S So:Nat→Prop} {w:World} {g bm:Nat} {A:Arena} {vl vf vq:Value}
def keyVals (A:Arena) (ns:List Nat):List Value:=ns.map fun n=>.int .u64 (A.node n).key
set_option maxRecDepth 100000 in
set_option maxHeartbeats 1000000 in
theorem keys_any (h:ARep S w g A vl vf vq bm) (hSo:Up So w) (hd:∀b,S b→¬So b) (ok:A.Ok) (hq2:A.qs.length≤1000000) (q:Nat) (hq:q<A.qs.length) (ns:List Nat) (hc:Chain A (A.ends q).head ns) (hns:ns.length≤1000000):
  Calls Tryz.prog 34 #[.pointer (some ⟨g,0,none⟩),.int .i64 q] w fun e w'=>
   ∃v,e= .returned v∧Kept So w w'∧Sl So w' 32 1 v ns.length (keyVals A ns):=by
 have c0:=h.row.cell 0
 have c2:=h.row.cell 2
 have hl1:=ok.l1
 have hl2:=ok.l2
 obtain⟨gl,cl,rfl,hgl,hlc,hcm,hgl2⟩:=h.l.form hl1
 obtain⟨gq,cq,rfl,hgq,hqc,hqm,hgq2⟩:=h.q.form (by omega)
 obtain⟨e0,e1,e2⟩:=h.endsCells hq
 have HA:=Lib.hid h
 have HC:=Lib.hid hc
 have Hd:=Lib.hid hd
 have HSo:=Lib.hid hSo
 clear h hc hd hSo
 simp at c0 c2
 obtain⟨i0,hi0,hz0,hz1,hz2⟩:=info_parts infoU64
 go_enter Tryz.func34,Tryz.ntmps34
 go_wp2
 go_loopw [5,6] (fun v i wr=>∃sv done rest,sv=v∧ns=done++rest∧(∃hd',i= .int .i64 (hd':Nat)∧Chain A hd' rest)∧Sl So wr 32 1 v done.length (keyVals A done)∧Kept So w wr) (fun v _ _=>ns.length-lenV v)
 case atStart=>exact⟨_,[],ns,rfl,rfl,⟨_,rfl,HC.out⟩,⟨World.ownsRow_nil _ _ _ _,fun g hg=>by cases hg⟩,Kept.refl _ _⟩
 case round=>
  obtain⟨sv,done,rest,hsv,hns2,⟨hd',rfl,hch⟩,hsl,hk⟩:=hrel
  subst hsv
  cases rest with
  |nil=>
   have h0:hd'=0:=hch
   subst h0
   have HN:=Lib.hid hns2
   have HS:=Lib.hid hsl
   have HK:=Lib.hid hk
   clear hns2 hsl hk hch
   go_wp2
   go_ret
   exact⟨_,rfl,HK.out,by rw[HN.out,List.append_nil];exact HS.out⟩
  |cons n r=>
   obtain⟨rfl,hn0,hnl,hch⟩:=hch
   have hA:=HA.out.kept hk Hd.out
   have d0:=hA.row.cell 0
   obtain⟨n0,_,_,n3,_⟩:=hA.nodeCells hnl
   have hlen:done.length+1≤ns.length:=by rw[hns2];simp
   have hlenH:=Lib.hid hlen
   have b1:=bne0 hn0
   have hAa:=hA.alloc (.cells #[.int .u64 (A.node hd').key] 32)
   have hwr:=HSo.out.kept hk
   have q0:So wr.heap.size:=hwr _ (Nat.le_refl _)
   have q1:So (wr.alloc (.cells #[.int .u64 (A.node hd').key] 32)).heap.size:=hwr _ (by simp)
   have q2:=cells_new wr [.int .u64 (A.node hd').key] 32
   have q3:∀u∈ [Value.int .u64 (A.node hd').key],u.oneCell'=true:=by intro u hu;simp at hu;subst hu;rfl
   have q4:done.length+1≤maxLen:=by unfold maxLen;omega
   have q5:(done.length+1)*8≤140737488355328:=by omega
   have q6:∀b,S b→¬(sv.ownBlock=some b∨(wr.alloc (.cells #[.int .u64 (A.node hd').key] 32)).heap.size≤b):=by
    intro b hb h0
    rcases h0 with h0|h0
    ·exact Hd.out b hb (hsl.2 b h0)
    ·exact Hd.out b hb (hwr b (Nat.le_trans (by simp) h0))
   have q7:=hsl.alloc (.cells #[.int .u64 (A.node hd').key] 32)
   have HAa:=Lib.hid hAa
   have Q0:=Lib.hid q0
   have Q1:=Lib.hid q1
   have Q2:=Lib.hid q2
   have Q3:=Lib.hid q3
   have Q6:=Lib.hid q6
   have Q7:=Lib.hid q7
   have HN:=Lib.hid hns2
   have HS:=Lib.hid hsl
   have HK:=Lib.hid hk
   have HCh:=Lib.hid hch
   have HWr:=Lib.hid hwr
   clear hA hAa q0 q1 q2 q3 q6 q7 hns2 hsl hk hch hwr hn0
   simp at d0
   go_wp2_with (at_builtin;go_must (refine wp_append1 Tryz.underlying22 hi0 hz0 hz1 hz2 rfl (by decide) Q7.out Q1.out rfl _ _ rfl rfl ⟨wr.heap.size,0,none⟩ 1 1 [.int .u64 (A.node hd').key] rfl rfl Q2.out Q3.out q4 q5 (Nat.succ_pos _) ?_;intro g2 cap2 w2 hs2 hk2 hloc;have x0:=(HAa.out.kept hk2 Q6.out).row.cell 0;have x3:=((HAa.out.kept hk2 Q6.out).nodeCells hnl).2.2.2.1;have Hs2:=Lib.hid hs2;have Hk2:=Lib.hid hk2;clear hs2 hk2 hloc;simp at x0))
   go_roundw
   case rel=>
    refine⟨_,done++[hd'],r,rfl,by rw[HN.out];simp,⟨_,rfl,HCh.out⟩,?_,?_⟩
    ·have el:(done++[hd']).length=done.length+1:=by simp
     have:=Hs2.out
     unfold keyVals at this ⊢
     rw[el,List.map_append]
     exact this
    ·have k2:=HK.out.alloc Q0.out (.cells #[.int .u64 (A.node hd').key] 32)
     exact k2.trans (Hk2.out.mono (fun b hb=>by
      rcases hb with hb|hb
      ·exact HS.out.2 b hb
      ·exact HWr.out b (Nat.le_trans (by simp) hb)))
   case measure=>
    have h1:=hlenH.out
    have h2:lenV sv=done.length:=by
     obtain⟨a,c,e⟩:=HS.out.shape
     rw[e];rfl
    rw[h2]
    simp[lenV]
    omega
end
end Go.Proofs.YtepoejiigmhlbaaGreatDoor.Ev
namespace Go.Proofs.YtepoejiigmhlbaaGreatDoor.Ev
open Go Go.RowKit
theorem infoEnds:(Tryz.prog.info? 174).map (fun i=>(i.zero,i.size,i.bytes))=some (some (.agg #[.int .i64 0,.int .i64 0,.int .i64 0]),3,24):=by kernel_rfl
theorem flat_len {α:Type} (f:α→List Value) (k:Nat) (hk:∀x,(f x).length=k) (l:List α):(l.flatMap f).length=l.length*k:=by
 induction l with
 |nil=>simp
 |cons y l ih=>simp[List.flatMap_cons,ih,hk,Nat.add_mul,Nat.add_comm]
theorem madeCells_flat {α:Type} (f:α→List Value) (k:Nat) (hk:∀x,(f x).length=k) (hpos:0<k) (x:α) (n:Nat):madeCells (f x).toArray (n*k)=((List.replicate n x).flatMap f).toArray:=by
 apply Array.toList_inj.1
 apply List.ext_getElem?
 intro i
 have hsz:(f x).toArray.size=k:=by simp[hk]
 by_cases hi:i<n*k
 ·have hdiv:i/k<n:=Nat.div_lt_of_lt_mul (by rw[Nat.mul_comm];exact hi)
  have hmod:i%k<k:=Nat.mod_lt _ hpos
  have h1:=flat_get f k hk (List.replicate n x) (i/k) (i%k) x (by simp[List.getElem?_replicate,hdiv]) hmod
  have h2:i/k*k+i%k=i:=by rw[Nat.mul_comm];exact Nat.div_add_mod i k
  rw[h2]at h1
  simp only[List.toList_toArray]
  rw[h1]
  unfold madeCells
  simp only[Array.toList_map,Array.toList_range,List.getElem?_map,List.getElem?_range hi,Option.map_some,hsz]
  have h3:i%k<(f x).length:=by rw[hk];exact hmod
  rw[List.getElem?_eq_getElem h3]
  simp[h3]
 ·have h1:(madeCells (f x).toArray (n*k)).toList.length=n*k:=by simp[size_madeCells]
  rw[List.getElem?_eq_none (by omega),List.getElem?_eq_none (by rw[List.toList_toArray,flat_len f k hk];simp;omega)]
def Arena.new (n:Nat):Arena:=⟨[⟨0,0,0,0,0⟩],[],List.replicate n ⟨0,0,0⟩,[]⟩
section
variable {S:Nat→Prop} {w:World}
theorem Row.at_new {w:World} {g:Nat} (t:TypeId) (cs:List Value) (hg:g=w.heap.size):Row (w.alloc (.cells cs.toArray t)) g t cs:=by subst hg;exact Row.new w t cs
theorem IsMap.at_new {w:World} {g:Nat} (k:IntKind) (hg:g=w.heap.size):IsMap (w.alloc (.map #[] 0)) g k []:=by subst hg;exact IsMap.new w k
theorem IsMap.alloc {w:World} {b:Nat} {k:IntKind} {M:IMap} (h:IsMap w b k M) (o:Obj):IsMap (w.alloc o) b k M:=h.of_block (Below.heap_alloc w o b h.lt)
theorem IsMap.drew {w:World} {b:Nat} {k:IntKind} {M:IMap} (h:IsMap w b k M):IsMap w.drew b k M:=h
theorem Sl.of_row {w:World} {e:TypeId} {size n g:Nat} {xs:List Value} (h:Row w g e xs) (hs:S g) (hl:xs.length=n*size) (hn:n≤maxLen):Sl S w e size (.slice (some ⟨g,0,none⟩) n n) n xs:=
 ⟨⟨hl,.inr ⟨g,n,xs.toArray,rfl,Nat.zero_le _,h,Nat.le_refl _,hn,by simp[hl],by simp only[List.toList_toArray];rw[←hl,List.take_length]⟩⟩,fun b hb=>by injection hb with hb;exact hb▸hs⟩
theorem ARep.fresh {W:World} {g gl gq bm n:Nat} (hn:n≤1000000) (hr:Row W g 136 [.slice (some ⟨gl,0,none⟩) 1 1,.slice none 0 0,.slice (some ⟨gq,0,none⟩) n n,.map (some bm)])
  (hl:Row W gl 148 (encNode ⟨0,0,0,0,0⟩)) (hq:Row W gq 174 ((List.replicate n (⟨0,0,0⟩:Ends)).flatMap encEnds)) (hm:IsMap W bm .u64 [])
  (h1:S g) (h2:S gl) (h3:S gq) (h4:S bm):∃vl vf vq bm,ARep S W g (Arena.new n) vl vf vq bm:=by
 have e:(List.replicate n (⟨0,0,0⟩:Ends)).length=n:=by simp
 refine⟨_,_,_,_,hr,Sl.of_row hl h2 rfl (by unfold maxLen;omega),⟨World.ownsRow_nil _ _ _ _,fun b hb=>by cases hb⟩,?_,hm,h1,h4⟩
 have hq':=Sl.of_row (S:=S) hq h3 (size:=3) (n:=n) (by rw[flat_len encEnds 3 (fun _=>rfl),e]) (by unfold maxLen;omega)
 show Sl S W _ 3 _ (List.replicate n (⟨0,0,0⟩:Ends)).length _
 rw[e]
 exact hq'
set_option maxRecDepth 100000 in
set_option maxHeartbeats 1000000 in
theorem new_any (hS:Up S w) (n:Nat) (hn:n≤1000000):
  Calls Tryz.prog 23 #[.int .i64 n] w fun e w'=>∃g,e= .returned (.pointer (some ⟨g,0,none⟩))∧Kept S w w'∧∃vl vf vq bm,ARep S w' g (Arena.new n) vl vf vq bm:=by
 have hS':∀k,w.heap.size≤k→S k:=hS
 obtain⟨i0,hi0,hz0,hz1,hz2⟩:=info_parts infoEnds
 have hmk:∀W:World,(Instr.makeSlice 133 (.int .i64 (n:Int)) (.int .i64 (n:Int))).run Tryz.prog W=
   .ok (.slice (some ⟨W.heap.size,0,none⟩) n n) (W.alloc (.cells ((List.replicate n (⟨0,0,0⟩:Ends)).flatMap encEnds).toArray 174)):=by
  intro W
  have h:=run_make (P:=Tryz.prog) W 133 174 i0 _ Tryz.underlying133 hi0 hz0 .i64 .i64 (n:Int) (n:Int) (by omega) (by omega) (by rw[hz2];omega) (by omega)
  rw[hz1,Int.toNat_natCast]at h
  have e:(Value.agg #[.int .i64 0,.int .i64 0,.int .i64 0]).cells=(encEnds ⟨0,0,0⟩).toArray:=rfl
  rw[e,madeCells_flat encEnds 3 (fun _=>rfl) (by omega)]at h
  exact h
 have hm1:∀W:World,(Instr.makeSlice 132 (.int .i64 1) (.int .i64 1)).run Tryz.prog W= .ok (.slice (some ⟨W.heap.size,0,none⟩) 1 1) (W.alloc (.cells (encNode ⟨0,0,0,0,0⟩).toArray 148)):=fun W=>by kernel_rfl
 have hmm:=@run_makeMap Tryz.prog
 generalize hE:((List.replicate n (⟨0,0,0⟩:Ends)).flatMap encEnds)=E at hmk
 generalize hN:encNode ⟨0,0,0,0,0⟩=N at hm1
 have HE:=Lib.hid hE
 have HN:=Lib.hid hN
 clear hE hN hi0 hz0 hz1 hz2
 go_enter Tryz.func23,Tryz.ntmps23
 go_wp2
 go_region
 go_goals
 all_goals
  go_wp2
  go_ret
  refine⟨_,rfl,?_,?_⟩
  ·repeat' first|with_reducible exact Kept.refl _ _|with_reducible refine Kept.drew ?_|with_reducible refine Kept.alloc ?_ (hS' _ (by simp<;>omega)) _
  ·refine ARep.fresh hn (Row.drew (Row.at_new _ _ (by simp))) ?_ ?_ ?_ (hS _ (by omega)) (hS _ (by omega)) (hS _ (by omega)) (hS _ (by omega))
   ·rw[HN.out]
    repeat' first|with_reducible exact Row.at_new _ _ (by simp)|with_reducible refine Row.drew ?_|with_reducible refine Row.alloc ?_ _
   ·rw[HE.out]
    repeat' first|with_reducible exact Row.at_new _ _ (by simp)|with_reducible refine Row.drew ?_|with_reducible refine Row.alloc ?_ _
   ·repeat' first|with_reducible exact IsMap.at_new _ (by simp)|with_reducible refine IsMap.drew ?_|with_reducible refine IsMap.alloc ?_ _
end
end Go.Proofs.YtepoejiigmhlbaaGreatDoor.Ev
namespace Go.Proofs.YtepoejiigmhlbaaGreatDoor.Ev
open Go Go.RowKit
section
variable {S:Nat→Prop} {P:Program} {w:World} {ops:Array Oper} {o:Oper} {a:Act}
theorem step_append1 {K:Act→World→Prop} {Q:Exit→Act→World→Prop} {E:Prop} {e:TypeId} {i:TypeInfo} {z:Value} {size bytes:Nat} {t:TypeId} (ht:P.underlying t=some (.slice e)) (hi:P.info? e=some i) (hz:i.zero=some z)
  (hsize:i.size=size) (hby:i.bytes=bytes) (hzs:z.cells.size=size) (hsz:0<size) {v:Value} {n:Nat} {xs:List Value} (h:Sl S w e size v n xs) (hS:S w.heap.size)
  (hgd:o.guard=none) (s x:Operand) (ho:o.op= .call {callee:=.builtin .append,args:=#[s,x],argTypes:=#[t,t]}) (hs:a.eval s=v)
  (ad:Addr) (m c:Nat) (news:List Value) (hx:a.eval x= .slice (some ad) m c) (hl:news.length=m*size) (hnews:∀j u,news[j]?=some u→w.cell? (ad.add j)=some u) (h1:∀u∈news,u.oneCell'=true)
  (h63:n+m≤maxLen) (hbytes:(n+m)*bytes≤140737488355328) (hpos:0<m)
  (hK:∀g cap w',Sl S w' e size (.slice (some ⟨g,0,none⟩) (n+m) cap) (n+m) (xs++news)→Kept (fun b=>v.ownBlock=some b∨w.heap.size≤b) w w'→(v.ownBlock=some g∨g=w.heap.size)→
   K (a.put o.dst (.slice (some ⟨g,0,none⟩) (n+m) cap)) w'):if Region.wanted o (yielded ops a.tmps)=true then Oper.wp P o a w K Q else E:=by
 refine step_append_lies w hgd s x t ho 0 e i z size bytes ht hi hz hsize hby hzs hsz v n xs hs h.1 ad m c news hx hl hnews h1 hpos h63 hbytes (Nat.zero_le _) w.heap.size rfl fun g cap w' h2 h3 h4 h5=>?_
 refine hK g cap w' ⟨h2,fun g' hg'=>?_⟩ ?_ h4
 ·injection hg' with hg'
  simp only at hg'
  subst hg'
  rcases h4 with h4|h4
  ·exact h.2 _ h4
  ·rw[h4];exact hS
 ·refine⟨h3.os,h3.tape,h3.output,h3.size,fun k hk=>?_⟩
  rcases Nat.lt_or_ge k w.heap.size with hlt|hge
  ·exact h3.block k hlt (fun e=>hk (.inl e.symm))
  ·exact absurd (.inr hge) hk
end
end Go.Proofs.YtepoejiigmhlbaaGreatDoor.Ev
