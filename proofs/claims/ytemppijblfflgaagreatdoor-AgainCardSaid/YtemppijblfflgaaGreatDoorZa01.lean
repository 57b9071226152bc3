/- Parts of a proof that a law's walk returns true. Conditions: none. -/
import Derived.Test.YtemppijblfflgaaGreatDoorZa00
set_option linter.all false
set_option maxRecDepth 100000
set_option maxHeartbeats 8000000
namespace Go.Proofs.YtemppijblfflgaaGreatDoor.Ev
abbrev Ae:=List UInt8
abbrev G1:Ae:=[113,117,101,117,101]
abbrev G4:Ae:=[103,104,111,115,116]
abbrev IY:Ae:=[118,97,114]
abbrev BX:Ae:=[102,114,101,113]
abbrev Mv:Ae:=[111,110]
abbrev Ec:Ae:=[109,105,115,115]
abbrev Hn:Ae:=[112,117,116]
abbrev BN:Ae:=[116,97,105,108]
abbrev Db:Ae:=[101,118,105,99,116]
abbrev CN:Ae:=[115,104,105,102,116]
abbrev EJ:Ae:=[100,114,111,112]
abbrev Ia:Ae:=[105,110,99]
abbrev Ib:Ae:=[100,101,99]
abbrev EK:Ae:=[98,117,109,112]
abbrev Ew:Ae:=[99,111,111,108]
abbrev Iw:Ae:=[105,102]
abbrev BH:Ae:=[101,108,115,101]
abbrev Bb:Ae:=[114,101,112,101,97,116]
abbrev B9:Ae:=[119,104,105,108,101]
abbrev H6:Ae:=[110,111,116]
abbrev DT:Ae:=[102,117,108,108]
abbrev CF:Ae:=[101,109,112,116,121]
abbrev DS:Ae:=[119,97,114,109]
abbrev G2:Ae:=[108,101,110]
abbrev BG:Ae:=[110,97,109,101]
abbrev Bc:Ae:=[110,117,109,98,101,114]
abbrev DJ:Ae:=[101,110,100]
abbrev Bu:Ae:=[110,111,110,101]
abbrev Ar:Ae:=[59]
abbrev Bo:Ae:=[123]
abbrev AU:Ae:=[125]
abbrev Eu:Ae:=[60]
def AQ:List Ae:=[G1,G4,IY,BX,Mv,Ec,Hn,BN,Db,CN,EJ,Ia,Ib,EK,Ew,Iw,BH,Bb,B9,H6,DT,CF,DS,G2]
def blank (c:UInt8):Bool:=c==32||c==10
def low (c:UInt8):Bool:=decide (97≤c)&&decide (c≤122)
def E6 (c:UInt8):Bool:=decide (48≤c)&&decide (c≤57)
def FJ (c:UInt8):Bool:=c==59||c==123||c==125||c==60
structure Mc where
 kind:Ae
 text:Ae
 pos:Nat
def skip (p:UInt8→Bool) (s:Ae) (i:Nat):Nat:=i+((s.drop i).takeWhile p).length
def CT (s:Ae) (i k:Nat):Ae:=(s.take k).drop i
def D6 (s:Ae) (i0:Nat):Mc×Nat:=
 let i:=skip blank s i0
 match s[i]? with
 |none=>(⟨DJ,[],i⟩,i)
 |some c=>
  if low c then
   let k:=skip low s i
   if 8<k-i then(⟨Bu,[],i⟩,i)
   else(⟨if AQ.contains (CT s i k)then CT s i k else BG,CT s i k,i⟩,k)
  else if E6 c then
   let k:=skip E6 s i
   if 3<k-i then(⟨Bu,[],i⟩,i)else(⟨Bc,CT s i k,i⟩,k)
  else if FJ c then(⟨[c],[c],i⟩,i+1)
  else(⟨Bu,[],i⟩,i)
def eX:Nat:=1
def D1:Nat:=2
def QP:Nat:=3
def CG:Nat:=4
def WA:Nat:=5
def SI:Nat:=6
def Kn:Nat:=7
def Jp:Nat:=8
def Nl:Nat:=9
def Pk:Nat:=10
def UK:Nat:=11
def Oa:Nat:=12
structure Bf where
 kind:Nat
 name:Ae
 max:Int
inductive O0 where
 |num (n:Int)
 |var (n:Int)
 |len (n:Int)
 |freq
inductive CK where
 |full (n:Int)
 |empty (n:Int)
 |warm (n:Int)
 |less (a b:O0)
structure Da where
 k:CK
 nots:Nat
inductive D9 where
 |put (q:Int) (tail:Bool)
 |evict (q:Int)
 |cool (q:Int)
 |shift (q p:Int) (tail:Bool)
 |inc (v:Int)
 |dec (v:Int)
 |drop
 |bump
inductive AC where
 |nil
 |prim (p:D9) (rest:AC)
 |ite (c:Da) (thn:AC) (other:Bool) (els:AC) (rest:AC)
 |rep (n:Int) (c:Da) (body:AC) (rest:AC)
def AC.app:AC→AC→AC
 | .nil,r=>r
 | .prim p x,r=>.prim p (x.app r)
 | .ite c t o e x,r=>.ite c t o e (x.app r)
 | .rep n c b x,r=>.rep n c b (x.app r)
def AC.length:AC→Nat
 | .nil=>0
 | .prim _ x=>x.length+1
 | .ite _ _ _ _ x=>x.length+1
 | .rep _ _ _ x=>x.length+1
structure PS where
 t:Mc
 i:Nat
 decls:List Bf
 freq:Int
 fseen:Bool
 rules:List (Int×AC)
 depth:Nat
 loops:Nat
 wrong:Option (Nat×Nat)
inductive AJ (α:Type) where
 |ok (a:α) (st:PS)
 |bad (e:Nat) (pos:Nat)
def AJ.bind {α β:Type} (x:AJ α) (f:α→PS→AJ β):AJ β:=
 match x with
 | .ok a st=>f a st
 | .bad e p=>.bad e p
def AJ.map {α β:Type} (f:α→β):AJ α→AJ β
 | .ok a st=>.ok (f a) st
 | .bad e p=>.bad e p
def next (s:Ae) (st:PS):PS:={st with t:=(D6 s st.i).1,i:=(D6 s st.i).2}
def fail {α:Type} (e:Nat) (st:PS):AJ α:=.bad e st.t.pos
def note (e:Nat) (pos:Nat) (st:PS):PS:=
 match st.wrong with
 |none=>{st with wrong:=some (e,pos)}
 |some _=>st
def want (s:Ae) (k:Ae) (st:PS):AJ Mc:=
 if st.t.kind=k then .ok st.t (next s st)else fail D1 st
def take (s:Ae) (k:Ae) (st:PS):Bool×PS:=
 if st.t.kind=k then(true,next s st)else(false,st)
def atoi (l:Ae):Int:=l.foldl (fun n c=>10*n+((c.toNat:Int)-48)) 0
def number (s:Ae) (least most:Int) (st:PS):AJ Int:=
 (want s Bc st).bind fun t st=>
  .ok (atoi t.text) (if atoi t.text<least∨atoi t.text>most then note Kn t.pos st else st)
def C7 (name:Ae):List Bf→Nat→Int
 | [],_=> -1
 |d::l,k=>if d.name=name then(k:Int)else C7 name l (k+1)
def find (l:List Bf) (name:Ae):Int:=C7 name l 0
def Au (l:List Bf) (k:Int):Bf:=(l[k.toNat]?).getD ⟨0,[],0⟩
def Ch (Em:Bool) (t:Mc) (st:PS):PS:=
 if find st.decls t.text<0 then note WA t.pos st
 else if((Au st.decls (find st.decls t.text)).kind==2)!=Em then note SI t.pos st
 else st
def name (s:Ae) (Em:Bool) (st:PS):AJ Int:=
 (want s BG st).bind fun t st=>.ok (find st.decls t.text) (Ch Em t st)
def BZ (kind:Ae):Int:=if kind=IY then 99 else 50
def D2 (kind:Ae):Nat:=if kind=IY then 2 else if kind=G4 then 1 else 0
def Ba (n:Mc) (st:PS):PS:=
 let st:=if 0≤find st.decls n.text then note CG n.pos st else st
 if st.decls.length=8 then note Nl n.pos st else st
def decl (s:Ae) (st:PS):AJ Unit:=
 let t:=st.t
 let st:=next s st
 if t.kind=BX then
  let st:=if st.fseen then note CG t.pos st else st
  let st:={st with fseen:=true}
  (number s 1 99 st).bind fun n st=>(want s Ar {st with freq:=n}).bind fun _ st=>.ok () st
 else
  (want s BG st).bind fun n st=>
   (number s 1 (BZ t.kind) (Ba n st)).bind fun m st=>
    (want s Ar st).bind fun _ st=>.ok () {st with decls:=st.decls++[⟨D2 t.kind,n.text,m⟩]}
def value (s:Ae) (st:PS):AJ O0:=
 if st.t.kind=Bc then(number s 0 999 st).map .num
 else if st.t.kind=G2 then(name s false (next s st)).map .len
 else if st.t.kind=BX then .ok .freq (next s st)
 else(name s true st).map .var
def Eh (s:Ae) (st:PS):AJ Da:=
 if st.t.kind=DT then(name s false (next s st)).map fun n=>⟨.full n,0⟩
 else if st.t.kind=CF then(name s false (next s st)).map fun n=>⟨.empty n,0⟩
 else if st.t.kind=DS then(name s false (next s st)).map fun n=>⟨.warm n,0⟩
 else(value s st).bind fun a st=>(want s Eu st).bind fun _ st=>(value s st).map fun b=>⟨.less a b,0⟩
def cond (s:Ae):Nat→PS→AJ Da
 |0,st=>fail D1 st
 |n+1,st=>
  if st.t.kind=H6 then(cond s n (next s st)).map fun c=>⟨c.k,c.nots+1⟩
  else Eh s st
mutual
def block (s:Ae):Nat→PS→AJ AC
 |0,st=>fail D1 st
 |n+1,st=>
  if st.t.kind=Bo∧st.depth=8 then fail QP st
  else(want s Bo st).bind fun _ st=>
   (DH s n {st with depth:=st.depth+1}).bind fun b st=>.ok b (next s {st with depth:=st.depth-1})
def DH (s:Ae):Nat→PS→AJ AC
 |0,st=>fail D1 st
 |n+1,st=>
  if st.t.kind=AU then .ok .nil st
  else(stmt s n st).bind fun x st=>(DH s n st).map fun r=>x.app r
def stmt (s:Ae):Nat→PS→AJ AC
 |0,st=>fail D1 st
 |n+1,st=>
  let KN (x:D9) (st:PS):AJ AC:=(want s Ar st).bind fun _ st=>.ok (.prim x .nil) st
  if st.t.kind=Hn then(name s false (next s st)).bind fun q st=>KN (.put q (take s BN st).1) (take s BN st).2
  else if st.t.kind=Db then(name s false (next s st)).bind fun q st=>KN (.evict q) st
  else if st.t.kind=Ew then(name s false (next s st)).bind fun q st=>KN (.cool q) st
  else if st.t.kind=CN then(name s false (next s st)).bind fun q st=>(name s false st).bind fun p st=>
   KN (.shift q p (take s BN st).1) (take s BN st).2
  else if st.t.kind=Ia then(name s true (next s st)).bind fun v st=>KN (.inc v) st
  else if st.t.kind=Ib then(name s true (next s st)).bind fun v st=>KN (.dec v) st
  else if st.t.kind=EJ then KN .drop (next s st)
  else if st.t.kind=EK then KN .bump (next s st)
  else if st.t.kind=Iw then
   (cond s (n+1) (next s st)).bind fun c st=>(block s n st).bind fun t st=>
    if st.t.kind=BH then(block s n (next s st)).bind fun e st=>.ok (.ite c t true e .nil) st
    else .ok (.ite c t false .nil .nil) st
  else if st.t.kind=Bb then
   if st.loops=2 then fail QP st
   else(number s 1 50 (next s st)).bind fun k st=>(want s B9 st).bind fun _ st=>(cond s (n+1) st).bind fun c st=>
    (block s n {st with loops:=st.loops+1}).bind fun b st=>.ok (.rep k c b .nil) {st with loops:=st.loops-1}
  else fail D1 st
end
def AE (rules:List (Int×AC)) (k:Int):Option AC:=(rules.find? (fun x=>x.1==k)).map (·.2)
def Cv (s:Ae) (st:PS):AJ Int:=
 let at_:=st.t.pos
 let st:=next s st
 let x:AJ Int:=if st.t.kind=Ec then .ok (-1) (next s st)else name s false st
 x.bind fun k st=>.ok k (if(AE st.rules k).isSome&&st.wrong.isNone then note Jp at_ st else st)
def Gc (s:Ae) (n:Nat) (st:PS):AJ Unit:=
 (Cv s st).bind fun k st=>(block s n st).bind fun b st=>
  .ok () (if st.wrong.isNone then {st with rules:=st.rules++[(k,b)]}else st)
def isDecl (k:Ae):Bool:=k==G1||k==G4||k==IY||k==BX
def Cw (s:Ae):Nat→PS→AJ Unit
 |0,st=>fail D1 st
 |n+1,st=>if isDecl st.t.kind then(decl s st).bind fun _ st=>Cw s n st else .ok () st
def CR (s:Ae) (m:Nat):Nat→PS→AJ Unit
 |0,st=>fail D1 st
 |n+1,st=>if st.t.kind=Mv then(Gc s m st).bind fun _ st=>CR s m n st else .ok () st
def start (s:Ae):PS:=⟨(D6 s 0).1,(D6 s 0).2,[],0,false,[],0,0,none⟩
def EA (s:Ae):AJ Mc:=
 (Cw s 702 (start s)).bind fun _ st=>(CR s 1500 702 st).bind fun _ st=>want s DJ st
structure AF where
 decls:List Bf
 freq:Int
 rules:List (Int×AC)
def Cm (rules:List (Int×AC)):Option AC:=AE rules (-1)
def read (s:Ae):Except (Nat×Nat) AF:=
 if 700<s.length then .error (eX,0)
 else match EA s with
  | .bad e p=>.error (e,p)
  | .ok _ st=>match st.wrong with
   |some x=>.error x
   |none=>if(Cm st.rules).isNone then .error (Pk,0)else .ok ⟨st.decls,st.freq,st.rules⟩
end Go.Proofs.YtemppijblfflgaaGreatDoor.Ev
namespace Go.Proofs.YtemppijblfflgaaGreatDoor.Ev
open Go Go.RowKit
structure Af (S:Nat→Prop) (w w':World):Prop where
 os:w'.os=w.os
 tape:w'.tape=w.tape
 output:w'.output=w.output
 size:w.heap.size≤w'.heap.size
 block:∀k,¬S k→w'.heap[k]?=w.heap[k]?
def Up (S:Nat→Prop) (w:World):Prop:=∀k,w.heap.size≤k→S k
section
variable {S S':Nat→Prop} {w w' w'':World}
theorem Af.refl (S:Nat→Prop) (w:World):Af S w w:=⟨rfl,rfl,rfl,Ab _,fun _ _=>rfl⟩
theorem Af.trans (h:Af S w w') (k:Af S w' w''):Af S w w'':=
 ⟨k.os.trans h.os,k.tape.trans h.tape,k.output.trans h.output,Ai h.size k.size,fun i hi=>(k.block i hi).trans (h.block i hi)⟩
theorem Af.mono (h:Af S w w') (hS:∀k,S k→S' k):Af S' w w':=⟨h.os,h.tape,h.output,h.size,fun k hk=>h.block k (fun x=>hk (hS k x))⟩
theorem Up.kept (h:Up S w) (k:Af S' w w'):Up S w':=fun i hi=>h i (Ai k.size hi)
theorem Af.drew (h:Af S w w'):Af S w w'.drew:=⟨h.os,h.tape,h.output,h.size,h.block⟩
theorem Af.drewN (h:Af S w w') (n:Nat):Af S w (w'.drewN n):=⟨h.os,h.tape,h.output,h.size,h.block⟩
theorem Af.alloc (h:Af S w w') (hS:S w'.heap.size) (o:Obj):Af S w (w'.alloc o):=
 h.trans ⟨rfl,rfl,rfl,by simp,fun k hk=>by
  show(w'.heap.push o)[k]?=_
  rw[Array.getElem?_push,Ad (by rintro rfl;exact hk hS)]⟩
theorem Af.setCell (h:Af S w w') {p:Addr} (hp:S p.block) (u:Value):Af S w (w'.setCell p u):=
 h.trans ⟨rfl,rfl,rfl,by simp[World.setCell],fun k hk=>FU _ _ _ _ (fun e=>hk (e▸hp))⟩
theorem Af.one (w:World) (p:Addr) (u:Value):Af (fun b=>b=p.block) w (w.setCell p u):=Af.setCell (S:=fun b=>b=p.block) (Af.refl _ w) rfl u
theorem Af.cell (h:Af S w w') {p:Addr} (hp:¬S p.block):w'.cell? p=w.cell? p:=World.cell?_of_block (w:=w) (h.block p.block hp)
theorem Af.frozen (h:Af S w w') {p:Addr} (hp:¬S p.block):w'.frozen? p=w.frozen? p:=World.frozen?_of_block (w:=w) (h.block p.block hp)
theorem Af.below {B:Nat} (h:Af S w w') (hS:∀k,S k→B≤k):Below B w w':=⟨h.os,h.tape,h.output,h.size,fun k hk=>h.block k (fun x=>by have:=hS k x;omega)⟩
theorem Af.of_below {B:Nat} (h:Below B w w') (hS:∀k,B≤k→S k):Af S w w':=⟨h.os,h.tape,h.output,h.size,fun k hk=>h.block k (by
 rcases BP k B with h1|h1
 ·exact h1
 ·exact absurd (hS k h1) hk)⟩
end
theorem DM {P:Program} {id:Nat} {Q:Exit→Act→World→Prop} {a:Act} {w:World} {l:List Oper} (n:Nat) (hm:P.follows .mixedOrders=true) (hB:Region.lexTailB .any l.toArray n=true)
  (h:wpStill P l.toArray w.drew (fun a'=>wpList P l.toArray Q (l.drop n) a' w.drew) (l.take n) a):(Code.region id l.toArray true).wp P Q a w:=wp_region_still_tail n hm hB h
theorem CX (w:World) (n:Nat) (a:Addr) (v:Value):(w.drewN n).setCell a v=(w.setCell a v).drewN n:=rfl
theorem FX (w:World) (n:Nat) (o:Obj):(w.drewN n).alloc o=(w.alloc o).drewN n:=rfl
theorem Dr (w:World) (a:Addr) (v:Value):w.drew.setCell a v=(w.setCell a v).drew:=rfl
theorem Ha (w:World) (o:Obj):w.drew.alloc o=(w.alloc o).drew:=rfl
def AM (w:World) (g:Nat) (t:TypeId) (cs:List Value):Prop:=w.heap[g]?=some (.cells cs.toArray t (0,0))
section
variable {S:Nat→Prop} {w w':World} {g g':Nat} {t t':TypeId} {cs VG:List Value}
theorem AM.lt (h:AM w g t cs):g<w.heap.size:=by
 rcases BP g w.heap.size with Cy|Xn
 ·exact Cy
 ·unfold AM at h;rw[Ce Xn]at h;cases h
theorem AM.cell (h:AM w g t cs) (i:Nat):w.cell? ⟨g,i,none⟩=cs[i]?:=(cell_of_row w g i cs.toArray t (0,0) h).trans (by simp)
theorem AM.frozen (h:AM w g t cs) (i:Nat):w.frozen? ⟨g,i,none⟩=false:=by unfold AM at h;simp[World.frozen?,h]
theorem AM.new (w:World) (t:TypeId) (cs:List Value):AM (w.alloc (.cells cs.toArray t)) w.heap.size t cs:=OR w _
theorem AM.drew (h:AM w g t cs):AM w.drew g t cs:=h
theorem AM.drewN (h:AM w g t cs) (n:Nat):AM (w.drewN n) g t cs:=h
theorem AM.alloc (h:AM w g t cs) (o:Obj):AM (w.alloc o) g t cs:=(FR w o g h.lt).trans h
theorem AM.set_ (h:AM w g t cs) (i:Nat) (u:Value):AM (w.setCell ⟨g,i,none⟩ u) g t (cs.set i u):=by
 unfold AM at h ⊢
 simp[World.setCell,Array.getElem?_modify,h]
theorem AM.far (h:AM w g t cs) {p:Addr} (hp:g≠p.block) (u:Value):AM (w.setCell p u) g t cs:=(FU w p u g hp).trans h
theorem AM.kept (h:AM w g t cs) (k:Af S w w') (hg:¬S g):AM w' g t cs:=(k.block g hg).trans h
theorem AM.ne_ (h:AM w g t cs) (h':AM w g' t' VG) (Cu:t≠t'):g≠g':=by
 rintro rfl
 unfold AM at h h'
 rw[h]at h'
 injection h' with h'
 injection h' with _ ht
 exact Cu ht
end
abbrev GP:=List (Int×Value)
def FT (M:GP) (x:Int):Option Value:=(M.find? (fun y=>y.1==x)).map (·.2)
def SP (M:GP) (x:Int) (v:Value):GP:=if(FT M x).isSome then M.map (fun y=>if y.1==x then(x,v)else y)else M++[(x,v)]
def Y8 (M:GP) (x:Int):GP:=M.eraseP (fun y=>y.1==x)
def BV (w:World) (b:Nat) (k:IntKind) (M:GP):Prop:=
 ∃es clock,w.heap[b]?=some (.map es clock)∧es.toList.map (fun e=>(e.key,e.val))=M.map (fun x=>(Value.int k x.1,x.2))∧
  (∀e∈es.toList,e.born<clock)∧(es.toList.map (·.born)).Nodup∧(M.map (·.1)).Nodup
section
variable {S:Nat→Prop} {w w':World} {b:Nat} {k:IntKind} {M:GP}
theorem BV.of_block (h:BV w b k M) (hb:w'.heap[b]?=w.heap[b]?):BV w' b k M:=by
 obtain⟨es,c,h1,h2⟩:=h
 exact⟨es,c,hb.trans h1,h2⟩
theorem BV.kept (h:BV w b k M) (hk:Af S w w') (hb:¬S b):BV w' b k M:=h.of_block (hk.block b hb)
theorem BV.lt (h:BV w b k M):b<w.heap.size:=by
 obtain⟨es,c,h1,_⟩:=h
 rcases BP b w.heap.size with Cy|Xn
 ·exact Cy
 ·rw[Ce Xn]at h1;cases h1
theorem BV.ne_row (h:BV w b k M) {g:Nat} {t:TypeId} {cs:List Value} (hr:AM w g t cs):b≠g:=by
 rintro rfl
 obtain⟨es,c,h1,_⟩:=h
 unfold AM at hr
 rw[hr]at h1
 cases h1
theorem BV.new (w:World) (k:IntKind):BV (w.alloc (.map #[] 0)) w.heap.size k []:=
 ⟨#[],0,OR w _,rfl,by simp,by simp,by simp⟩
theorem SF (k:IntKind) (x:Int):∀(es:List MapEntry) (M:GP) (i:Nat),es.map (fun e=>(e.key,e.val))=M.map (fun y=>(Value.int k y.1,y.2))→
  Instr.findNow (.int k) (.int k x) es i=some ((M.findIdx? (fun y=>y.1==x)).bind fun j=>(M[j]?).map fun y=>(i+j,y.2))
 | [],[],i,_=>rfl
 | [],_::_,_,h=>by simp at h
 |_::_,[],_,h=>by simp at h
 |e::es,y::M,i,h=>by
  simp only[Cq,J9,Yc]at h
  obtain⟨⟨hk,hv⟩,hr⟩:=h
  unfold Instr.findNow
  rw[hk]
  simp only[Instr.sameNow,A0]
  by_cases hx:x=y.1
  ·subst hx
   simp[O4,hv]
  ·have h1:(x==y.1)=false:=by simpa using hx
   have h2:(y.1==x)=false:=by simpa using fun e=>hx e.symm
   simp only[h1,O4,h2]
   rw[SF k x es M (i+1) hr]
   cases M.findIdx? (fun y=>y.1==x)with
   |none=>rfl
   |some j=>simp[FC 1 j,E3]
theorem Y7 (M:GP) (x:Int):FT M x=(M.findIdx? (fun y=>y.1==x)).bind fun j=>(M[j]?).map (·.2):=by
 unfold FT
 induction M with
 |nil=>rfl
 |cons y M ih=>
  by_cases hx:y.1==x
  ·simp[J8,O4,hx]
  ·simp only[Sg]at hx
   simp only[J8,hx,O4,ih]
   cases M.findIdx? (fun y=>y.1==x)with
   |none=>rfl
   |some j=>simp
theorem FH {P:Program} {t:TypeId} (ht:P.underlying t=some (.int k)) (em:Bool) (x:Int) (w:World):(Instr.checkKey em 10000 t (.int k x)).run P w= .ok () w:=by
 have h:∀n,(Instr.checkKey em (n+1) t (.int k x)).run P w= .ok () w:=fun n=>by simp only[Instr.checkKey,JE,Jh ht,Ly];rfl
 exact h 9999
theorem JW {P:Program} {t:TypeId} (ht:P.underlying t=some (.int k)) (x:Int) (es:List MapEntry) (hM:es.map (fun e=>(e.key,e.val))=M.map (fun y=>(Value.int k y.1,y.2))) (w:World):
  (Instr.findKey t (.int k x) es).run P w= .ok ((M.findIdx? (fun y=>y.1==x)).bind fun j=>(M[j]?).map fun y=>(j,y.2)) w:=by
 have h:=SF k x es M 0 hM
 simp only[FA]at h
 simp[Instr.findKey,Jh ht,h]
theorem GV {P:Program} {w:World} {b:Nat} {es:Array MapEntry} {c:Nat} (h:w.heap[b]?=some (.map es c)):(getObj b).run P w= .ok (.map es c) w:=by
 simp[getObj,Sem.run,h]
theorem IR {P:Program} {w:World} {b:Nat} {es:Array MapEntry} {c:Nat} (h:w.heap[b]?=some (.map es c)) (o:Obj):
  (setObj b o).run P w= .ok () {w with heap:=w.heap.setIfInBounds b o}:=by
 simp[setObj,Sem.run,h]
theorem BV.lookup {P:Program} {T K E:TypeId} (h:BV w b k M) (hT:P.underlying T=some (.map K E)) (hK:P.underlying K=some (.int k)) {z:Value} (hz:∀w,(zeroValue E).run P w= .ok z w)
  (x:Int) (c:Bool):(Instr.lookup T (.map (some b)) (.int k x) c).run P w=
   .ok (if c then .tuple #[(FT M x).getD z,.bool (FT M x).isSome]else(FT M x).getD z) w:=by
 obtain⟨es,cl,h1,h2,_⟩:=h
 have hf:=JW hK x es.toList h2 w
 rw[Y7]
 simp only[Instr.lookup,JE,Jh hT,Ly,GV h1,FH hK,hf,Sem.run_pure]
 cases hj:M.findIdx? (fun y=>y.1==x)with
 |none=>simp[hz]
 |some j=>
  have Cy:j<M.length:=by
   obtain⟨Cy,_⟩:=Li.1 hj
   exact Cy
  simp[Ah Cy]
end
abbrev vs (l:Ae):Value:=.string ⟨l.toArray⟩
end Go.Proofs.YtemppijblfflgaaGreatDoor.Ev
namespace Go.Proofs.YtemppijblfflgaaGreatDoor.Ev
structure Node where
 key:Int
 freq:Int
 prev:Nat
 next:Nat
 q:Int
deriving Inhabited
structure O6 where
 head:Nat
 tail:Nat
 n:Nat
deriving Inhabited
structure Am where
 l:List Node
 free:List Nat
 qs:List O6
 at_:List (Int×Nat)
def Am.idx (A:Am) (key:Int):Option Nat:=(A.at_.find? (fun y=>y.1==key)).map (·.2)
def Am.node (A:Am) (n:Nat):Node:=(A.l[n]?).getD ⟨0,0,0,0,0⟩
def Am.ends (A:Am) (q:Nat):O6:=(A.qs[q]?).getD ⟨0,0,0⟩
def Am.where_ (A:Am) (key:Int):Int:=
 match A.idx key with
 |none=> -1
 |some n=>(A.node n).q
def Am.len (A:Am) (q:Nat):Nat:=(A.ends q).n
def Am.tail (A:Am) (q:Nat):Int:=(A.node (A.ends q).tail).key
def Am.freqOf (A:Am) (key:Int):Int:=
 match A.idx key with
 |none=>0
 |some n=>(A.node n).freq
def Am.setNode (A:Am) (n:Nat) (x:Node):Am:={A with l:=A.l.set n x}
def Am.setEnds (A:Am) (q:Nat) (x:O6):Am:={A with qs:=A.qs.set q x}
def DO (n by_ most:Int):Int:=min (max (n+by_) 0) most
def Am.tune (A:Am) (key by_ most:Int):Am:=
 match A.idx key with
 |none=>A
 |some n=>A.setNode n {(A.node n)with freq:=DO (A.node n).freq by_ most}
def Am.unlink1 (A:Am) (x:Node):Am:=
 if x.prev=0 then A.setEnds x.q.toNat {(A.ends x.q.toNat)with head:=x.next}else A.setNode x.prev {(A.node x.prev)with next:=x.next}
def Am.unlink2 (A:Am) (x:Node):Am:=
 if x.next=0 then A.setEnds x.q.toNat {(A.ends x.q.toNat)with tail:=x.prev}else A.setNode x.next {(A.node x.next)with prev:=x.prev}
def Am.unlink3 (A:Am) (x:Node):Am:=A.setEnds x.q.toNat {(A.ends x.q.toNat)with n:=(A.ends x.q.toNat).n-1}
def Am.unlink (A:Am) (n:Nat):Am:=((A.unlink1 (A.node n)).unlink2 (A.node n)).unlink3 (A.node n)
def AZ (A:Am) (n q:Nat) (tail:Bool):Node:=
 {(A.node n)with q:=(q:Int),prev:=if tail then(A.ends q).tail else 0,next:=if tail then 0 else(A.ends q).head}
def Am.link1 (A:Am) (n q:Nat) (x:Node):Am:=
 if x.prev=0 then A.setEnds q {(A.ends q)with head:=n}else A.setNode x.prev {(A.node x.prev)with next:=n}
def Am.link2 (A:Am) (n q:Nat) (x:Node):Am:=
 if x.next=0 then A.setEnds q {(A.ends q)with tail:=n}else A.setNode x.next {(A.node x.next)with prev:=n}
def Am.link3 (A:Am) (q:Nat):Am:=A.setEnds q {(A.ends q)with n:=(A.ends q).n+1}
def Am.link (A:Am) (n q:Nat) (tail:Bool):Am:=
 (((A.setNode n (AZ A n q tail)).link1 n q (AZ A n q tail)).link2 n q (AZ A n q tail)).link3 q
def Am.outAt (A:Am) (key:Int) (n:Nat):Am:=
 {(A.unlink n).setNode n {((A.unlink n).node n)with q:= -1}with free:=A.free++[n],at_:=A.at_.eraseP (fun y=>y.1==key)}
def Am.out (A:Am) (key:Int):Am:=
 match A.idx key with
 |none=>A
 |some n=>A.outAt key n
def Am.outFreq (A:Am) (key:Int):Int:=
 match A.idx key with
 |none=>0
 |some n=>((A.unlink n).node n).freq
def Am.place (A:Am):Nat:=if A.free=[]then A.l.length else A.free.getLastD 0
def Am.ready (A:Am):Am:=if A.free=[]then {A with l:=A.l++[⟨0,0,0,0,0⟩]}else {A with free:=A.free.dropLast}
def Am.in_ (A:Am) (key freq:Int) (q:Nat) (tail:Bool):Am:=
 {(A.ready.setNode A.place ⟨key,freq,0,0,0⟩)with at_:=A.at_++[(key,A.place)]}.link A.place q tail
structure Am.Ok (A:Am):Prop where
 l1:0<A.l.length
 l2:A.l.length≤1000000
 node:∀(n:Nat) (x:Node),A.l[n]?=some x→x.prev<A.l.length∧x.next<A.l.length∧x.q≤A.qs.length∧0≤x.freq∧x.freq≤1000
 free:∀n∈A.free,n<A.l.length
 free2:A.free.length≤1000000
 ends:∀(q:Nat) (x:O6),A.qs[q]?=some x→x.head<A.l.length∧x.tail<A.l.length∧x.n≤1000000
 at_:∀key n,A.idx key=some n→n<A.l.length∧0≤(A.node n).q
structure Am.CanUnlink (A:Am) (n q:Nat):Prop where
 lt:n<A.l.length
 at_:(A.node n).q=(q:Int)
 one:0<(A.ends q).n
 ql:q<A.qs.length
structure Am.CanIn (A:Am) (key freq:Int) (q:Nat):Prop where
 none_:A.idx key=none
 lt:q<A.qs.length
 freq:0≤freq∧freq≤1000
 room:A.l.length<1000000
 place:A.place≠0∧(A.ends q).head≠A.place∧(A.ends q).tail≠A.place
end Go.Proofs.YtemppijblfflgaaGreatDoor.Ev
namespace Go.Proofs.YtemppijblfflgaaGreatDoor.Ev
open Go Go.RowKit
def DZ (x:Node):List Value:=[.int .u64 x.key,.int .i64 x.freq,.int .i64 x.prev,.int .i64 x.next,.int .i64 x.q]
def EF (x:O6):List Value:=[.int .i64 x.head,.int .i64 x.tail,.int .i64 x.n]
def Ld (n:Nat):Value:=.int .i64 n
def FV (M:List (Int×Nat)):GP:=M.map fun x=>(x.1,.int .i64 x.2)
def Sl (S:Nat→Prop) (w:World) (e:TypeId) (size:Nat) (v:Value) (n:Nat) (xs:List Value):Prop:=
 w.ownsRow 0 e size v n xs∧∀g,v.ownBlock=some g→S g
theorem UE {α:Type} (f:α→List Value) (k:Nat) (hk:∀x,(f x).length=k):∀(l:List α) (i j:Nat) (x:α),l[i]?=some x→j<k→(l.flatMap f)[i*k+j]?=(f x)[j]?
 | [],i,j,x,h,_=>by simp at h
 |y::l,0,j,x,h,hj=>by
  simp only[Bm,De]at h
  subst h
  rw[LA,B7 (by rw[hk];omega)]
  simp
 |y::l,i+1,j,x,h,hj=>by
  simp only[Eb]at h
  have e:(i+1)*k+j=k+(i*k+j):=by rw[KB];omega
  rw[LA,e,Ck (by rw[hk];omega),hk,Dj]
  exact UE f k hk l i j x h hj
section
variable {S:Nat→Prop} {w w':World} {e:TypeId} {size n:Nat} {v:Value} {xs:List Value}
theorem Sl.form (h:Sl S w e size v n xs) (hn:0<n):∃g cap,v= .slice (some ⟨g,0,none⟩) n cap∧S g∧n≤cap∧cap≤maxLen∧g<w.heap.size:=by
 obtain⟨⟨_,h1⟩,h2⟩:=h
 rcases h1 with⟨_,h0⟩|⟨g,cap,cur,rfl,_,hg,h3,h4,_⟩
 ·omega
 ·exact⟨g,cap,rfl,h2 g rfl,h3,h4,AM.lt (cs:=cur.toList) (by unfold AM;simpa using hg)⟩
theorem Sl.kept (h:Sl S w e size v n xs) {S1:Nat→Prop} (hk:Af S1 w w') (hS:∀g,v.ownBlock=some g→¬S1 g):Sl S w' e size v n xs:=by
 obtain⟨⟨h0,h1⟩,h2⟩:=h
 refine⟨⟨h0,?_⟩,h2⟩
 rcases h1 with h1|⟨g,cap,cur,rfl,hb,hg,h3⟩
 ·exact .inl h1
 ·exact .inr ⟨g,cap,cur,rfl,hb,(hk.block g (hS g rfl)).trans hg,h3⟩
theorem Sl.mono (h:Sl S w e size v n xs) {S':Nat→Prop} (hS:∀k,S k→S' k):Sl S' w e size v n xs:=⟨h.1,fun g hg=>hS g (h.2 g hg)⟩
theorem Sl.at_ {α:Type} {f:α→List Value} {l:List α} {g cap:Nat} (h:Sl S w e size (.slice (some ⟨g,0,none⟩) l.length cap) l.length (l.flatMap f)) (hk:∀x,(f x).length=size)
  {i j:Nat} {x:α} (hx:l[i]?=some x) (hj:j<size):w.cell? ⟨g,i*size+j,none⟩=(f x)[j]?:=by
 have hi:i<l.length:=(Ap.1 hx).1
 have hb:i*size+j<l.length*size:=by
  have h1:(i+1)*size≤l.length*size:=VO _ hi
  rw[KB]at h1
  omega
 exact(h.1.cellAt _ hb).trans (UE f size hk l i j x hx hj)
theorem Sl.frz {g cap m:Nat} (h:Sl S w e size (.slice (some ⟨g,0,none⟩) n cap) m xs) (hm:m=n) (j:Nat):w.frozen? ⟨g,j,none⟩=false:=by
 subst hm
 exact h.1.frozenAt j
theorem ZC {α:Type} (f:α→List Value) (k:Nat) (hk:∀x,(f x).length=k):∀(l:List α) (i j:Nat) (x x':α) (u:Value),l[i]?=some x→j<k→f x'=(f x).set j u→
  (l.flatMap f).set (i*k+j) u=(l.set i x').flatMap f
 | [],i,j,x,x',u,h,_,_=>by simp at h
 |y::l,0,j,x,x',u,h,hj,he=>by
  simp only[Bm,De]at h
  subst h
  simp only[LA,ab,he,Nat.zero_mul,FA]
  rw[List.set_append_left _ _ (by rw[hk];omega)]
 |y::l,i+1,j,x,x',u,h,hj,he=>by
  simp only[Eb]at h
  have e:(i+1)*k+j=k+(i*k+j):=by rw[KB];omega
  simp only[LA,List.set_cons_succ]
  rw[e,U1 _ _ (by rw[hk];omega),hk,Dj,ZC f k hk l i j x x' u h hj he]
theorem Sl.set_ {α:Type} {f:α→List Value} {l:List α} {g cap:Nat} (h:Sl S w e size (.slice (some ⟨g,0,none⟩) l.length cap) l.length (l.flatMap f)) (hk:∀x,(f x).length=size)
  {i j:Nat} {x x':α} {u:Value} (hx:l[i]?=some x) (hj:j<size) (he:f x'=(f x).set j u):
  Sl S (w.setCell ⟨g,i*size+j,none⟩ u) e size (.slice (some ⟨g,0,none⟩) (l.set i x').length cap) (l.set i x').length ((l.set i x').flatMap f):=by
 have hi:i<l.length:=(Ap.1 hx).1
 have hb:i*size+j<l.length*size:=by
  have h1:(i+1)*size≤l.length*size:=VO _ hi
  rw[KB]at h1
  omega
 have hs:=h.1.stored (i*size+j) u
 rw[ZC f size hk l i j x x' u hx hj he]at hs
 rw[BU]
 exact⟨hs.1,h.2⟩
end
section
variable {S S':Nat→Prop} {w w':World} {e e' t:TypeId} {size kO n n':Nat} {v v':Value} {xs xs' cs:List Value} {g:Nat}
theorem Sl.row (h:Sl S w e size v n xs) (hg:v.ownBlock=some g):∃cs,AM w g e cs:=by
 obtain⟨_,_,cur,rfl,_,hh,_⟩:=h.1.2.resolve_left (by rintro⟨h0,_⟩;rw[h0]at hg;cases hg)
 injection hg with hg
 simp only at hg
 subst hg
 exact⟨cur.toList,by unfold AM;simpa using hh⟩
theorem Sl.ne_row (h:Sl S w e size v n xs) (hr:AM w g t cs) (Cu:e≠t):v.ownBlock≠some g:=by
 intro hg
 obtain⟨VG,h1⟩:=h.row hg
 exact h1.ne_ hr Cu rfl
theorem Sl.ne_sl (h:Sl S w e size v n xs) (h':Sl S' w e' kO v' n' xs') (Cu:e≠e') (hg:v'.ownBlock=some g):v.ownBlock≠some g:=by
 obtain⟨VG,h1⟩:=h'.row hg
 exact h.ne_row h1 Cu
theorem Sl.lt (h:Sl S w e size v n xs) (hg:v.ownBlock=some g):g<w.heap.size:=by
 obtain⟨VG,h1⟩:=h.row hg
 exact h1.lt
theorem Sl.ne_map (h:Sl S w e size v n xs) {k:IntKind} {M:GP} (hm:BV w g k M):v.ownBlock≠some g:=by
 intro hg
 obtain⟨VG,h1⟩:=h.row hg
 exact hm.ne_row h1 rfl
theorem Sl.of_heap (h:Sl S w e size v n xs) (hh:w'.heap=w.heap):Sl S w' e size v n xs:=h.kept (S1:=fun _=>False) (w':={w with heap:=w'.heap}) ⟨rfl,rfl,rfl,by rw[hh];exact Ab _,fun k _=>by rw[hh]⟩ (fun _ _ h=>h)
theorem Sl.alloc (h:Sl S w e size v n xs) (o:Obj):Sl S (w.alloc o) e size v n xs:=⟨h.1.alloc o,h.2⟩
end
structure BL (S:Nat→Prop) (w:World) (g:Nat) (A:Am) (vl vf vq:Value) (bm:Nat):Prop where
 row:AM w g 136 [vl,vf,vq,.map (some bm)]
 l:Sl S w 138 5 vl A.l.length (A.l.flatMap DZ)
 f:Sl S w 3 1 vf A.free.length (A.free.map Ld)
 q:Sl S w 158 3 vq A.qs.length (A.qs.flatMap EF)
 m:BV w bm .u64 (FV A.at_)
 sg:S g
 sm:S bm
section
variable {S S':Nat→Prop} {w w':World} {g bm:Nat} {A:Am} {vl vf vq:Value}
theorem BL.kept (h:BL S w g A vl vf vq bm) {S1:Nat→Prop} (hk:Af S1 w w') (hS:∀b,S b→¬S1 b):BL S w' g A vl vf vq bm:=
 ⟨h.row.kept hk (hS _ h.sg),h.l.kept hk (fun b hb=>hS b (h.l.2 b hb)),h.f.kept hk (fun b hb=>hS b (h.f.2 b hb)),h.q.kept hk (fun b hb=>hS b (h.q.2 b hb)),h.m.kept hk (hS _ h.sm),h.sg,h.sm⟩
theorem BL.mono (h:BL S w g A vl vf vq bm) (hS:∀b,S b→S' b):BL S' w g A vl vf vq bm:=
 ⟨h.row,h.l.mono hS,h.f.mono hS,h.q.mono hS,h.m,hS _ h.sg,hS _ h.sm⟩
theorem BL.of_heap (h:BL S w g A vl vf vq bm) (hh:w'.heap=w.heap):BL S w' g A vl vf vq bm:=by
 refine⟨?_,h.l.of_heap hh,h.f.of_heap hh,h.q.of_heap hh,h.m.of_block (by rw[hh]),h.sg,h.sm⟩
 have:=h.row
 unfold AM at this ⊢
 rw[hh]
 exact this
theorem BL.alloc (h:BL S w g A vl vf vq bm) (o:Obj):BL S (w.alloc o) g A vl vf vq bm:=
 ⟨h.row.alloc o,h.l.alloc o,h.f.alloc o,h.q.alloc o,h.m.of_block (FR w o bm h.m.lt),h.sg,h.sm⟩
theorem BL.drew (h:BL S w g A vl vf vq bm):BL S w.drew g A vl vf vq bm:=h.of_heap rfl
theorem BL.drewN (h:BL S w g A vl vf vq bm) (n:Nat):BL S (w.drewN n) g A vl vf vq bm:=h.of_heap rfl
theorem Am.node_some {n:Nat} (h:n<A.l.length):A.l[n]?=some (A.node n):=by
 unfold Am.node
 rw[Ah h];rfl
theorem Am.ends_some {n:Nat} (h:n<A.qs.length):A.qs[n]?=some (A.ends n):=by
 unfold Am.ends
 rw[Ah h];rfl
theorem BL.setNode {gl cl:Nat} (h:BL S w g A (.slice (some ⟨gl,0,none⟩) A.l.length cl) vf vq bm) {n:Nat} {x':Node} (j:Nat) {u:Value} (hn:n<A.l.length) (hj:j<5)
  (he:DZ x'=(DZ (A.node n)).set j u):
  BL S (w.setCell ⟨gl,n*5+j,none⟩ u) g (A.setNode n x') (.slice (some ⟨gl,0,none⟩) (A.setNode n x').l.length cl) vf vq bm:=by
 have hk:Af (fun b=>b=gl) w (w.setCell ⟨gl,n*5+j,none⟩ u):=Af.one w ⟨gl,n*5+j,none⟩ u
 have e:(A.setNode n x').l.length=A.l.length:=BU ..
 obtain⟨cs,hr⟩:=h.l.row rfl
 exact⟨by rw[e];exact h.row.kept hk (h.row.ne_ hr (by decide)),h.l.set_ (fun _=>rfl) (Am.node_some hn) hj he,h.f.kept hk (fun b hb e=>h.f.ne_row hr (by decide) (e▸hb)),
  h.q.kept hk (fun b hb e=>h.q.ne_row hr (by decide) (e▸hb)),h.m.kept hk (fun e=>h.m.ne_row hr e),h.sg,h.sm⟩
theorem BL.setEnds {gq cq:Nat} (h:BL S w g A vl vf (.slice (some ⟨gq,0,none⟩) A.qs.length cq) bm) {n:Nat} {x':O6} (j:Nat) {u:Value} (hn:n<A.qs.length) (hj:j<3)
  (he:EF x'=(EF (A.ends n)).set j u):
  BL S (w.setCell ⟨gq,n*3+j,none⟩ u) g (A.setEnds n x') vl vf (.slice (some ⟨gq,0,none⟩) (A.setEnds n x').qs.length cq) bm:=by
 have hk:Af (fun b=>b=gq) w (w.setCell ⟨gq,n*3+j,none⟩ u):=Af.one w ⟨gq,n*3+j,none⟩ u
 have e:(A.setEnds n x').qs.length=A.qs.length:=BU ..
 obtain⟨cs,hr⟩:=h.q.row rfl
 exact⟨by rw[e];exact h.row.kept hk (h.row.ne_ hr (by decide)),h.l.kept hk (fun b hb e=>h.l.ne_row hr (by decide) (e▸hb)),h.f.kept hk (fun b hb e=>h.f.ne_row hr (by decide) (e▸hb)),
  h.q.set_ (fun _=>rfl) (Am.ends_some hn) hj he,h.m.kept hk (fun e=>h.m.ne_row hr e),h.sg,h.sm⟩
theorem BL.apart {gl cl gq cq:Nat} (h:BL S w g A (.slice (some ⟨gl,0,none⟩) A.l.length cl) vf (.slice (some ⟨gq,0,none⟩) A.qs.length cq) bm):
  (¬gl=g∧¬g=gl)∧(¬gq=g∧¬g=gq)∧(¬gl=gq∧¬gq=gl):=by
 obtain⟨cs,hr⟩:=h.l.row rfl
 obtain⟨VG,Mj⟩:=h.q.row rfl
 have h1:=hr.ne_ h.row (by decide)
 have h2:=Mj.ne_ h.row (by decide)
 have h3:=hr.ne_ Mj (by decide)
 exact⟨⟨h1,fun e=>h1 e.symm⟩,⟨h2,fun e=>h2 e.symm⟩,⟨h3,fun e=>h3 e.symm⟩⟩
theorem BL.nodeCells {gl cl:Nat} (h:BL S w g A (.slice (some ⟨gl,0,none⟩) A.l.length cl) vf vq bm) {n:Nat} (hn:n<A.l.length):
  w.cell? ⟨gl,n*5,none⟩=some (.int .u64 (A.node n).key)∧w.cell? ⟨gl,n*5+1,none⟩=some (.int .i64 (A.node n).freq)∧w.cell? ⟨gl,n*5+2,none⟩=some (.int .i64 (A.node n).prev)∧
  w.cell? ⟨gl,n*5+3,none⟩=some (.int .i64 (A.node n).next)∧w.cell? ⟨gl,n*5+4,none⟩=some (.int .i64 (A.node n).q):=by
 have c:=fun j hj=>h.l.at_ (f:=DZ) (fun _=>rfl) (Am.node_some hn) (j:=j) hj
 exact⟨c 0 (by omega),c 1 (by omega),c 2 (by omega),c 3 (by omega),c 4 (by omega)⟩
theorem BL.endsCells {gq cq:Nat} (h:BL S w g A vl vf (.slice (some ⟨gq,0,none⟩) A.qs.length cq) bm) {n:Nat} (hn:n<A.qs.length):
  w.cell? ⟨gq,n*3,none⟩=some (.int .i64 (A.ends n).head)∧w.cell? ⟨gq,n*3+1,none⟩=some (.int .i64 (A.ends n).tail)∧w.cell? ⟨gq,n*3+2,none⟩=some (.int .i64 (A.ends n).n):=by
 have c:=fun j hj=>h.q.at_ (f:=EF) (fun _=>rfl) (Am.ends_some hn) (j:=j) hj
 exact⟨c 0 (by omega),c 1 (by omega),c 2 (by omega)⟩
end
theorem Pu (M:List (Int×Nat)) (key:Int):FT (FV M) key=((M.find? (fun y=>y.1==key)).map (·.2)).map fun(n:Nat)=>(Value.int .i64 n):=by
 unfold FT FV
 induction M with
 |nil=>rfl
 |cons y M ih=>
  by_cases hx:y.1==key
  ·simp[J8,hx]
  ·simp only[Sg]at hx
   simp only[Cq,J8,hx]
   exact ih
def Fh:O0→Ae
 | .num _=>Bc
 | .var _=>IY
 | .len _=>G2
 | .freq=>BX
def D4:O0→Int
 | .num n=>n
 | .var n=>n
 | .len n=>n
 | .freq=>0
def Du (v:O0):List Value:=[vs (Fh v),.int .i64 (D4 v)]
abbrev IG:Ae:=[108,101,115,115]
def Cg:CK→Ae
 | .full _=>DT
 | .empty _=>CF
 | .warm _=>DS
 | .less _ _=>IG
def BT:CK→Int
 | .full n=>n
 | .empty n=>n
 | .warm n=>n
 | .less _ _=>0
def L9:CK→List Value
 | .less a b=>Du a++Du b
 |_=>[vs [],.int .i64 0,vs [],.int .i64 0]
def Dg (n:Nat):Bool:=n%2==1
def By (c:Da):List Value:=[vs (Cg c.k),.int .i64 (BT c.k)]++L9 c.k++[.bool (Dg c.nots)]
def LR:List Value:=[vs [],.int .i64 0,vs [],.int .i64 0,vs [],.int .i64 0,.bool false]
def ES:D9→Ae
 | .put _ _=>Hn
 | .evict _=>Db
 | .cool _=>Ew
 | .shift _ _ _=>CN
 | .inc _=>Ia
 | .dec _=>Ib
 | .drop=>EJ
 | .bump=>EK
def Mq:D9→Int
 | .put q _=>q
 | .evict q=>q
 | .cool q=>q
 | .shift q _ _=>q
 | .inc v=>v
 | .dec v=>v
 |_=>0
def Ms:D9→Int
 | .shift _ p _=>p
 |_=>0
def FK:D9→Bool
 | .put _ t=>t
 | .shift _ _ t=>t
 |_=>false
def Bx:Value:=.slice none 0 0
def Kl (p:D9):List Value:=[vs (ES p),.int .i64 (Mq p),.int .i64 (Ms p),.bool (FK p)]++LR++[Bx,Bx]
def Le (c:Da) (vt ve:Value):List Value:=[vs Iw,.int .i64 0,.int .i64 0,.bool false]++By c++[vt,ve]
def Iz (n:Int) (c:Da) (vt:Value):List Value:=[vs Bb,.int .i64 n,.int .i64 0,.bool false]++By c++[vt,Bx]
theorem cL (c:CK):(L9 c).length=4:=by cases c<;>rfl
theorem ZI (c:Da):(By c).length=7:=by simp[By,cL]
def Sn (N:Nat→Prop) (w:World) (v:Value) (n:Nat) (cs:List Value):Prop:=
 Sl N w 258 13 v n cs∧∃g c,v= .slice (some ⟨g,0,none⟩) n c
def A5 (N:Nat→Prop) (w:World):AC→List Value→Prop
 | .nil,cs=>cs=[]
 | .prim p r,cs=>∃rest,cs=Kl p++rest∧A5 N w r rest
 | .ite c t o e r,cs=>∃vt ve rest,cs=Le c vt ve++rest∧(∃ct,Sn N w vt t.length ct∧A5 N w t ct)∧
   (if o then∃ce,Sn N w ve e.length ce∧A5 N w e ce else ve=Bx∧e= .nil)∧A5 N w r rest
 | .rep n c b r,cs=>∃vt rest,cs=Iz n c vt++rest∧(∃ct,Sn N w vt b.length ct∧A5 N w b ct)∧A5 N w r rest
def Dv (N:Nat→Prop) (w:World) (v:Value) (b:AC):Prop:=∃cs,Sn N w v b.length cs∧A5 N w b cs
section
variable {N N':Nat→Prop} {w w':World}
theorem Sn.kept {v:Value} {n:Nat} {cs:List Value} (h:Sn N w v n cs) (hk:∀k cs,N k→AM w k 258 cs→w'.heap[k]?=w.heap[k]?):Sn N w' v n cs:=by
 obtain⟨⟨⟨h0,h1⟩,h2⟩,h3⟩:=h
 refine⟨⟨⟨h0,?_⟩,h2⟩,h3⟩
 rcases h1 with h1|⟨g,cap,cur,rfl,hb,hg,h4⟩
 ·exact .inl h1
 ·exact .inr ⟨g,cap,cur,rfl,hb,(hk g cur.toList (h2 g rfl) (by unfold AM;simpa using hg)).trans hg,h4⟩
theorem Sn.mono {v:Value} {n:Nat} {cs:List Value} (h:Sn N w v n cs) (hN:∀k,k<w.heap.size→N k→N' k):Sn N' w v n cs:=
 ⟨⟨h.1.1,fun g hg=>hN g (h.1.lt hg) (h.1.2 g hg)⟩,h.2⟩
theorem A5.kept (hk:∀k cs,N k→AM w k 258 cs→w'.heap[k]?=w.heap[k]?):∀(b:AC) (cs:List Value),A5 N w b cs→A5 N w' b cs
 | .nil,_,h=>h
 | .prim p r,cs,⟨rest,h1,h2⟩=>⟨rest,h1,A5.kept hk r rest h2⟩
 | .ite c t o e r,cs,⟨vt,ve,rest,h1,⟨ct,h2,h3⟩,h4,h5⟩=>⟨vt,ve,rest,h1,⟨ct,h2.kept hk,A5.kept hk t ct h3⟩,by
   cases o with
   |false=>exact h4
   |true=>
    obtain⟨ce,h6,h7⟩:=h4
    exact⟨ce,h6.kept hk,A5.kept hk e ce h7⟩,A5.kept hk r rest h5⟩
 | .rep n c b r,cs,⟨vt,rest,h1,⟨ct,h2,h3⟩,h5⟩=>⟨vt,rest,h1,⟨ct,h2.kept hk,A5.kept hk b ct h3⟩,A5.kept hk r rest h5⟩
theorem A5.mono (hN:∀k,k<w.heap.size→N k→N' k):∀(b:AC) (cs:List Value),A5 N w b cs→A5 N' w b cs
 | .nil,_,h=>h
 | .prim p r,cs,⟨rest,h1,h2⟩=>⟨rest,h1,A5.mono hN r rest h2⟩
 | .ite c t o e r,cs,⟨vt,ve,rest,h1,⟨ct,h2,h3⟩,h4,h5⟩=>⟨vt,ve,rest,h1,⟨ct,h2.mono hN,A5.mono hN t ct h3⟩,by
   cases o with
   |false=>exact h4
   |true=>
    obtain⟨ce,h6,h7⟩:=h4
    exact⟨ce,h6.mono hN,A5.mono hN e ce h7⟩,A5.mono hN r rest h5⟩
 | .rep n c b r,cs,⟨vt,rest,h1,⟨ct,h2,h3⟩,h5⟩=>⟨vt,rest,h1,⟨ct,h2.mono hN,A5.mono hN b ct h3⟩,A5.mono hN r rest h5⟩
theorem A5.app:∀(b:AC) (cs:List Value) (r:AC) (rs:List Value),A5 N w b cs→A5 N w r rs→A5 N w (b.app r) (cs++rs)
 | .nil,_,r,rs,h,hr=>by rw[show _=[]from h];exact hr
 | .prim p x,cs,r,rs,⟨rest,h1,h2⟩,hr=>⟨rest++rs,by rw[h1,Al],A5.app x rest r rs h2 hr⟩
 | .ite c t o e x,cs,r,rs,⟨vt,ve,rest,h1,h2,h4,h5⟩,hr=>⟨vt,ve,rest++rs,by rw[h1,Al],h2,h4,A5.app x rest r rs h5 hr⟩
 | .rep n c b x,cs,r,rs,⟨vt,rest,h1,h2,h5⟩,hr=>⟨vt,rest++rs,by rw[h1,Al],h2,A5.app x rest r rs h5 hr⟩
theorem Dv.kept {v:Value} {b:AC} (h:Dv N w v b) (hk:∀k cs,N k→AM w k 258 cs→w'.heap[k]?=w.heap[k]?):Dv N w' v b:=by
 obtain⟨cs,h1,h2⟩:=h
 exact⟨cs,h1.kept hk,A5.kept hk b cs h2⟩
theorem Dv.mono {v:Value} {b:AC} (h:Dv N w v b) (hN:∀k,k<w.heap.size→N k→N' k):Dv N' w v b:=by
 obtain⟨cs,h1,h2⟩:=h
 exact⟨cs,h1.mono hN,A5.mono hN b cs h2⟩
end
theorem AC.length_app:∀(b r:AC),(b.app r).length=b.length+r.length
 | .nil,r=>by simp[AC.app,AC.length]
 | .prim p x,r=>by simp[AC.app,AC.length,AC.length_app x r];omega
 | .ite c t o e x,r=>by simp[AC.app,AC.length,AC.length_app x r];omega
 | .rep n c b x,r=>by simp[AC.app,AC.length,AC.length_app x r];omega
theorem ph (w:World):(zeroValue 3).run Tryz.prog w= .ok (.int .i64 0) w:=by kernel_rfl
section
variable {S:Nat→Prop} {w:World} {g bm:Nat} {A:Am} {vl vf vq:Value}
theorem BL.look (h:BL S w g A vl vf vq bm) (key:Int) (c:Bool):(Instr.lookup 134 (.map (some bm)) (.int .u64 key) c).run Tryz.prog w=
  .ok (if c then .tuple #[.int .i64 ((A.idx key).getD 0:Nat),.bool (A.idx key).isSome]else .int .i64 ((A.idx key).getD 0:Nat)) w:=by
 have hk:=h.m.lookup (P:=Tryz.prog) Kr IP ph key c
 rw[hk,Pu]
 unfold Am.idx
 cases (A.at_.find? (fun y=>y.1==key)).map (·.2)<;>simp
theorem Ot (h:BL S w g A vl vf vq bm) (ok:A.Ok) (key:Int):
  Calls Tryz.prog 35 #[.pointer (some ⟨g,0,none⟩),.int .u64 key] w fun e w'=>e= .returned (.int .i64 (A.where_ key))∧w=w':=by
 have c0:=h.row.cell 0
 have c3:=h.row.cell 3
 have hk:=h.look key true
 obtain⟨gl,cl,rfl,_,eO,RI,_⟩:=h.l.form ok.l1
 cases hi:A.idx key with
 |none=>
  rw[hi]at hk
  have hw:A.where_ key= -1:=by unfold Am.where_;rw[hi]
  rw[hw]
  clear hi hw
  simp at c0 c3 hk
  go_enter Tryz.func35,Tryz.ntmps35
  go_wp2
  go_ret
  exact⟨rfl,rfl⟩
 |some n=>
  rw[hi]at hk
  have hn:=(ok.at_ key n hi).1
  have hw:A.where_ key=(A.node n).q:=by unfold Am.where_;rw[hi]
  rw[hw]
  have Ik:=ok.l2
  have cq:=h.l.at_ (f:=DZ) (fun _=>rfl) (Am.node_some hn) (j:=4) (by omega)
  simp[DZ]at cq
  generalize (A.node n).q=q at*
  clear hi hw
  simp at c0 c3 hk
  go_enter Tryz.func35,Tryz.ntmps35
  go_wp2
  go_ret
  exact⟨rfl,rfl⟩
theorem ZB (h:BL S w g A vl vf vq bm) (ok:A.Ok) (key:Int):
  Calls Tryz.prog 100 #[.pointer (some ⟨g,0,none⟩),.int .u64 key] w fun e w'=>e= .returned (.int .i64 (A.freqOf key))∧w=w':=by
 have c0:=h.row.cell 0
 have c3:=h.row.cell 3
 have hk:=h.look key true
 obtain⟨gl,cl,rfl,_,eO,RI,_⟩:=h.l.form ok.l1
 cases hi:A.idx key with
 |none=>
  rw[hi]at hk
  have hw:A.freqOf key=0:=by unfold Am.freqOf;rw[hi]
  rw[hw]
  clear hi hw
  simp at c0 c3 hk
  go_enter Tryz.func100,Tryz.ntmps100
  go_wp2
  go_ret
  exact⟨rfl,rfl⟩
 |some n=>
  rw[hi]at hk
  have hn:=(ok.at_ key n hi).1
  have hw:A.freqOf key=(A.node n).freq:=by unfold Am.freqOf;rw[hi]
  rw[hw]
  have Ik:=ok.l2
  have cq:=h.l.at_ (f:=DZ) (fun _=>rfl) (Am.node_some hn) (j:=1) (by omega)
  simp[DZ]at cq
  generalize (A.node n).freq=q at*
  clear hi hw
  simp at c0 c3 hk
  go_enter Tryz.func100,Tryz.ntmps100
  go_wp2
  go_ret
  exact⟨rfl,rfl⟩
theorem Qp (h:BL S w g A vl vf vq bm) (ok:A.Ok) (q:Nat) (hq:q<A.qs.length) (Zp:A.qs.length≤1000):
  Calls Tryz.prog 99 #[.pointer (some ⟨g,0,none⟩),.int .i64 q] w fun e w'=>e= .returned (.int .i64 (A.len q))∧w=w':=by
 have c2:=h.row.cell 2
 obtain⟨gq,cq,rfl,_,eO,RI,_⟩:=h.q.form (by omega)
 have cn:=h.q.at_ (f:=EF) (fun _=>rfl) (Am.ends_some hq) (j:=2) (by omega)
 simp[EF]at cn
 unfold Am.len
 generalize (A.ends q).n=n at*
 simp at c2
 go_enter Tryz.func99,Tryz.ntmps99
 go_wp2
 go_ret
 exact⟨rfl,rfl⟩
theorem Yv (h:BL S w g A vl vf vq bm) (ok:A.Ok) (q:Nat) (hq:q<A.qs.length) (Zp:A.qs.length≤1000):
  Calls Tryz.prog 103 #[.pointer (some ⟨g,0,none⟩),.int .i64 q] w fun e w'=>e= .returned (.int .u64 (A.tail q))∧∃n,w'=w.drewN n:=by
 have c0:=h.row.cell 0
 have c2:=h.row.cell 2
 obtain⟨gl,cl,rfl,_,eO,RI,_⟩:=h.l.form ok.l1
 obtain⟨gq,cq,rfl,_,hqc,hqm,_⟩:=h.q.form (by omega)
 have ht:=(ok.ends q _ (Am.ends_some hq)).2.1
 have Ik:=ok.l2
 have cn:=h.q.at_ (f:=EF) (fun _=>rfl) (Am.ends_some hq) (j:=1) (by omega)
 have ck:=h.l.at_ (f:=DZ) (fun _=>rfl) (Am.node_some ht) (j:=0) (by omega)
 simp[EF]at cn
 simp[DZ]at ck
 unfold Am.tail
 generalize (A.ends q).tail=n at*
 generalize (A.node n).key=k at*
 simp at c0 c2
 go_enter Tryz.func103,Tryz.ntmps103
 go_wp2
 go_quiet (fail)
 go_wp2
 go_ret
 exact⟨rfl,_,rfl⟩
end
section
variable {S:Nat→Prop} {w:World} {g bm:Nat} {A:Am} {vl vf vq:Value}
theorem Yp (h:BL S w g A vl vf vq bm) (ok:A.Ok) (key by_ most:Int) (hb: -1≤by_∧by_≤1) (hm:0≤most∧most≤1000):
  Calls Tryz.prog 107 #[.pointer (some ⟨g,0,none⟩),.int .u64 key,.int .i64 by_,.int .i64 most] w fun e w'=>e= .returned (.tuple #[])∧Af S w w'∧∃vl,BL S w' g (A.tune key by_ most) vl vf vq bm:=by
 have c0:=h.row.cell 0
 have c3:=h.row.cell 3
 have hk:=h.look key true
 obtain⟨gl,cl,rfl,SX,eO,RI,_⟩:=h.l.form ok.l1
 cases hi:A.idx key with
 |none=>
  rw[hi]at hk
  have hw:A.tune key by_ most=A:=by unfold Am.tune;rw[hi]
  rw[hw]
  clear hi hw
  simp at c0 c3 hk
  go_enter Tryz.func107,Tryz.ntmps107
  go_wp2
  go_end0
  exact⟨rfl,Af.refl _ _,_,h⟩
 |some n=>
  rw[hi]at hk
  have hn:=(ok.at_ key n hi).1
  have Ik:=ok.l2
  have hx:=ok.node n _ (Am.node_some hn)
  have hf:=hx.2.2.2
  have cq:=h.l.at_ (f:=DZ) (fun _=>rfl) (Am.node_some hn) (j:=1) (by omega)
  have fq:=h.l.frz rfl (n*5+1)
  have A6:∀c,c=DO (A.node n).freq by_ most→BL S (w.setCell ⟨gl,n*5+1,none⟩ (.int .i64 c)) g (A.tune key by_ most) (.slice (some ⟨gl,0,none⟩) (A.tune key by_ most).l.length cl) vf vq bm:=by
   rintro c rfl
   have hw:A.tune key by_ most=A.setNode n {(A.node n)with freq:=DO (A.node n).freq by_ most}:=by unfold Am.tune;rw[hi]
   rw[hw]
   exact h.setNode 1 hn (by omega) rfl
  generalize A.tune key by_ most=A' at*
  simp[DZ]at cq
  unfold DO at A6
  generalize (A.node n).freq=q at*
  clear hi hx
  have Pe:IntKind.i64.wrap (q+by_)=q+by_:=E9 _ (by omega)
  simp at c0 c3 hk
  go_enter Tryz.func107,Tryz.ntmps107
  go_wp2
  have Hf:=Aa A6
  clear A6
  go_still_tail 20,(by kernel_rfl)
  go_wp2
  all_goals
   go_end0
   refine⟨rfl,((Af.refl _ _).setCell SX _).drew,_,BL.drew (Hf.out _ (by omega))⟩
theorem ZT {n:Nat} (h:n≠0):((n:Int)==0)=false:=by simp[h]
theorem P3 {a:Int} {q:Nat} (h:a=(q:Int)):a.toNat=q:=by omega
theorem BL.unlink1 {gl cl gq cq:Nat} (h:BL S w g A (.slice (some ⟨gl,0,none⟩) A.l.length cl) vf (.slice (some ⟨gq,0,none⟩) A.qs.length cq) bm) {x:Node} {q:Nat} (hq:x.q=(q:Int)) (KY:q<A.qs.length) (SW:x.prev<A.l.length):
  BL S (w.setCell (if x.prev=0 then⟨gq,q*3,none⟩else⟨gl,x.prev*5+3,none⟩) (.int .i64 x.next)) g (A.unlink1 x) (.slice (some ⟨gl,0,none⟩) (A.unlink1 x).l.length cl) vf (.slice (some ⟨gq,0,none⟩) (A.unlink1 x).qs.length cq) bm:=by
 unfold Am.unlink1
 by_cases hp:x.prev=0
 ·simp only[hp,A0]
  rw[P3 hq]
  exact h.setEnds 0 KY (by omega) rfl
 ·simp only[Ad hp]
  exact h.setNode 3 SW (by omega) rfl
theorem BL.unlink2 {gl cl gq cq:Nat} (h:BL S w g A (.slice (some ⟨gl,0,none⟩) A.l.length cl) vf (.slice (some ⟨gq,0,none⟩) A.qs.length cq) bm) {x:Node} {q:Nat} (hq:x.q=(q:Int)) (KY:q<A.qs.length) (SW:x.next<A.l.length):
  BL S (w.setCell (if x.next=0 then⟨gq,q*3+1,none⟩else⟨gl,x.next*5+2,none⟩) (.int .i64 x.prev)) g (A.unlink2 x) (.slice (some ⟨gl,0,none⟩) (A.unlink2 x).l.length cl) vf (.slice (some ⟨gq,0,none⟩) (A.unlink2 x).qs.length cq) bm:=by
 unfold Am.unlink2
 by_cases hp:x.next=0
 ·simp only[hp,A0]
  rw[P3 hq]
  exact h.setEnds 1 KY (by omega) rfl
 ·simp only[Ad hp]
  exact h.setNode 2 SW (by omega) rfl
theorem BL.unlink3 {gl cl gq cq:Nat} (h:BL S w g A (.slice (some ⟨gl,0,none⟩) A.l.length cl) vf (.slice (some ⟨gq,0,none⟩) A.qs.length cq) bm) {x:Node} {q:Nat} (hq:x.q=(q:Int)) (KY:q<A.qs.length):
  BL S (w.setCell ⟨gq,q*3+2,none⟩ (.int .i64 ((A.ends q).n-1:Nat))) g (A.unlink3 x) (.slice (some ⟨gl,0,none⟩) (A.unlink3 x).l.length cl) vf (.slice (some ⟨gq,0,none⟩) (A.unlink3 x).qs.length cq) bm:=by
 unfold Am.unlink3
 rw[P3 hq]
 exact h.setEnds 2 KY (by omega) rfl
theorem JQ (x:Node):(A.unlink1 x).l.length=A.l.length∧(A.unlink1 x).qs.length=A.qs.length:=by
 unfold Am.unlink1;split<;>simp[Am.setEnds,Am.setNode]
theorem NJ (x:Node):(A.unlink2 x).l.length=A.l.length∧(A.unlink2 x).qs.length=A.qs.length:=by
 unfold Am.unlink2;split<;>simp[Am.setEnds,Am.setNode]
theorem aN (x:Node) (q:Nat) (hq:x.q=(q:Int)) (KY:q<A.qs.length):(((A.unlink1 x).unlink2 x).ends q).n=(A.ends q).n:=by
 unfold Am.unlink2 Am.unlink1
 split<;>split<;>simp[Am.setEnds,Am.setNode,Am.ends,P3 hq,KY]
theorem aM (h:BL S w g A vl vf vq bm) (hS:Up S w) (ok:A.Ok) (n q:Nat) (hu:A.CanUnlink n q) (Zp:A.qs.length≤1000000):
  Calls Tryz.prog 83 #[.pointer (some ⟨g,0,none⟩),.int .i64 n] w fun e w'=>e= .returned (.tuple #[])∧Af S w w'∧∃vl vq,BL S w' g (A.unlink n) vl vf vq bm:=by
 have c0:=h.row.cell 0
 have c2:=h.row.cell 2
 obtain⟨gl,cl,rfl,SX,eO,RI,mz⟩:=h.l.form ok.l1
 obtain⟨hn,xz,hm,Ut⟩:=hu
 have hb:=ok.node n _ (Am.node_some hn)
 have KY:A.qs.length≤1000000:=Zp
 obtain⟨gq,cq,rfl,hgq,hqc,hqm,zL⟩:=h.q.form (by omega)
 obtain⟨n0,n1,n2,n3,n4⟩:=h.nodeCells hn
 obtain⟨e0,e1,e2⟩:=h.endsCells Ut
 obtain⟨_,_,x2,_,_⟩:=h.nodeCells hb.2.1
 obtain⟨_,_,_,y3,_⟩:=h.nodeCells hb.1
 have fq:=fun j=>h.q.frz rfl j
 have fl:=fun j=>h.l.frz rfl j
 have Ik:=ok.l2
 have xK:=h.row.lt
 have zQ:=(ok.ends q _ (Am.ends_some Ut)).2.2
 have hsw:S w.heap.size:=hS _ (Ab _)
 obtain⟨⟨a1,a2⟩,⟨a3,a4⟩,⟨a5,a6⟩⟩:=h.apart
 have a7:¬gl=w.heap.size:=by omega
 have a8:¬w.heap.size=gl:=by omega
 have a9:¬gq=w.heap.size:=by omega
 have a10:¬w.heap.size=gq:=by omega
 have A6:∀W:World,W.heap=((((w.alloc (Obj.cells #[.int .u64 (A.node n).key,.int .i64 (A.node n).freq,.int .i64 (A.node n).prev,.int .i64 (A.node n).next,.int .i64 q] 138)).setCell
   (if(A.node n).prev=0 then⟨gq,q*3,none⟩else⟨gl,(A.node n).prev*5+3,none⟩) (.int .i64 (A.node n).next)).setCell
   (if(A.node n).next=0 then⟨gq,q*3+1,none⟩else⟨gl,(A.node n).next*5+2,none⟩) (.int .i64 (A.node n).prev)).setCell ⟨gq,q*3+2,none⟩ (.int .i64 ((A.ends q).n-1:Nat))).heap→
   BL S W g (A.unlink n) (.slice (some ⟨gl,0,none⟩) (A.unlink n).l.length cl) vf (.slice (some ⟨gq,0,none⟩) (A.unlink n).qs.length cq) bm:=by
  intro W hW
  have s1:=(h.alloc (Obj.cells #[.int .u64 (A.node n).key,.int .i64 (A.node n).freq,.int .i64 (A.node n).prev,.int .i64 (A.node n).next,.int .i64 q] 138)).unlink1 xz Ut hb.1
  have s2:=s1.unlink2 xz (by rw[(JQ _).2];exact Ut) (by rw[(JQ _).1];exact hb.2.1)
  have s3:=s2.unlink3 xz (by rw[(NJ _).2,(JQ _).2];exact Ut)
  rw[aN _ _ xz Ut]at s3
  exact s3.of_heap hW
 generalize A.unlink n=A' at*
 rw[xz]at n4
 simp at c0 c2
 generalize (A.node (A.node n).next).prev=pvx at*
 generalize (A.node (A.node n).prev).next=nxy at*
 generalize (A.node n).key=key at*
 generalize (A.node n).freq=freq at*
 generalize (A.node n).prev=pv at*
 generalize (A.node n).next=nx at*
 generalize (A.ends q).head=hd at*
 generalize (A.ends q).tail=tl at*
 generalize (A.ends q).n=m at*
 obtain⟨m,rfl⟩:∃k,m=k+1:=⟨m-1,by omega⟩
 obtain⟨_c,Hy,_⟩:=hb
 clear xz hm
 by_cases hp:pv=0
 ·by_cases hx:nx=0
  ·subst hp
   subst hx
   simp only[A0]at A6
   have Hf:=Aa A6
   clear A6
   go_enter jR,de
   go_wp2
   go_quiet (fail)
   go_wp2
   go_end0
   refine⟨rfl,?_,_,_,Hf.out _ (by(try simp only[CX,FX,Dr,Ha,C1,Ho]);(try simp only[Gz,EQ,EP]);try with_reducible rfl)⟩
   repeat' first|with_reducible exact Af.refl _ _|with_reducible refine Af.drewN ?_ _|with_reducible refine Af.drew ?_|with_reducible refine Af.setCell ?_ (by assumption) _|with_reducible refine Af.alloc ?_ (by assumption) _
  ·subst hp
   simp only[A0,Ad hx]at A6
   have Hf:=Aa A6
   clear A6
   have eI:=ZT hx
   have Hx:=Aa hx
   clear hx
   go_enter jR,de
   go_wp2
   go_quiet (fail)
   go_wp2
   (refine DM 10 (by kernel_rfl) (by kernel_rfl) ?_;simp only[Aw,AO,Ax,AK];repeat still_step);refine Cf ?_
   go_wp2
   go_end0
   refine⟨rfl,?_,_,_,Hf.out _ (by(try simp only[CX,FX,Dr,Ha,C1,Ho]);(try simp only[Gz,EQ,EP]);try with_reducible rfl)⟩
   repeat' first|with_reducible exact Af.refl _ _|with_reducible refine Af.drewN ?_ _|with_reducible refine Af.drew ?_|with_reducible refine Af.setCell ?_ (by assumption) _|with_reducible refine Af.alloc ?_ (by assumption) _
 ·by_cases hx:nx=0
  ·subst hx
   simp only[A0,Ad hp]at A6
   have Hf:=Aa A6
   clear A6
   have Ti:=ZT hp
   have Hp:=Aa hp
   clear hp
   go_enter jR,de
   go_wp2
   go_quiet (fail)
   go_wp2
   (refine DM 10 (by kernel_rfl) (by kernel_rfl) ?_;simp only[Aw,AO,Ax,AK];repeat still_step);refine Cf ?_
   go_wp2
   go_end0
   refine⟨rfl,?_,_,_,Hf.out _ (by(try simp only[CX,FX,Dr,Ha,C1,Ho]);(try simp only[Gz,EQ,EP]);try with_reducible rfl)⟩
   repeat' first|with_reducible exact Af.refl _ _|with_reducible refine Af.drewN ?_ _|with_reducible refine Af.drew ?_|with_reducible refine Af.setCell ?_ (by assumption) _|with_reducible refine Af.alloc ?_ (by assumption) _
  ·simp only[Ad hp,Ad hx]at A6
   have Hf:=Aa A6
   clear A6
   have Ti:=ZT hp
   have Hp:=Aa hp
   clear hp
   have eI:=ZT hx
   have Hx:=Aa hx
   clear hx
   go_enter jR,de
   go_wp2
   go_quiet (fail)
   go_wp2
   (refine DM 10 (by kernel_rfl) (by kernel_rfl) ?_;simp only[Aw,AO,Ax,AK];repeat still_step);refine Cf ?_
   go_wp2
   (refine DM 10 (by kernel_rfl) (by kernel_rfl) ?_;simp only[Aw,AO,Ax,AK];repeat still_step);refine Cf ?_
   go_wp2
   go_end0
   refine⟨rfl,?_,_,_,Hf.out _ (by(try simp only[CX,FX,Dr,Ha,C1,Ho]);(try simp only[Gz,EQ,EP]);try with_reducible rfl)⟩
   repeat' first|with_reducible exact Af.refl _ _|with_reducible refine Af.drewN ?_ _|with_reducible refine Af.drew ?_|with_reducible refine Af.setCell ?_ (by assumption) _|with_reducible refine Af.alloc ?_ (by assumption) _
end
section
variable {S:Nat→Prop} {w:World} {g bm:Nat} {A:Am} {vl vf vq:Value}
theorem EH (n:Nat) (a b:Node):(A.setNode n a).setNode n b=A.setNode n b:=by simp[Am.setNode,List.set_set]
theorem EB {n:Nat} (hn:n<A.l.length) (x:Node):(A.setNode n x).node n=x:=by simp[Am.setNode,Am.node,hn]
theorem Cc (n:Nat) (x:Node):(A.setNode n x).l.length=A.l.length∧(A.setNode n x).qs.length=A.qs.length:=by simp[Am.setNode]
theorem QN (n:Nat) (x:Node) (q:Nat):(A.setNode n x).ends q=A.ends q:=rfl
theorem BL.link1 {gl cl gq cq:Nat} (h:BL S w g A (.slice (some ⟨gl,0,none⟩) A.l.length cl) vf (.slice (some ⟨gq,0,none⟩) A.qs.length cq) bm) (n:Nat) {x:Node} {q:Nat} (KY:q<A.qs.length) (SW:x.prev<A.l.length):
  BL S (w.setCell (if x.prev=0 then⟨gq,q*3,none⟩else⟨gl,x.prev*5+3,none⟩) (.int .i64 n)) g (A.link1 n q x) (.slice (some ⟨gl,0,none⟩) (A.link1 n q x).l.length cl) vf (.slice (some ⟨gq,0,none⟩) (A.link1 n q x).qs.length cq) bm:=by
 unfold Am.link1
 by_cases hp:x.prev=0
 ·simp only[hp,A0]
  exact h.setEnds 0 KY (by omega) rfl
 ·simp only[Ad hp]
  exact h.setNode 3 SW (by omega) rfl
theorem BL.link2 {gl cl gq cq:Nat} (h:BL S w g A (.slice (some ⟨gl,0,none⟩) A.l.length cl) vf (.slice (some ⟨gq,0,none⟩) A.qs.length cq) bm) (n:Nat) {x:Node} {q:Nat} (KY:q<A.qs.length) (SW:x.next<A.l.length):
  BL S (w.setCell (if x.next=0 then⟨gq,q*3+1,none⟩else⟨gl,x.next*5+2,none⟩) (.int .i64 n)) g (A.link2 n q x) (.slice (some ⟨gl,0,none⟩) (A.link2 n q x).l.length cl) vf (.slice (some ⟨gq,0,none⟩) (A.link2 n q x).qs.length cq) bm:=by
 unfold Am.link2
 by_cases hp:x.next=0
 ·simp only[hp,A0]
  exact h.setEnds 1 KY (by omega) rfl
 ·simp only[Ad hp]
  exact h.setNode 2 SW (by omega) rfl
theorem BL.link3 {gl cl gq cq:Nat} (h:BL S w g A (.slice (some ⟨gl,0,none⟩) A.l.length cl) vf (.slice (some ⟨gq,0,none⟩) A.qs.length cq) bm) {q:Nat} (KY:q<A.qs.length):
  BL S (w.setCell ⟨gq,q*3+2,none⟩ (.int .i64 ((A.ends q).n+1:Nat))) g (A.link3 q) (.slice (some ⟨gl,0,none⟩) (A.link3 q).l.length cl) vf (.slice (some ⟨gq,0,none⟩) (A.link3 q).qs.length cq) bm:=by
 unfold Am.link3
 exact h.setEnds 2 KY (by omega) rfl
theorem RC (n q:Nat) (x:Node):(A.link1 n q x).l.length=A.l.length∧(A.link1 n q x).qs.length=A.qs.length:=by
 unfold Am.link1;split<;>simp[Am.setEnds,Am.setNode]
theorem ic (n q:Nat) (x:Node):(A.link2 n q x).l.length=A.l.length∧(A.link2 n q x).qs.length=A.qs.length:=by
 unfold Am.link2;split<;>simp[Am.setEnds,Am.setNode]
theorem lI (n:Nat) (x:Node) (q:Nat) (KY:q<A.qs.length):(((A.link1 n q x).link2 n q x).ends q).n=(A.ends q).n:=by
 unfold Am.link2 Am.link1
 split<;>split<;>simp[Am.setEnds,Am.setNode,Am.ends,KY]
theorem BL.link_rest {gl cl gq cq:Nat} {n q:Nat} {tail:Bool} (h:BL S w g (A.setNode n (AZ A n q tail)) (.slice (some ⟨gl,0,none⟩) A.l.length cl) vf (.slice (some ⟨gq,0,none⟩) A.qs.length cq) bm)
  (hn:n<A.l.length) (KY:q<A.qs.length) (SW:(AZ A n q tail).prev<A.l.length) (jH:(AZ A n q tail).next<A.l.length) {W:World}
  (hW:W.heap=(((w.setCell (if(AZ A n q tail).prev=0 then⟨gq,q*3,none⟩else⟨gl,(AZ A n q tail).prev*5+3,none⟩) (.int .i64 n)).setCell
   (if(AZ A n q tail).next=0 then⟨gq,q*3+1,none⟩else⟨gl,(AZ A n q tail).next*5+2,none⟩) (.int .i64 n)).setCell ⟨gq,q*3+2,none⟩ (.int .i64 ((A.ends q).n+1:Nat))).heap):
  BL S W g (A.link n q tail) (.slice (some ⟨gl,0,none⟩) (A.link n q tail).l.length cl) vf (.slice (some ⟨gq,0,none⟩) (A.link n q tail).qs.length cq) bm:=by
 unfold Am.link
 rw[←(Cc (A:=A) n (AZ A n q tail)).1,←(Cc (A:=A) n (AZ A n q tail)).2]at h
 have e1:=(Cc (A:=A) n (AZ A n q tail)).1
 have e2:=(Cc (A:=A) n (AZ A n q tail)).2
 have e3:=QN (A:=A) n (AZ A n q tail) q
 generalize AZ A n q tail=x at*
 generalize A.setNode n x=B at*
 rw[←e3]at hW
 have s1:=h.link1 n (x:=x) (q:=q) (by omega) (by omega)
 have s2:=s1.link2 n (x:=x) (q:=q) (by rw[(RC _ _ _).2];omega) (by rw[(RC _ _ _).1];omega)
 have s3:=s2.link3 (q:=q) (by rw[(ic _ _ _).2,(RC _ _ _).2];omega)
 rw[lI _ _ _ (by omega)]at s3
 exact s3.of_heap hW
theorem lH (h:BL S w g A vl vf vq bm) (ok:A.Ok) (n q:Nat) (tail:Bool) (hn:n<A.l.length) (MX:n≠0) (Ut:q<A.qs.length) (Zp:A.qs.length≤1000000) (hh:(A.ends q).head≠n) (ht:(A.ends q).tail≠n):
  Calls Tryz.prog 133 #[.pointer (some ⟨g,0,none⟩),.int .i64 n,.int .i64 q,.bool tail] w fun e w'=>e= .returned (.tuple #[])∧Af S w w'∧∃vl vq,BL S w' g (A.link n q tail) vl vf vq bm:=by
 have c0:=h.row.cell 0
 have c2:=h.row.cell 2
 obtain⟨gl,cl,rfl,SX,eO,RI,mz⟩:=h.l.form ok.l1
 obtain⟨gq,cq,rfl,hgq,hqc,hqm,zL⟩:=h.q.form (by omega)
 obtain⟨n0,n1,n2,n3,n4⟩:=h.nodeCells hn
 obtain⟨e0,e1,e2⟩:=h.endsCells Ut
 obtain⟨_c,Hy,zQ⟩:=ok.ends q _ (Am.ends_some Ut)
 have fq:=fun j=>h.q.frz rfl j
 have fl:=fun j=>h.l.frz rfl j
 have Ik:=ok.l2
 obtain⟨⟨a1,a2⟩,⟨a3,a4⟩,⟨a5,a6⟩⟩:=h.apart
 have s1:=h.setNode (x':={(A.node n)with q:=(q:Int)}) 4 (u:=.int .i64 q) hn (by omega) rfl
 have s2:=s1.setNode (n:=n) (x':={(A.node n)with q:=(q:Int),prev:=0}) 2 (u:=.int .i64 0) (by rw[(Cc _ _).1];exact hn) (by omega) (by rw[EB hn];rfl)
 rw[EH]at s2
 have s3:=s2.setNode (n:=n) (x':={(A.node n)with q:=(q:Int),prev:=0,next:=(A.ends q).head}) 3 (u:=.int .i64 (A.ends q).head) (by rw[(Cc _ _).1];exact hn) (by omega) (by rw[EB hn];rfl)
 rw[EH]at s3
 have s4:=s3.setNode (n:=n) (x':={(A.node n)with q:=(q:Int),prev:=(A.ends q).tail,next:=(A.ends q).head}) 2 (u:=.int .i64 (A.ends q).tail) (by rw[(Cc _ _).1];exact hn) (by omega) (by rw[EB hn];rfl)
 rw[EH]at s4
 have s5:=s4.setNode (n:=n) (x':={(A.node n)with q:=(q:Int),prev:=(A.ends q).tail,next:=0}) 3 (u:=.int .i64 0) (by rw[(Cc _ _).1];exact hn) (by omega) (by rw[EB hn];rfl)
 rw[EH,(Cc _ _).1]at s5
 rw[(Cc _ _).1]at s3
 have S3:=Aa s3
 have S5:=Aa s5
 clear s1 s2 s3 s4 s5
 simp at c0 c2
 have Hh:=Aa hh
 have Ht:=Aa ht
 have Hn0:=Aa MX
 clear hh ht MX
 go_enter Tryz.func133,Tryz.ntmps133
 go_upto_if 36 with fail
 go_cut [] (fun wx=>Af S w wx∧BL S wx g (A.setNode n (AZ A n q tail)) (.slice (some ⟨gl,0,none⟩) A.l.length cl) vf (.slice (some ⟨gq,0,none⟩) A.qs.length cq) bm)
 case first=>
  cases tail
  ·go_wp2
   go_meet
   refine⟨?_,S3.out⟩
   repeat' first|with_reducible exact Af.refl _ _|with_reducible refine Af.drewN ?_ _|with_reducible refine Af.drew ?_|with_reducible refine Af.setCell ?_ (by assumption) _|with_reducible refine Af.alloc ?_ (by assumption) _
  ·go_wp2
   go_meet
   refine⟨?_,S5.out⟩
   repeat' first|with_reducible exact Af.refl _ _|with_reducible refine Af.drewN ?_ _|with_reducible refine Af.drew ?_|with_reducible refine Af.setCell ?_ (by assumption) _|with_reducible refine Af.alloc ?_ (by assumption) _
 case rest=>
  clear c0 c2 n0 n1 n2 n3 n4 e0 e1 e2 fq fl S3 S5 mz zL
  obtain⟨Gh,hA⟩:=hcut
  have hk:=Aa Gh
  clear Gh
  have hxp:(AZ A n q tail).prev≠n:=by
   unfold AZ;cases tail
   ·exact fun e=>Hn0.out e.symm
   ·exact Ht.out
  have aC:(AZ A n q tail).prev<A.l.length∧(AZ A n q tail).next<A.l.length:=by
   unfold AZ;cases tail
   ·exact⟨by show 0<_;omega,_c⟩
   ·exact⟨Hy,by show 0<_;omega⟩
  have A6:∀W:World,W.heap=(((wc.setCell (if(AZ A n q tail).prev=0 then⟨gq,q*3,none⟩else⟨gl,(AZ A n q tail).prev*5+3,none⟩) (.int .i64 n)).setCell
   (if(AZ A n q tail).next=0 then⟨gq,q*3+1,none⟩else⟨gl,(AZ A n q tail).next*5+2,none⟩) (.int .i64 n)).setCell ⟨gq,q*3+2,none⟩ (.int .i64 ((A.ends q).n+1:Nat))).heap→
   BL S W g (A.link n q tail) (.slice (some ⟨gl,0,none⟩) (A.link n q tail).l.length cl) vf (.slice (some ⟨gq,0,none⟩) (A.link n q tail).qs.length cq) bm:=
   fun W hW=>hA.link_rest hn Ut aC.1 aC.2 hW
  have c0:=hA.row.cell 0
  have c2:=hA.row.cell 2
  have fq:=fun j=>hA.q.frz rfl j
  have fl:=fun j=>hA.l.frz (by rw[(Cc _ _).1]) j
  have wi:=hA
  rw[←(Cc (A:=A) n (AZ A n q tail)).1]at wi
  obtain⟨n0,n1,n2,n3,n4⟩:=wi.nodeCells (n:=n) (by rw[(Cc _ _).1];exact hn)
  obtain⟨_,_,x2,_,_⟩:=wi.nodeCells (n:=(AZ A n q tail).next) (by rw[(Cc _ _).1];exact aC.2)
  obtain⟨_,_,_,y3,_⟩:=wi.nodeCells (n:=(AZ A n q tail).prev) (by rw[(Cc _ _).1];exact aC.1)
  obtain⟨e0,e1,e2⟩:=hA.endsCells (n:=q) Ut
  rw[EB hn]at n0 n1 n2 n3 n4
  simp only[QN]at e0 e1 e2
  generalize ((A.setNode n (AZ A n q tail)).node (AZ A n q tail).next).prev=pvx at*
  generalize ((A.setNode n (AZ A n q tail)).node (AZ A n q tail).prev).next=nxy at*
  clear hA wi Ht Hh
  generalize cj:A.link n q tail=A' at A6
  have pb:=Aa cj
  clear cj
  simp at c0 c2
  generalize AZ A n q tail=x at*
  obtain⟨xk,xf,xp,xn,xq⟩:=x
  simp only at*
  generalize (A.ends q).head=hd at*
  generalize (A.ends q).tail=tl at*
  generalize (A.ends q).n=m at*
  have Al6:¬n=xp:=fun e=>hxp e.symm
  by_cases hp:xp=0
  ·subst hp
   by_cases hx:xn=0
   ·subst hx
    simp only[A0]at A6
    have Hf:=Aa A6
    clear A6
    go_wp2
    go_end0
    rw[pb.out]
    refine⟨rfl,hk.out.trans ?_,_,_,Hf.out _ (by(try simp only[CX,FX,Dr,Ha,C1,Ho]);(try simp only[Gz,EQ,EP]);try with_reducible rfl)⟩
    repeat' first|with_reducible exact Af.refl _ _|with_reducible refine Af.drewN ?_ _|with_reducible refine Af.drew ?_|with_reducible refine Af.setCell ?_ (by assumption) _|with_reducible refine Af.alloc ?_ (by assumption) _
   ·simp only[A0,Ad hx]at A6
    have Hf:=Aa A6
    clear A6
    have eI:=ZT hx
    have Hx:=Aa hx
    clear hx
    go_wp2
    (refine DM 11 (by kernel_rfl) (by kernel_rfl) ?_;simp only[Aw,AO,Ax,AK];repeat still_step);refine Cf ?_
    go_wp2
    go_end0
    rw[pb.out]
    refine⟨rfl,hk.out.trans ?_,_,_,Hf.out _ (by(try simp only[CX,FX,Dr,Ha,C1,Ho]);(try simp only[Gz,EQ,EP]);try with_reducible rfl)⟩
    repeat' first|with_reducible exact Af.refl _ _|with_reducible refine Af.drewN ?_ _|with_reducible refine Af.drew ?_|with_reducible refine Af.setCell ?_ (by assumption) _|with_reducible refine Af.alloc ?_ (by assumption) _
  ·by_cases hx:xn=0
   ·subst hx
    simp only[A0,Ad hp]at A6
    have Hf:=Aa A6
    clear A6
    have Ti:=ZT hp
    have Hp:=Aa hp
    clear hp
    go_wp2
    (refine DM 11 (by kernel_rfl) (by kernel_rfl) ?_;simp only[Aw,AO,Ax,AK];repeat still_step);refine Cf ?_
    go_wp2
    go_end0
    rw[pb.out]
    refine⟨rfl,hk.out.trans ?_,_,_,Hf.out _ (by(try simp only[CX,FX,Dr,Ha,C1,Ho]);(try simp only[Gz,EQ,EP]);try with_reducible rfl)⟩
    repeat' first|with_reducible exact Af.refl _ _|with_reducible refine Af.drewN ?_ _|with_reducible refine Af.drew ?_|with_reducible refine Af.setCell ?_ (by assumption) _|with_reducible refine Af.alloc ?_ (by assumption) _
   ·simp only[Ad hp,Ad hx]at A6
    have Hf:=Aa A6
    clear A6
    have Ti:=ZT hp
    have Hp:=Aa hp
    clear hp
    have eI:=ZT hx
    have Hx:=Aa hx
    clear hx
    go_wp2
    (refine DM 11 (by kernel_rfl) (by kernel_rfl) ?_;simp only[Aw,AO,Ax,AK];repeat still_step);refine Cf ?_
    go_wp2
    (refine DM 11 (by kernel_rfl) (by kernel_rfl) ?_;simp only[Aw,AO,Ax,AK];repeat still_step);refine Cf ?_
    go_wp2
    go_end0
    rw[pb.out]
    refine⟨rfl,hk.out.trans ?_,_,_,Hf.out _ (by(try simp only[CX,FX,Dr,Ha,C1,Ho]);(try simp only[Gz,EQ,EP]);try with_reducible rfl)⟩
    repeat' first|with_reducible exact Af.refl _ _|with_reducible refine Af.drewN ?_ _|with_reducible refine Af.drew ?_|with_reducible refine Af.setCell ?_ (by assumption) _|with_reducible refine Af.alloc ?_ (by assumption) _
end
section
variable {S:Nat→Prop} {w w':World} {b:Nat} {k:IntKind} {M:GP} {P:Program}
theorem LF {w:World} {b:Nat} (o:Obj):Af (fun x=>x=b) w {w with heap:=w.heap.setIfInBounds b o}:=
 ⟨rfl,rfl,rfl,by simp,fun i hi=>by simp only[oE];rw[Ad (fun e=>hi e.symm)]⟩
theorem LE {w:World} {b:Nat} {o:Obj} (hb:b<w.heap.size):({w with heap:=w.heap.setIfInBounds b o}:World).heap[b]?=some o:=by
 simp[oE,hb]
theorem ZG {es:List MapEntry} (h:es.map (fun e=>(e.key,e.val))=M.map (fun x=>(Value.int k x.1,x.2))) (j:Nat):
  (es[j]?).map (fun e=>(e.key,e.val))=(M[j]?).map (fun x=>(Value.int k x.1,x.2)):=by
 rw[←Az,h,Az]
theorem Vq {x:Int}:FT M x=none↔M.findIdx? (fun y=>y.1==x)=none:=by
 unfold FT
 simp[In,PO]
theorem WZ (P:Program) (x:Int) (w:World):(Instr.keyThatStays (.int k x) (.int k x)).run P w= .ok (.int k x) w:=by
 have h:∀n,Instr.sameBits (n+1) (.int k x) (.int k x)=true:=fun n=>by simp[Instr.sameBits]
 simp[Instr.keyThatStays,h 9999]
theorem Mu {α β:Type} (f:α→β):∀(l:List α) (i:Nat),(l.eraseIdx i).map f=(l.map f).eraseIdx i
 | [],i=>by simp
 |x::l,0=>by simp
 |x::l,i+1=>by simp[Mu f l i]
theorem BV.update {T K E:TypeId} (h:BV w b k M) (hT:P.underlying T=some (.map K E)) (hK:P.underlying K=some (.int k)) (x:Int) (v:Value):
  ∃w',(Instr.mapUpdate T (.map (some b)) (.int k x) v).run P w= .ok () w'∧BV w' b k (SP M x v)∧Af (fun i=>i=b) w w':=by
 have Cy:=h.lt
 obtain⟨es,cl,h1,h2,h3,h4,h5⟩:=h
 have hf:=JW hK x es.toList h2 w
 cases hj:M.findIdx? (fun y=>y.1==x)with
 |none=>
  have Vv:FT M x=none:=Vq.2 hj
  refine⟨{w with heap:=w.heap.setIfInBounds b (.map (es.push {key:=.int k x,val:=v,born:=cl}) (cl+1))},?_,⟨_,_,LE Cy,?_,?_,?_,?_⟩,LF _⟩
  ·rw[hj]at hf
   simp[Instr.mapUpdate,Jh hT,GV h1,FH hK,hf,IR h1]
  ·simp[SP,Vv,h2]
  ·intro e he
   simp only[Array.toList_push,CI,D3]at he
   rcases he with he|rfl
   ·have:=h3 e he;omega
   ·exact Ea _
  ·simp only[Array.toList_push,CJ,Cq,dE]
   rw[B5]
   refine⟨h4,by simp,?_⟩
   intro a ha c hc e
   simp only[D3]at hc
   obtain⟨y,hy,rfl⟩:=AT.1 ha
   have:=h3 y hy
   omega
  ·simp only[SP,Vv,Z8,An,A1,CJ,Cq,dE]
   rw[B5]
   refine⟨h5,by simp,?_⟩
   intro a ha c hc e
   simp only[D3]at hc
   subst hc
   subst e
   obtain⟨y,hy,rfl⟩:=AT.1 ha
   have:=PO.1 hj y hy
   simp at this
 |some j=>
  obtain⟨OQ,hjx,_⟩:=Li.1 hj
  have sC:(FT M x).isSome=true:=by
   rw[Y7,hj];simp[Ah OQ]
  have bV:=ZG h2 j
  rw[Ah OQ]at bV
  have hlen:es.toList.length=M.length:=by have:=AL List.length h2;simpa using this
  have hej:es.toList[j]?=some es.toList[j]:=Ah (by omega)
  have hx:M[j].1=x:=by simpa using hjx
  have Uz:es.toList[j].key= .int k x:=by
   rw[hej]at bV
   simp only[CZ,De,Yc]at bV
   rw[bV.1,hx]
  refine⟨{w with heap:=w.heap.setIfInBounds b (.map (es.modify j fun e=>{e with key:=.int k x,val:=v}) cl)},?_,⟨_,_,LE Cy,?_,?_,?_,?_⟩,LF _⟩
  ·rw[hj]at hf
   simp only[R7,Ah OQ,CZ]at hf
   have A4:((es[j]?).map (·.key)).getD (.int k x)= .int k x:=by
    rw[←Array.getElem?_toList,hej];simpa using Uz
   simp only[Instr.mapUpdate,JE,Jh hT,Ly,GV h1,FH hK,hf,A4,WZ,IR h1]
  ·have e1:∀(l:List MapEntry) (M:GP) (j:Nat),l.map (fun e=>(e.key,e.val))=M.map (fun y=>(Value.int k y.1,y.2))→(M.map (·.1)).Nodup→(hl:j<M.length)→M[j].1=x→
     (l.modify j fun e=>{e with key:=.int k x,val:=v}).map (fun e=>(e.key,e.val))=(M.map (fun y=>if y.1==x then(x,v)else y)).map (fun y=>(Value.int k y.1,y.2)):=by
    intro l
    induction l with
    |nil=>
     intro M j h _ hl
     have:=AL List.length h
     simp at this
     omega
    |cons e l ih=>
     intro M j h hn hl hx
     cases M with
     |nil=>simp at hl
     |cons y M=>
      simp only[Cq,J9]at h
      simp only[Cq,BK]at hn
      cases j with
      |zero=>
       simp only[List.getElem_cons_zero]at hx
       simp only[List.modify_zero_cons,Cq,hx,ja,A0,h.2,J9,true_and]
       refine(DK ?_:List.map (fun y=>(Value.int k y.1,y.2)) M=List.map (fun y=>(Value.int k (if y.1==x then(x,v)else y).1,(if y.1==x then(x,v)else y).2)) M).trans ?_
       ·intro z hz
        have:(z.1==x)=false:=by
         simp only[Bv]
         intro hzx
         exact hn.1 (by rw[hx,←hzx];exact AT.2 ⟨z,hz,rfl⟩)
        simp[this]
       ·simp[dF,Function.comp_def]
      |succ j=>
       simp only[List.getElem_cons_succ]at hx
       have Cu:(y.1==x)=false:=by
        simp only[Bv]
        intro hyx
        exact hn.1 (by rw[hyx,←hx];exact AT.2 ⟨_,MD _,rfl⟩)
       simp only[List.modify_succ_cons,Cq,Cu]
       rw[ih M j h.2 hn.2 (by simpa using hl) hx]
       simp[h.1]
   rw[XR]
   simp only[SP,sC,A0]
   exact e1 _ _ _ h2 h5 OQ hx
  ·intro e he
   rw[XR]at he
   obtain⟨i,hi⟩:=U2.1 he
   rw[List.getElem?_modify]at hi
   split at hi
   ·cases hy:es.toList[i]? with
    |none=>rw[hy]at hi;cases hi
    |some y=>rw[hy]at hi;simp at hi;subst hi;exact h3 y (A7 hy)
   ·cases hy:es.toList[i]? with
    |none=>rw[hy]at hi;cases hi
    |some y=>rw[hy]at hi;simp at hi;subst hi;exact h3 y (A7 hy)
  ·rw[XR]
   have:∀(l:List MapEntry) (j:Nat),(l.modify j fun e=>{e with key:=.int k x,val:=v}).map (·.born)=l.map (·.born):=by
    intro l
    induction l with
    |nil=>intro j;simp
    |cons e l ih=>intro j;cases j with
     |zero=>simp
     |succ j=>simp[ih]
   rw[this];exact h4
  ·simp only[SP,sC,A0,dF]
   have:(M.map ((fun y:Int×Value=>y.1)∘fun y=>if y.1==x then(x,v)else y))=M.map (·.1):=by
    refine DK fun y hy=>?_
    by_cases hyx:y.1==x
    ·have e:y.1=x:=by simpa using hyx
     simp[e]
    ·have e:¬y.1=x:=by simpa using hyx
     simp[e]
   rw[this];exact h5
theorem BV.delete {T K E:TypeId} (h:BV w b k M) (hT:P.underlying T=some (.map K E)) (hK:P.underlying K=some (.int k)) (x:Int) (ty:TypeId):
  ∃w',(Builtin.delete_ #[T,K] ty #[.map (some b),.int k x]).run P w= .ok (.tuple #[]) w'∧BV w' b k (Y8 M x)∧Af (fun i=>i=b) w w':=by
 have Cy:=h.lt
 obtain⟨es,cl,h1,h2,h3,h4,h5⟩:=h
 have hf:=JW hK x es.toList h2 w
 cases hj:M.findIdx? (fun y=>y.1==x)with
 |none=>
  refine⟨{w with heap:=w.heap.setIfInBounds b (.map es cl)},?_,⟨_,_,LE Cy,?_,h3,h4,?_⟩,LF _⟩
  ·rw[hj]at hf
   simp[Builtin.delete_,Jh hT,GV h1,FH hK,hf,IR h1]
  all_goals
   have:Y8 M x=M:=by
    unfold Y8
    exact List.eraseP_of_forall_not (fun y hy=>by have:=PO.1 hj y hy;simpa using this)
   rw[this]
  ·exact h2
  ·exact h5
 |some j=>
  obtain⟨OQ,hjx,Ani⟩:=Li.1 hj
  have hlen:es.toList.length=M.length:=by have:=AL List.length h2;simpa using this
  have zU:Y8 M x=M.eraseIdx j:=by
   unfold Y8
   rw[List.eraseP_eq_eraseIdx,hj]
  have Am8:j<es.size:=by rw[←Array.length_toList];omega
  refine⟨{w with heap:=w.heap.setIfInBounds b (.map (es.eraseIdxIfInBounds j) cl)},?_,⟨_,_,LE Cy,?_,?_,?_,?_⟩,LF _⟩
  ·rw[hj]at hf
   simp only[R7,Ah OQ,CZ]at hf
   simp[Builtin.delete_,Jh hT,GV h1,FH hK,hf,IR h1]
  ·rw[Me,zU,Mu,h2,Mu]
  ·intro e he
   rw[Me]at he
   exact h3 e (Rf he)
  ·rw[Me,Mu]
   exact h4.sublist (List.eraseIdx_sublist _ _)
  ·rw[zU,Mu]
   exact h5.sublist (List.eraseIdx_sublist _ _)
end
section
variable {S:Nat→Prop} {P:Program} {w:World} {ops:Array Oper} {rest:List Oper} {o:Oper} {a:Act} {Q:Exit→Act→World→Prop}
theorem Hg {b:Nat} {k:IntKind} {M:GP} {T K E:TypeId} (hT:P.underlying T=some (.map K E)) (hK:P.underlying K=some (.int k)) (h:BV w b k M)
  (hg:o.guard=none) (m x v:Operand) (qt:o.op=Op.mapUpdate T m x v) (hm:a.eval m= .map (some b)) (key:Int) (hx:a.eval x= .int k key) (val:Value) (hv:a.eval v=val)
  (hK':∀w',BV w' b k (SP M key val)→Af (fun i=>i=b) w w'→wpList P ops Q rest (a.put o.dst undef) w'):wpList P ops Q (o::rest) a w:=by
 refine wpList_plain hg fun K' xR=>?_
 obtain⟨w',Cd,r1,r2⟩:=h.update hT hK key val
 unfold Oper.wp
 simp[execOp,qt,hm,hx,hv,Cd,Result.andThen]
 exact xR _ _ (hK' w' r1 r2)
theorem fC {b:Nat} {k:IntKind} {M:GP} {T K E:TypeId} (hT:P.underlying T=some (.map K E)) (hK:P.underlying K=some (.int k)) (h:BV w b k M)
  (hg:o.guard=none) (m x:Operand) (qt:o.op=Op.call {callee:=.builtin .delete,args:=#[m,x],argTypes:=#[T,K]}) (hm:a.eval m= .map (some b)) (key:Int) (hx:a.eval x= .int k key)
  (hK':∀w',BV w' b k (Y8 M key)→Af (fun i=>i=b) w w'→wpList P ops Q rest (a.put o.dst (.tuple #[])) w'):wpList P ops Q (o::rest) a w:=by
 refine wpList_plain hg fun K' xR=>?_
 obtain⟨w',Cd,r1,r2⟩:=h.delete hT hK key o.type
 unfold Oper.wp execOp
 simp only[qt,resolve,invoke,builtin,JE,Sem.run_pure,Ly,List.map_toArray,Cq,dE,hm,hx,Cd]
 exact xR _ _ (hK' w' r1 r2)
theorem fD {e:TypeId} {i:TypeInfo} {z:Value} {size bytes:Nat} {t:TypeId} (ht:P.underlying t=some (.slice e)) (hi:P.info? e=some i) (hz:i.zero=some z)
  (NY:i.size=size) (qI:i.bytes=bytes) (qg:z.cells.size=size) (Fw:0<size) {v:Value} {n:Nat} {xs:List Value} (h:Sl S w e size v n xs) (hS:S w.heap.size)
  (Ws:o.guard=none) (s x:Operand) (ho:o.op= .call {callee:=.builtin .append,args:=#[s,x],argTypes:=#[t,t]}) (hs:a.eval s=v)
  (ad:Addr) (m c:Nat) (news:List Value) (hx:a.eval x= .slice (some ad) m c) (hl:news.length=m*size) (Zr:∀j u,news[j]?=some u→w.cell? (ad.add j)=some u) (h1:∀u∈news,u.oneCell'=true)
  (tx:n+m≤maxLen) (MZ:(n+m)*bytes≤140737488355328)
  (hK:∀v' w',Sl S w' e size v' (n+m) (xs++news)→Af (fun b=>v.ownBlock=some b∨w.heap.size≤b) w w'→(v'.ownBlock=v.ownBlock∨v'.ownBlock=some w.heap.size)→
   (v'= .slice none 0 0↔v= .slice none 0 0∧m=0)→wpList P ops Q rest (a.put o.dst v') w'):wpList P ops Q (o::rest) a w:=by
 refine wpList_append_own_at w Ws s x t ho 0 e i z size bytes ht hi hz NY qI qg Fw v n xs hs h.1 ad m c news hx hl Zr h1 tx MZ (Bn _) fun v' w' h2 h3 h4 h5=>?_
 refine hK v' w' ⟨h2,fun g hg=>?_⟩ ?_ h5 h4
 ·rcases h5 with h5|h5
  ·exact h.2 g (h5▸hg)
  ·rw[h5]at hg
   injection hg with hg
   exact hg▸hS
 ·refine⟨h3.os,h3.tape,h3.output,h3.size,fun k hk=>?_⟩
  rcases BP k w.heap.size with Cy|Xn
  ·exact h3.block k Cy (fun e=>hk (.inl e.symm))
  ·exact absurd (.inr Xn) hk
theorem Fq {e:TypeId} {i:TypeInfo} {z:Value} {size bytes:Nat} {t:TypeId} (ht:P.underlying t=some (.slice e)) (hi:P.info? e=some i) (hz:i.zero=some z)
  (NY:i.size=size) (qI:i.bytes=bytes) (qg:z.cells.size=size) (Fw:0<size) {v:Value} {n:Nat} {xs:List Value} (h:Sl S w e size v n xs) (hS:S w.heap.size)
  (Ws:o.guard=none) (s x:Operand) (ho:o.op= .call {callee:=.builtin .append,args:=#[s,x],argTypes:=#[t,t]}) (hs:a.eval s=v)
  (ad:Addr) (m c:Nat) (news:List Value) (hx:a.eval x= .slice (some ad) m c) (hl:news.length=m*size) (Zr:∀j u,news[j]?=some u→w.cell? (ad.add j)=some u) (h1:∀u∈news,u.oneCell'=true)
  (tx:n+m≤maxLen) (MZ:(n+m)*bytes≤140737488355328) (Kf:0<n+m)
  (hK:∀g cap w',Sl S w' e size (.slice (some ⟨g,0,none⟩) (n+m) cap) (n+m) (xs++news)→Af (fun b=>v.ownBlock=some b∨w.heap.size≤b) w w'→(v.ownBlock=some g∨g=w.heap.size)→
   wpList P ops Q rest (a.put o.dst (.slice (some ⟨g,0,none⟩) (n+m) cap)) w'):wpList P ops Q (o::rest) a w:=by
 refine fD ht hi hz NY qI qg Fw h hS Ws s x ho hs ad m c news hx hl Zr h1 tx MZ fun v' w' h2 h3 h4 _=>?_
 obtain⟨g,cap,rfl,_⟩:=h2.form Kf
 refine hK g cap w' h2 h3 ?_
 rcases h4 with h4|h4
 ·exact .inl h4.symm
 ·injection h4 with h4
  exact .inr h4
end
section
variable {S:Nat→Prop} {w w2:World} {g bm:Nat} {A:Am} {vl vf vq:Value}
theorem BL.setFree (h:BL S w g A vl vf vq bm) {UD:List Nat} {g' cap:Nat} (hs:Sl S w2 3 1 (.slice (some ⟨g',0,none⟩) UD.length cap) UD.length (UD.map Ld))
  (hk:Af (fun b=>vf.ownBlock=some b∨w.heap.size≤b) w w2):
  BL S (w2.setCell ⟨g,1,none⟩ (.slice (some ⟨g',0,none⟩) UD.length cap)) g {A with free:=UD} vl (.slice (some ⟨g',0,none⟩) UD.length cap) vq bm:=by
 have hg:¬(vf.ownBlock=some g∨w.heap.size≤g):=by
  rintro(h1|h1)
  ·exact h.f.ne_row h.row (by decide) h1
  ·have:=h.row.lt;omega
 have A4:Af (fun b=>b=g) w2 _:=Af.one w2 ⟨g,1,none⟩ (.slice (some ⟨g',0,none⟩) UD.length cap)
 have Ij:=h.row.kept hk hg
 have Ik:=h.l.kept hk (fun b hb=>by
  rintro(h1|h1)
  ·exact h.f.ne_sl h.l (by decide) hb h1
  ·have:=h.l.lt hb;omega)
 have Zp:=h.q.kept hk (fun b hb=>by
  rintro(h1|h1)
  ·exact h.f.ne_sl h.q (by decide) hb h1
  ·have:=h.q.lt hb;omega)
 have LV:=h.m.kept hk (by
  rintro(h1|h1)
  ·exact h.f.ne_map h.m h1
  ·have:=h.m.lt;omega)
 exact⟨Ij.set_ 1 _,Ik.kept A4 (fun b hb e=>Ik.ne_row Ij (by decide) (e▸hb)),hs.kept A4 (fun b hb e=>hs.ne_row Ij (by decide) (e▸hb)),Zp.kept A4 (fun b hb e=>Zp.ne_row Ij (by decide) (e▸hb)),
  LV.kept A4 (fun e=>LV.ne_row Ij e),h.sg,h.sm⟩
theorem BL.setL (h:BL S w g A vl vf vq bm) {l':List Node} {g' cap:Nat} (hs:Sl S w2 138 5 (.slice (some ⟨g',0,none⟩) l'.length cap) l'.length (l'.flatMap DZ))
  (hk:Af (fun b=>vl.ownBlock=some b∨w.heap.size≤b) w w2):
  BL S (w2.setCell ⟨g,0,none⟩ (.slice (some ⟨g',0,none⟩) l'.length cap)) g {A with l:=l'} (.slice (some ⟨g',0,none⟩) l'.length cap) vf vq bm:=by
 have hg:¬(vl.ownBlock=some g∨w.heap.size≤g):=by
  rintro(h1|h1)
  ·exact h.l.ne_row h.row (by decide) h1
  ·have:=h.row.lt;omega
 have A4:Af (fun b=>b=g) w2 _:=Af.one w2 ⟨g,0,none⟩ (.slice (some ⟨g',0,none⟩) l'.length cap)
 have Ij:=h.row.kept hk hg
 have vT:=h.f.kept hk (fun b hb=>by
  rintro(h1|h1)
  ·exact h.l.ne_sl h.f (by decide) hb h1
  ·have:=h.f.lt hb;omega)
 have Zp:=h.q.kept hk (fun b hb=>by
  rintro(h1|h1)
  ·exact h.l.ne_sl h.q (by decide) hb h1
  ·have:=h.q.lt hb;omega)
 have LV:=h.m.kept hk (by
  rintro(h1|h1)
  ·exact h.l.ne_map h.m h1
  ·have:=h.m.lt;omega)
 exact⟨Ij.set_ 0 _,hs.kept A4 (fun b hb e=>hs.ne_row Ij (by decide) (e▸hb)),vT.kept A4 (fun b hb e=>vT.ne_row Ij (by decide) (e▸hb)),Zp.kept A4 (fun b hb e=>Zp.ne_row Ij (by decide) (e▸hb)),
  LV.kept A4 (fun e=>LV.ne_row Ij e),h.sg,h.sm⟩
theorem BL.setM (h:BL S w g A vl vf vq bm) {M:List (Int×Nat)} (hm:BV w2 bm .u64 (FV M)) (hk:Af (fun i=>i=bm) w w2):BL S w2 g {A with at_:=M} vl vf vq bm:=
 ⟨h.row.kept hk (fun e=>h.m.ne_row h.row e.symm),h.l.kept hk (fun b hb e=>h.l.ne_map h.m (e▸hb)),h.f.kept hk (fun b hb e=>h.f.ne_map h.m (e▸hb)),h.q.kept hk (fun b hb e=>h.q.ne_map h.m (e▸hb)),hm,h.sg,h.sm⟩
theorem bG (M:List (Int×Nat)) (key:Int):Y8 (FV M) key=FV (M.eraseP (fun y=>y.1==key)):=by
 unfold Y8 FV
 rw[List.eraseP_map]
 rfl
theorem bF (M:List (Int×Nat)) (key:Int) (n:Nat) (h:M.find? (fun y=>y.1==key)=none):SP (FV M) key (.int .i64 n)=FV (M++[(key,n)]):=by
 unfold SP
 rw[Pu,h]
 simp[FV]
end
theorem qd:(Tryz.prog.info? 3).map (fun i=>(i.zero,i.size,i.bytes))=some (some (.int .i64 0),1,8):=by kernel_rfl
section
variable {S:Nat→Prop} {w:World} {g bm:Nat} {A:Am} {vl vf vq:Value}
theorem aL (n:Nat):(A.unlink n).l.length=A.l.length∧(A.unlink n).qs.length=A.qs.length:=by
 unfold Am.unlink Am.unlink3
 constructor
 ·show((A.unlink1 _).unlink2 _).l.length=_
  rw[(NJ _).1,(JQ _).1]
 ·simp only[Am.setEnds,BU]
  rw[(NJ _).2,(JQ _).2]
theorem Yo (n:Nat):(A.unlink n).free=A.free∧(A.unlink n).at_=A.at_:=by
 unfold Am.unlink Am.unlink3 Am.unlink2 Am.unlink1 Am.setEnds Am.setNode
 split<;>split<;>exact⟨rfl,rfl⟩
theorem Qj (h:BL S w g A vl vf vq bm) (hS:Up S w) (ok:A.Ok) (Zp:A.qs.length≤1000000) (key:Int) (hu:∀n,A.idx key=some n→∃q,A.CanUnlink n q):
  Calls Tryz.prog 49 #[.pointer (some ⟨g,0,none⟩),.int .u64 key] w fun e w'=>
   e= .returned (.tuple #[.int .i64 (A.outFreq key),.bool (A.idx key).isSome])∧Af S w w'∧∃vl vf vq,BL S w' g (A.out key) vl vf vq bm:=by
 have c0:=h.row.cell 0
 have c3:=h.row.cell 3
 have hk:=h.look key true
 cases hi:A.idx key with
 |none=>
  rw[hi]at hk
  have hw:A.out key=A:=by unfold Am.out;rw[hi]
  have hf:A.outFreq key=0:=by unfold Am.outFreq;rw[hi]
  rw[hw,hf]
  clear hi hw hf
  simp at c0 c3 hk
  go_enter Tryz.func49,Tryz.ntmps49
  go_wp2_with fail
  go_ret2
  exact⟨rfl,Af.refl _ _,_,_,_,h⟩
 |some n=>
  rw[hi]at hk
  obtain⟨q,hq⟩:=hu n hi
  have hw:A.out key=A.outAt key n:=by unfold Am.out;rw[hi]
  have hf:A.outFreq key=((A.unlink n).node n).freq:=by unfold Am.outFreq;rw[hi]
  rw[hw,hf]
  have hn:=hq.lt
  clear hi hw hf
  simp at c0 c3 hk
  go_enter Tryz.func49,Tryz.ntmps49
  go_wp2_with fail
  refine(aM h hS ok n q hq Zp).mono ?_
  rintro e w1 ⟨rfl,Bi,vl1,vq1,h1⟩
  have d0:=h1.row.cell 0
  have d1:=h1.row.cell 1
  have d3:=h1.row.cell 3
  obtain⟨ul,uq⟩:=aL (A:=A) n
  obtain⟨uf,ua⟩:=Yo (A:=A) n
  have J6:=ok.l1
  have Ik:=ok.l2
  have vT:=ok.free2
  obtain⟨gl,cl,rfl,SX,eO,RI,mz⟩:=h1.l.form (by omega)
  have XU:n<(A.unlink n).l.length:=by omega
  obtain⟨n0,n1,n2,n3,n4⟩:=h1.nodeCells XU
  have s1:=h1.setNode (n:=n) (x':={((A.unlink n).node n)with q:= -1}) 4 (u:=.int .i64 (-1)) XU (by omega) rfl
  have MW:A.outAt key n={(A.unlink n).setNode n {((A.unlink n).node n)with q:= -1}with free:=A.free++[n],at_:=A.at_.eraseP (fun y=>y.1==key)}:=rfl
  have hB2:((A.unlink n).setNode n {((A.unlink n).node n)with q:= -1}).free=A.free∧((A.unlink n).setNode n {((A.unlink n).node n)with q:= -1}).at_=A.at_:=⟨uf,ua⟩
  have Afo:=Aa MW
  clear MW
  generalize (A.unlink n).setNode n {((A.unlink n).node n)with q:= -1}=B2 at*
  have hS1:=hS.kept Bi
  have s1f:Sl S (w1.setCell ⟨gl,n*5+4,none⟩ (.int .i64 (-1))) 3 1 vf A.free.length (A.free.map Ld):=by rw[←hB2.1];exact s1.f
  obtain⟨i0,Lt,KX,Ls,Lr⟩:=Cj qd
  have xK:=h1.row.lt
  have fl:=fun j=>h1.l.frz rfl j
  have fg:=fun j=>h1.row.frozen j
  have Cu:¬gl=g∧¬g=gl:=by
   obtain⟨cs,hr⟩:=h1.l.row rfl
   have:=hr.ne_ h1.row (by decide)
   exact⟨this,fun e=>this e.symm⟩
  obtain⟨Ado,iD⟩:=Cu
  have hsg:=h1.sg
  have S1:=Aa s1
  have VV:=Aa hB2
  have Hk1:=Aa Bi
  have oV:=Aa hS1
  have S1f:=Aa s1f
  clear s1 hB2 Bi hS1 s1f
  have aD:Af S w1 (w1.setCell ⟨gl,n*5+4,none⟩ (.int .i64 (-1))):=Af.setCell (Af.refl _ _) SX _
  have Hkl:=Aa aD
  clear aD ul uq uf ua
  simp at d0 d1 d3
  have q1:S ((w1.setCell ⟨gl,n*5+4,none⟩ (.int .i64 (-1))).alloc (.cells #[.int .i64 n] 3)).heap.size:=oV.out _ (by simp)
  have q2:∀j u,[Value.int .i64 n][j]?=some u→((w1.setCell ⟨gl,n*5+4,none⟩ (.int .i64 (-1))).alloc (.cells #[.int .i64 n] 3)).cell? ((⟨w1.heap.size,0,none⟩:Addr).add j)=some u:=by
   simpa using cell_one_new (w1.setCell ⟨gl,n*5+4,none⟩ (.int .i64 (-1))) (.int .i64 n) 3
  have q3:∀u∈ [Value.int .i64 n],u.oneCell'=true:=ints_oneCell .i64 [(n:Int)]
  have q4:A.free.length+1≤maxLen:=by unfold maxLen;omega
  have q5:(A.free.length+1)*8≤140737488355328:=by omega
  have Q1:=Aa q1
  have Q2:=Aa q2
  have Q3:=Aa q3
  clear q1 q2 q3
  have s2:=S1.out.alloc (.cells #[.int .i64 n] 3)
  have q6:¬(vf.ownBlock=some g∨((w1.setCell ⟨gl,n*5+4,none⟩ (.int .i64 (-1))).alloc (.cells #[.int .i64 n] 3)).heap.size≤g):=by
   rintro(h0|h0)
   ·exact s2.f.ne_row s2.row (by decide) h0
   ·simp at h0;omega
  have q7:¬(vf.ownBlock=some bm∨((w1.setCell ⟨gl,n*5+4,none⟩ (.int .i64 (-1))).alloc (.cells #[.int .i64 n] 3)).heap.size≤bm):=by
   have:=s2.m.lt
   rintro(h0|h0)
   ·exact s2.f.ne_map s2.m h0
   ·omega
  have q8:¬bm=g:=s2.m.ne_row s2.row
  have S2:=Aa s2
  have Q6:=Aa q6
  have Q7:=Aa q7
  clear s2 q6 q7
  go_wp2_with (first
   |(at_builtin;go_must (refine Fq IN Lt KX Ls Lr rfl (by decide) (S1f.out.alloc _) Q1.out rfl _ _ rfl rfl ⟨w1.heap.size,0,none⟩ 1 1 [.int .i64 n] rfl rfl Q2.out Q3.out q4 q5 (E0 _) ?_;intro g2 Er w2 Cp A4 EE;have e1:=(S2.out.row.kept A4 Q6.out).cell 1;have e3:=(S2.out.row.kept A4 Q6.out).cell 3;have e5:=fun j=>(S2.out.row.kept A4 Q6.out).frozen j;have M2:=Aa (S2.out.m.kept A4 Q7.out);have U3:=Aa Cp;have Rp:=Aa A4;clear Cp A4 EE;simp at e1 e3))
   |(at_delete;go_must (refine fC Kr IP (M2.out.kept (Af.one _ _ _) q8) rfl _ _ rfl rfl key rfl ?_;intro w3 Pz BY;have Hm3:=Aa Pz;have fd:=Aa BY;clear Pz BY)))
  go_ret2
  have el:(A.free++[n]).length=A.free.length+1:=by simp
  have Cp:=U3.out
  have vB:Sl S w2 3 1 (.slice (some ⟨g2,0,none⟩) (A.free++[n]).length Er) (A.free++[n]).length ((A.free++[n]).map Ld):=by
   rw[el,CJ];exact Cp
  have f1:=S2.out.setFree vB Rp.out
  have Pz:=Hm3.out
  rw[VV.out.2,bG]at Pz
  rw[el]at f1
  have f2:=f1.setM Pz fd.out
  refine⟨rfl,?_,⟨_,_,_,by rw[Afo.out];exact f2⟩⟩
  ·have k2:Af S w1 ((w1.setCell ⟨gl,n*5+4,none⟩ (.int .i64 (-1))).alloc (.cells #[.int .i64 n] 3)):=Hkl.out.alloc (oV.out _ (by simp)) _
   have k3:Af S w1 w2:=k2.trans (Rp.out.mono (fun b hb=>by
    rcases hb with hb|hb
    ·exact S2.out.f.2 b hb
    ·exact oV.out _ (Ai k2.size hb)))
   have k4:=k3.setCell (p:=⟨g,1,none⟩) hsg (.slice (some ⟨g2,0,none⟩) (A.free.length+1) Er)
   exact Hk1.out.trans (k4.trans (fd.out.mono (fun b hb=>by rw[hb];exact h1.sm)))
end
theorem Zg:(Tryz.prog.info? 138).map (fun i=>(i.zero,i.size,i.bytes))=some (some (.agg #[.int .u64 0,.int .i64 0,.int .i64 0,.int .i64 0,.int .i64 0]),5,40):=by kernel_rfl
theorem Sl.take {S:Nat→Prop} {w:World} {e:TypeId} {size n:Nat} {g cap:Nat} {xs:List Value} (h:Sl S w e size (.slice (some ⟨g,0,none⟩) n cap) n xs) (m:Nat) (hm:m≤n):
  Sl S w e size (.slice (some ⟨g,0,none⟩) m cap) m (xs.take (m*size)):=by
 obtain⟨⟨h0,h1⟩,h2⟩:=h
 obtain⟨g',_H,cur,hv,hb,hh,hc,RI,hs,ht⟩:=h1.resolve_left (by rintro⟨h0,_⟩;cases h0)
 injection hv with hv Qy Uq
 injection hv with hv
 injection hv with hv
 subst hv Uq
 have iE:m*size≤n*size:=VO _ hm
 refine⟨⟨by rw[JF,h0];omega,.inr ⟨g,cap,cur,rfl,hb,hh,by omega,RI,hs,?_⟩⟩,fun g hg=>h2 g hg⟩
 rw[←ht,List.take_take]
 congr 1
 omega
theorem Sl.shape {S:Nat→Prop} {w:World} {e:TypeId} {size n:Nat} {v:Value} {xs:List Value} (h:Sl S w e size v n xs):∃a c,v= .slice a n c:=by
 rcases h.1.2 with⟨rfl,rfl⟩|⟨g,cap,cur,rfl,_⟩
 ·exact⟨none,0,rfl⟩
 ·exact⟨_,cap,rfl⟩
theorem FN (w:World) (l:List Value) (t:TypeId):∀j u,l[j]?=some u→(w.alloc (.cells l.toArray t)).cell? ((⟨w.heap.size,0,none⟩:Addr).add j)=some u:=by
 intro j u hu
 have:=(AM.new w t l).cell j
 rw[hu]at this
 unfold Addr.add
 split
 ·rename_i h0
  subst h0
  exact this
 ·simpa using this
section
variable {S:Nat→Prop} {w:World} {g bm:Nat} {A:Am} {vl vf vq:Value}
theorem YW (ok:A.Ok):A.place<A.ready.l.length:=by
 unfold Am.place Am.ready
 by_cases h:A.free=[]
 ·simp[h]
 ·simp only[h,A1]
  refine ok.free _ ?_
  rw[JP,List.getLast?_eq_some_getLast h]
  exact List.getLast_mem h
theorem Sp:A.ready.qs=A.qs∧A.ready.at_=A.at_∧A.l.length≤A.ready.l.length∧A.ready.l.length≤A.l.length+1∧(∀n,n∈A.ready.free→n∈A.free)∧A.ready.free.length≤A.free.length:=by
 unfold Am.ready
 by_cases h:A.free=[]
 ·simp[h]
 ·simp only[h,A1]
  exact⟨trivial,trivial,Ab _,Es _,fun n hn=>List.dropLast_subset _ hn,by simp⟩
theorem bn (n:Nat) (x:Node) (h:A.ready.l[n]?=some x):A.l[n]?=some x∨x=⟨0,0,0,0,0⟩:=by
 unfold Am.ready at h
 split at h
 ·simp only[List.getElem?_append]at h
  split at h
  ·exact .inl h
  ·cases hn:n-A.l.length with
   |zero=>rw[hn]at h;simp at h;exact .inr h.symm
   |succ k=>rw[hn]at h;simp at h
 ·exact .inl h
def Am.put_ (A:Am) (key freq:Int):Am:={(A.ready.setNode A.place ⟨key,freq,0,0,0⟩)with at_:=A.at_++[(key,A.place)]}
theorem Am.put_ok (ok:A.Ok) {key freq:Int} {q:Nat} (hc:A.CanIn key freq q):(A.put_ key freq).Ok:=by
 obtain⟨r1,r2,r3,r4,r5,r6⟩:=Sp (A:=A)
 have hp:=YW ok
 have hl:(A.put_ key freq).l.length=A.ready.l.length:=BU ..
 have hqs:(A.put_ key freq).qs=A.qs:=r1
 have yW:=hc.room
 have J6:=ok.l1
 have hq:=hc.lt
 refine⟨by omega,by omega,?_,?_,?_,?_,?_⟩
 ·intro n x hx
  have LT:(A.ready.l.set A.place ⟨key,freq,0,0,0⟩)[n]?=some x:=hx
  rw[hqs,hl]
  rw[Bp]at LT
  split at LT
  ·injection LT with LT
   subst LT
   exact⟨by show 0<_;omega,by show 0<_;omega,by show(0:Int)≤_;omega,hc.freq.1,hc.freq.2⟩
  ·rcases bn n x LT with h|rfl
   ·obtain⟨a,b,c,d⟩:=ok.node n x h
    exact⟨by omega,by omega,c,d⟩
   ·exact⟨by show 0<_;omega,by show 0<_;omega,by show(0:Int)≤_;omega,by decide,by decide⟩
 ·intro n hn
  have:=ok.free n (r5 n hn)
  omega
 ·have:=ok.free2
  have h2:(A.put_ key freq).free=A.ready.free:=rfl
  rw[h2];omega
 ·intro q x hx
  rw[hqs]at hx
  obtain⟨a,b,c⟩:=ok.ends q x hx
  exact⟨by omega,by omega,c⟩
 ·intro k n hk
  have OF:((A.at_++[(key,A.place)]).find? (fun y=>y.1==k)).map (·.2)=some n:=hk
  rw[Ek]at OF
  cases hf:A.at_.find? (fun y=>y.1==k)with
  |some y=>
   rw[hf]at OF
   have A4:A.idx k=some n:=by unfold Am.idx;rw[hf];simpa using OF
   obtain⟨h1,h2⟩:=ok.at_ k n A4
   refine⟨by omega,?_⟩
   show 0≤((A.ready.l.set A.place ⟨key,freq,0,0,0⟩)[n]?.getD ⟨0,0,0,0,0⟩).q
   rw[Bp]
   split
   ·simp
   ·have:A.ready.l[n]?=A.l[n]?:=by
     unfold Am.ready
     split
     ·simp[List.getElem?_append,h1]
     ·rfl
    rw[this]
    exact h2
  |none=>
   rw[hf]at OF
   simp only[J8,List.find?_nil,Option.none_or]at OF
   split at OF
   ·simp at OF
    subst OF
    refine⟨by omega,?_⟩
    show 0≤((A.ready.l.set A.place ⟨key,freq,0,0,0⟩)[A.place]?.getD ⟨0,0,0,0,0⟩).q
    rw[Bp]
    simp[hp]
   ·simp at OF
theorem BL.dropFree {gf cf:Nat} (h:BL S w g A vl (.slice (some ⟨gf,0,none⟩) A.free.length cf) vq bm) (hf:A.free≠ []):
  BL S (w.setCell ⟨g,1,none⟩ (.slice (some ⟨gf,0,none⟩) (A.free.length-1) cf)) g A.ready vl (.slice (some ⟨gf,0,none⟩) (A.free.length-1) cf) vq bm:=by
 have e:A.ready={A with free:=A.free.dropLast}:=by unfold Am.ready;rw[Ad hf]
 have el:A.free.dropLast.length=A.free.length-1:=by simp
 have hs:=h.f.take (A.free.length-1) (by omega)
 have e2:(A.free.map Ld).take ((A.free.length-1)*1)=A.free.dropLast.map Ld:=by
  rw[Jm,←List.map_take,List.dropLast_eq_take]
 rw[e2,←el]at hs
 have:=h.setFree hs ((Af.refl _ w).mono (fun _ h=>h))
 rw[e,←el]
 exact this
theorem Xd (h:BL S w g A vl vf vq bm) (hS:Up S w) (ok:A.Ok) (Zp:A.qs.length≤1000000) (key freq:Int) (q:Nat) (tail:Bool) (hc:A.CanIn key freq q):
  Calls Tryz.prog 105 #[.pointer (some ⟨g,0,none⟩),.int .u64 key,.int .i64 freq,.int .i64 q,.bool tail] w fun e w'=>
   e= .returned (.tuple #[])∧Af S w w'∧∃vl vf vq,BL S w' g (A.in_ key freq q tail) vl vf vq bm:=by
 have c0:=h.row.cell 0
 have c1:=h.row.cell 1
 have fg:=fun j=>h.row.frozen j
 have J6:=ok.l1
 have Ik:=ok.l2
 have vT:=ok.free2
 have hsg:=h.sg
 have xK:=h.row.lt
 have yW:=hc.room
 simp at c0 c1
 have HA:=Aa h
 obtain⟨af,cf,rfl⟩:=h.f.shape
 clear h
 go_enter Tryz.func105,Tryz.ntmps105
 go_upto_if 18 with fail
 go_cut [10] (fun us wx=>us= .int .i64 A.place∧Af S w wx∧∃vl vf,BL S wx g A.ready vl vf vq bm)
 case first=>
  by_cases hf:A.free=[]
  ·obtain⟨gl,cl,rfl,SX,eO,RI,mz⟩:=HA.out.l.form J6
   have h0:A.free.length=0:=by rw[hf];rfl
   have hp:A.place=A.l.length:=by unfold Am.place;rw[Ak hf]
   have hr:A.ready={A with l:=A.l++[⟨0,0,0,0,0⟩]}:=by unfold Am.ready;rw[Ak hf]
   obtain⟨i0,Lt,KX,Ls,Lr⟩:=Cj Zg
   have q1:S (w.alloc (.cells #[.int .u64 0,.int .i64 0,.int .i64 0,.int .i64 0,.int .i64 0] 138)).heap.size:=hS _ (by simp)
   have q2:=FN w [.int .u64 0,.int .i64 0,.int .i64 0,.int .i64 0,.int .i64 0] 138
   have q3:∀u∈ [Value.int .u64 0,.int .i64 0,.int .i64 0,.int .i64 0,.int .i64 0],u.oneCell'=true:=by
    intro u hu;simp at hu;rcases hu with rfl|rfl<;>rfl
   have q4:A.l.length+1≤maxLen:=by unfold maxLen;omega
   have q5:(A.l.length+1)*40≤140737488355328:=by omega
   have s2:=HA.out.alloc (.cells #[.int .u64 0,.int .i64 0,.int .i64 0,.int .i64 0,.int .i64 0] 138)
   have q6:¬((Value.slice (some ⟨gl,0,none⟩) A.l.length cl).ownBlock=some g∨(w.alloc (.cells #[.int .u64 0,.int .i64 0,.int .i64 0,.int .i64 0,.int .i64 0] 138)).heap.size≤g):=by
    rintro(h0|h0)
    ·exact s2.l.ne_row s2.row (by decide) h0
    ·simp at h0;omega
   have S2:=Aa s2
   have Q1:=Aa q1
   have Q2:=Aa q2
   have Q3:=Aa q3
   have Q6:=Aa q6
   have Hr:=Aa hr
   have Hp:=Aa hp
   have Hf:=Aa hf
   clear s2 q1 q2 q3 q6 hr hp hf
   have h00:¬(0<A.free.length):=by omega
   have H0:=Aa h0
   clear h0
   go_wp2_with (at_builtin;go_must (refine Fq Tryz.underlying132 Lt KX Ls Lr rfl (by decide) (S2.out.l) Q1.out rfl _ _ rfl rfl ⟨w.heap.size,0,none⟩ 1 1 [.int .u64 0,.int .i64 0,.int .i64 0,.int .i64 0,.int .i64 0] rfl rfl Q2.out Q3.out q4 q5 (E0 _) ?_;intro g2 Er w2 Cp A4 EE;have e0:=(S2.out.row.kept A4 Q6.out).cell 0;have e5:=fun j=>(S2.out.row.kept A4 Q6.out).frozen j;have U3:=Aa Cp;have Rp:=Aa A4;clear Cp A4 EE;simp at e0))
   go_meet
   have el:(A.l++[(⟨0,0,0,0,0⟩:Node)]).length=A.l.length+1:=by simp
   have Cp:=U3.out
   have vB:Sl S w2 138 5 (.slice (some ⟨g2,0,none⟩) (A.l++[(⟨0,0,0,0,0⟩:Node)]).length Er) (A.l++[(⟨0,0,0,0,0⟩:Node)]).length ((A.l++[(⟨0,0,0,0,0⟩:Node)]).flatMap DZ):=by
    rw[el,XJ];exact Cp
   have f1:=S2.out.setL vB Rp.out
   rw[el]at f1
   refine⟨by rw[Hp.out],?_,_,_,by rw[Hr.out];exact f1⟩
   have k2:=(Af.refl S w).alloc (hS _ (Ab _)) (.cells #[.int .u64 0,.int .i64 0,.int .i64 0,.int .i64 0,.int .i64 0] 138)
   have k3:Af S w w2:=k2.trans (Rp.out.mono (fun b hb=>by
    rcases hb with hb|hb
    ·exact S2.out.l.2 b hb
    ·exact hS _ (Ai k2.size hb)))
   exact k3.setCell hsg _
  ·have XV:0<A.free.length:=List.length_pos_iff.2 hf
   obtain⟨gf,cf,hv,xL,hfc,hfm,_⟩:=HA.out.f.form XV
   injection hv with hv _ Uq
   subst hv Uq
   have eP:A.free[A.free.length-1]?=some A.place:=by
    unfold Am.place
    rw[Ad hf,JP,List.getLast?_eq_getElem?]
    rw[Ah (by omega)];rfl
   have cl:=HA.out.f.1.cellAt (A.free.length-1) (by omega)
   rw[Az,eP]at cl
   simp[Ld]at cl
   have s1:=HA.out.dropFree hf
   have S1:=Aa s1
   have Hf:=Aa hf
   clear s1 hf eP
   have e1:(A.free.length:Int)-1=(A.free.length-1:Nat):=by omega
   have E1:=Aa e1
   clear e1
   go_wp2
   go_meet
   exact⟨rfl,(Af.refl _ _).setCell hsg _,_,_,S1.out⟩
 case rest=>
  obtain⟨rfl,Bi,vl1,vf1,h1⟩:=hcut
  clear c0 c1 fg xK
  obtain⟨r1,r2,r3,r4,r5,r6⟩:=Sp (A:=A)
  have d0:=h1.row.cell 0
  have d3:=h1.row.cell 3
  have hn:=YW ok
  obtain⟨gl,cl,rfl,SX,eO,RI,mz⟩:=h1.l.form (by omega)
  obtain⟨n0,n1,n2,n3,n4⟩:=h1.nodeCells hn
  have fl:=fun j=>h1.l.frz rfl j
  have Cu:¬gl=g∧¬g=gl:=by
   obtain⟨cs,hr⟩:=h1.l.row rfl
   have:=hr.ne_ h1.row (by decide)
   exact⟨this,fun e=>this e.symm⟩
  obtain⟨Ado,iD⟩:=Cu
  have jK:¬bm=gl:=by
   obtain⟨cs,hr⟩:=h1.l.row rfl
   exact h1.m.ne_row hr
  have hpn:∀(B:Am) (gl cl:Nat) (w:World) (vf:Value),BL S w g B (.slice (some ⟨gl,0,none⟩) B.l.length cl) vf vq bm→A.place<B.l.length→
    BL S (((((w.setCell ⟨gl,A.place*5,none⟩ (.int .u64 key)).setCell ⟨gl,A.place*5+1,none⟩ (.int .i64 freq)).setCell ⟨gl,A.place*5+2,none⟩ (.int .i64 0)).setCell ⟨gl,A.place*5+3,none⟩ (.int .i64 0)).setCell ⟨gl,A.place*5+4,none⟩ (.int .i64 0)) g
     (B.setNode A.place ⟨key,freq,0,0,0⟩) (.slice (some ⟨gl,0,none⟩) B.l.length cl) vf vq bm:=by
   intro B gl cl w vf hB hp
   have t1:=hB.setNode (x':={(B.node A.place)with key:=key}) 0 (u:=.int .u64 key) hp (by omega) rfl
   have t2:=t1.setNode (n:=A.place) (x':={(B.node A.place)with key:=key,freq:=freq}) 1 (u:=.int .i64 freq) (by rw[(Cc _ _).1];exact hp) (by omega) (by rw[EB hp];rfl)
   rw[EH]at t2
   have t3:=t2.setNode (n:=A.place) (x':={(B.node A.place)with key:=key,freq:=freq,prev:=0}) 2 (u:=.int .i64 0) (by rw[(Cc _ _).1];exact hp) (by omega) (by rw[EB hp];rfl)
   rw[EH]at t3
   have t4:=t3.setNode (n:=A.place) (x':={(B.node A.place)with key:=key,freq:=freq,prev:=0,next:=0}) 3 (u:=.int .i64 0) (by rw[(Cc _ _).1];exact hp) (by omega) (by rw[EB hp];rfl)
   rw[EH]at t4
   have t5:=t4.setNode (n:=A.place) (x':=⟨key,freq,0,0,0⟩) 4 (u:=.int .i64 0) (by rw[(Cc _ _).1];exact hp) (by omega) (by rw[EB hp];rfl)
   rw[EH,(Cc _ _).1]at t5
   exact t5
  have s5:=hpn A.ready gl cl wc vf1 h1 hn
  have y5:(A.put_ key freq).l.length=A.ready.l.length:=BU ..
  have qp:(A.put_ key freq).qs=A.qs:=r1
  have hpe:(A.put_ key freq).ends q=A.ends q:=by unfold Am.ends;rw[qp]
  have G7:=Am.put_ok ok hc
  have tm:A.at_.find? (fun y=>y.1==key)=none:=by
   have:=hc.none_
   unfold Am.idx at this
   cases hh:A.at_.find? (fun y=>y.1==key)with
   |none=>rfl
   |some y=>rw[hh]at this;simp at this
  have S5:=Aa s5
  have Hk1:=Aa Bi
  have Hpq:=Aa qp
  have Hpe:=Aa hpe
  have wI:=Aa y5
  have Hat:=Aa tm
  have R2:=Aa r2
  have HC:=Aa hc
  clear hpn s5 Bi qp hpe y5 r1 r2 tm hc
  simp at d0 d3
  go_wp2_with (at_mapUpdate;go_must (refine Hg Kr IP S5.out.m rfl _ _ _ rfl rfl key rfl (.int .i64 A.place) rfl ?_;intro w3 Pz BY;have Hm3:=Aa Pz;have fd:=Aa BY;clear Pz BY))
  have Pz:=Hm3.out
  have BY:=fd.out
  have e1:(A.ready.setNode A.place ⟨key,freq,0,0,0⟩).at_=A.at_:=R2.out
  rw[e1,bF _ _ _ Hat.out]at Pz
  have s6:BL S w3 g (A.put_ key freq) _ vf1 vq bm:=S5.out.setM Pz BY
  have A4:Af S wc w3:=by
   refine Af.trans ?_ (BY.mono (fun b hb=>by rw[hb];exact h1.sm))
   repeat' first|with_reducible exact Af.refl _ _|with_reducible refine Af.setCell ?_ (by assumption) _
  refine(lH s6 G7 A.place q tail (by rw[wI.out];exact hn) HC.out.place.1 (by rw[Hpq.out];exact HC.out.lt) (by rw[Hpq.out];exact Zp) (by rw[Hpe.out];exact HC.out.place.2.1) (by rw[Hpe.out];exact HC.out.place.2.2)).mono ?_
  rintro e w4 ⟨rfl,CU,jC,jB,h4⟩
  go_wp2
  go_end0
  exact⟨rfl,Hk1.out.trans (A4.trans CU),_,_,_,h4⟩
end
theorem Zh:(Tryz.prog.info? 158).map (fun i=>(i.zero,i.size,i.bytes))=some (some (.agg #[.int .i64 0,.int .i64 0,.int .i64 0]),3,24):=by kernel_rfl
theorem ZD {α:Type} (f:α→List Value) (k:Nat) (hk:∀x,(f x).length=k) (l:List α):(l.flatMap f).length=l.length*k:=by
 induction l with
 |nil=>simp
 |cons y l ih=>simp[LA,ih,hk,KB,FC]
theorem Ui {α:Type} (f:α→List Value) (k:Nat) (hk:∀x,(f x).length=k) (Kf:0<k) (x:α) (n:Nat):madeCells (f x).toArray (n*k)=((List.replicate n x).flatMap f).toArray:=by
 apply Array.toList_inj.1
 apply Fg
 intro i
 have Fw:(f x).toArray.size=k:=by simp[hk]
 by_cases hi:i<n*k
 ·have hdiv:i/k<n:=Nat.div_lt_of_lt_mul (by rw[Nat.mul_comm];exact hi)
  have zo:i%k<k:=Nat.mod_lt _ Kf
  have h1:=UE f k hk (List.replicate n x) (i/k) (i%k) x (by simp[Co,hdiv]) zo
  have h2:i/k*k+i%k=i:=by rw[Nat.mul_comm];exact Nat.div_add_mod i k
  rw[h2]at h1
  simp only[XI]
  rw[h1]
  unfold madeCells
  simp only[Array.toList_map,Array.toList_range,Az,List.getElem?_range hi,CZ,Fw]
  have h3:i%k<(f x).length:=by rw[hk];exact zo
  rw[Ah h3]
  simp[h3]
 ·have h1:(madeCells (f x).toArray (n*k)).toList.length=n*k:=by simp[size_madeCells]
  rw[Bq (by omega),Bq (by rw[XI,ZD f k hk];simp;omega)]
def Am.new (n:Nat):Am:=⟨[⟨0,0,0,0,0⟩],[],List.replicate n ⟨0,0,0⟩,[]⟩
section
variable {S:Nat→Prop} {w:World}
theorem AM.at_new {w:World} {g:Nat} (t:TypeId) (cs:List Value) (hg:g=w.heap.size):AM (w.alloc (.cells cs.toArray t)) g t cs:=by subst hg;exact AM.new w t cs
theorem BV.at_new {w:World} {g:Nat} (k:IntKind) (hg:g=w.heap.size):BV (w.alloc (.map #[] 0)) g k []:=by subst hg;exact BV.new w k
theorem BV.alloc {w:World} {b:Nat} {k:IntKind} {M:GP} (h:BV w b k M) (o:Obj):BV (w.alloc o) b k M:=h.of_block (FR w o b h.lt)
theorem BV.drew {w:World} {b:Nat} {k:IntKind} {M:GP} (h:BV w b k M):BV w.drew b k M:=h
theorem Sl.of_row {w:World} {e:TypeId} {size n g:Nat} {xs:List Value} (h:AM w g e xs) (hs:S g) (hl:xs.length=n*size) (hn:n≤maxLen):Sl S w e size (.slice (some ⟨g,0,none⟩) n n) n xs:=
 ⟨⟨hl,.inr ⟨g,n,xs.toArray,rfl,Bn _,h,Ab _,hn,by simp[hl],by simp only[XI];rw[←hl,Sa]⟩⟩,fun b hb=>by injection hb with hb;exact hb▸hs⟩
theorem BL.fresh {W:World} {g gl gq bm n:Nat} (hn:n≤1000000) (hr:AM W g 136 [.slice (some ⟨gl,0,none⟩) 1 1,.slice none 0 0,.slice (some ⟨gq,0,none⟩) n n,.map (some bm)])
  (hl:AM W gl 138 (DZ ⟨0,0,0,0,0⟩)) (hq:AM W gq 158 ((List.replicate n (⟨0,0,0⟩:O6)).flatMap EF)) (hm:BV W bm .u64 [])
  (h1:S g) (h2:S gl) (h3:S gq) (h4:S bm):∃vl vf vq bm,BL S W g (Am.new n) vl vf vq bm:=by
 have e:(List.replicate n (⟨0,0,0⟩:O6)).length=n:=by simp
 refine⟨_,_,_,_,hr,Sl.of_row hl h2 rfl (by unfold maxLen;omega),⟨Cz _ _ _ _,fun b hb=>by cases hb⟩,?_,hm,h1,h4⟩
 have iB:=Sl.of_row (S:=S) hq h3 (size:=3) (n:=n) (by rw[ZD EF 3 (fun _=>rfl),e]) (by unfold maxLen;omega)
 show Sl S W _ 3 _ (List.replicate n (⟨0,0,0⟩:O6)).length _
 rw[e]
 exact iB
theorem pS (hS:Up S w) (n:Nat) (hn:n≤1000000):
  Calls Tryz.prog 48 #[.int .i64 n] w fun e w'=>∃g,e= .returned (.pointer (some ⟨g,0,none⟩))∧Af S w w'∧∃vl vf vq bm,BL S w' g (Am.new n) vl vf vq bm:=by
 have iO:∀k,w.heap.size≤k→S k:=hS
 obtain⟨i0,Lt,KX,Ls,Lr⟩:=Cj Zh
 have Pg:∀W:World,(Instr.makeSlice 133 (.int .i64 (n:Int)) (.int .i64 (n:Int))).run Tryz.prog W=
   .ok (.slice (some ⟨W.heap.size,0,none⟩) n n) (W.alloc (.cells ((List.replicate n (⟨0,0,0⟩:O6)).flatMap EF).toArray 158)):=by
  intro W
  have h:=pz (P:=Tryz.prog) W 133 158 i0 _ Tryz.underlying133 Lt KX .i64 .i64 (n:Int) (n:Int) (by omega) (by omega) (by rw[Lr];omega) (by omega)
  rw[Ls,A3]at h
  have e:(Value.agg #[.int .i64 0,.int .i64 0,.int .i64 0]).cells=(EF ⟨0,0,0⟩).toArray:=rfl
  rw[e,Ui EF 3 (fun _=>rfl) (by omega)]at h
  exact h
 have hm1:∀W:World,(Instr.makeSlice 132 (.int .i64 1) (.int .i64 1)).run Tryz.prog W= .ok (.slice (some ⟨W.heap.size,0,none⟩) 1 1) (W.alloc (.cells (DZ ⟨0,0,0,0,0⟩).toArray 138)):=fun W=>by kernel_rfl
 have xD:=@jD Tryz.prog
 generalize hE:((List.replicate n (⟨0,0,0⟩:O6)).flatMap EF)=E at Pg
 generalize hN:DZ ⟨0,0,0,0,0⟩=N at hm1
 have HE:=Aa hE
 have HN:=Aa hN
 clear hE hN Lt KX Ls Lr
 go_enter Tryz.func48,Tryz.ntmps48
 go_wp2
 go_region
 go_goals
 all_goals
  go_wp2
  go_ret
  refine⟨_,rfl,?_,?_⟩
  ·repeat' first|with_reducible exact Af.refl _ _|with_reducible refine Af.drew ?_|with_reducible refine Af.alloc ?_ (iO _ (by simp<;>omega)) _
  ·refine BL.fresh hn (AM.drew (AM.at_new _ _ (by simp))) ?_ ?_ ?_ (hS _ (by omega)) (hS _ (by omega)) (hS _ (by omega)) (hS _ (by omega))
   ·rw[HN.out]
    repeat' first|with_reducible exact AM.at_new _ _ (by simp)|with_reducible refine AM.drew ?_|with_reducible refine AM.alloc ?_ _
   ·rw[HE.out]
    repeat' first|with_reducible exact AM.at_new _ _ (by simp)|with_reducible refine AM.drew ?_|with_reducible refine AM.alloc ?_ _
   ·repeat' first|with_reducible exact BV.at_new _ (by simp)|with_reducible refine BV.drew ?_|with_reducible refine BV.alloc ?_ _
end
section
variable {S:Nat→Prop} {P:Program} {w:World} {ops:Array Oper} {o:Oper} {a:Act}
theorem F9 {K:Act→World→Prop} {Q:Exit→Act→World→Prop} {E:Prop} {e:TypeId} {i:TypeInfo} {z:Value} {size bytes:Nat} {t:TypeId} (ht:P.underlying t=some (.slice e)) (hi:P.info? e=some i) (hz:i.zero=some z)
  (NY:i.size=size) (qI:i.bytes=bytes) (qg:z.cells.size=size) (Fw:0<size) {v:Value} {n:Nat} {xs:List Value} (h:Sl S w e size v n xs) (hS:S w.heap.size)
  (Ws:o.guard=none) (s x:Operand) (ho:o.op= .call {callee:=.builtin .append,args:=#[s,x],argTypes:=#[t,t]}) (hs:a.eval s=v)
  (ad:Addr) (m c:Nat) (news:List Value) (hx:a.eval x= .slice (some ad) m c) (hl:news.length=m*size) (Zr:∀j u,news[j]?=some u→w.cell? (ad.add j)=some u) (h1:∀u∈news,u.oneCell'=true)
  (tx:n+m≤maxLen) (MZ:(n+m)*bytes≤140737488355328) (Kf:0<m)
  (hK:∀g cap w',Sl S w' e size (.slice (some ⟨g,0,none⟩) (n+m) cap) (n+m) (xs++news)→Af (fun b=>v.ownBlock=some b∨w.heap.size≤b) w w'→(v.ownBlock=some g∨g=w.heap.size)→
   K (a.put o.dst (.slice (some ⟨g,0,none⟩) (n+m) cap)) w'):if Region.wanted o (yielded ops a.tmps)=true then Oper.wp P o a w K Q else E:=by
 refine step_append_lies w Ws s x t ho 0 e i z size bytes ht hi hz NY qI qg Fw v n xs hs h.1 ad m c news hx hl Zr h1 Kf tx MZ (Bn _) w.heap.size rfl fun g cap w' h2 h3 h4 h5=>?_
 refine hK g cap w' ⟨h2,fun g' qC=>?_⟩ ?_ h4
 ·injection qC with qC
  simp only at qC
  subst qC
  rcases h4 with h4|h4
  ·exact h.2 _ h4
  ·rw[h4];exact hS
 ·refine⟨h3.os,h3.tape,h3.output,h3.size,fun k hk=>?_⟩
  rcases BP k w.heap.size with Cy|Xn
  ·exact h3.block k Cy (fun e=>hk (.inl e.symm))
  ·exact absurd (.inr Xn) hk
end
end Go.Proofs.YtemppijblfflgaaGreatDoor.Ev
namespace Go.Proofs.YtemppijblfflgaaGreatDoor.Ev
def EN (n:Nat):Ae:=
 if n<10 then [UInt8.ofNat (48+n)]else EN (n/10)++[UInt8.ofNat (48+n%10)]
termination_by n
decreasing_by omega
def Ca (n:Int):Ae:=EN n.toNat
def BE:Ae:=[32]
def AI (l:List Bf) (k:Int):Ae:=(Au l k).name
def Dp (l:List Bf):O0→Ae
 | .num n=>Ca n
 | .var k=>AI l k
 | .len k=>G2++BE++AI l k
 | .freq=>BX
def Is (l:List Bf):CK→Ae
 | .full k=>DT++BE++AI l k
 | .empty k=>CF++BE++AI l k
 | .warm k=>DS++BE++AI l k
 | .less a b=>Dp l a++[32,60,32]++Dp l b
def CE (l:List Bf) (c:Da):Ae:=(if c.nots%2=1 then H6++BE else [])++Is l c.k
def Fj (t:Bool):Ae:=if t then BE++BN else []
def B8 (l:List Bf):D9→Ae
 | .put q t=>Hn++BE++AI l q++Fj t++Ar
 | .evict q=>Db++BE++AI l q++Ar
 | .cool q=>Ew++BE++AI l q++Ar
 | .shift q p t=>CN++BE++AI l q++BE++AI l p++Fj t++Ar
 | .inc v=>Ia++BE++AI l v++Ar
 | .dec v=>Ib++BE++AI l v++Ar
 | .drop=>EJ++Ar
 | .bump=>EK++Ar
def As (l:List Bf):AC→Ae
 | .nil=>[]
 | .prim p r=>BE++B8 l p++As l r
 | .ite c t o e r=>BE++(Iw++BE++CE l c++BE++(Bo++As l t++BE++AU)++
   (if o then BE++BH++BE++(Bo++As l e++BE++AU)else []))++As l r
 | .rep n c b r=>BE++(Bb++BE++Ca n++BE++B9++BE++CE l c++BE++(Bo++As l b++BE++AU))++As l r
def BJ (l:List Bf) (b:AC):Ae:=Bo++As l b++BE++AU
def Dz (k:Nat):Ae:=if k=0 then G1 else if k=1 then G4 else IY
def GT (d:Bf):Ae:=Dz d.kind++BE++d.name++BE++Ca d.max++[59,10]
def Dm (f:Int):Ae:=if 0<f then BX++BE++Ca f++[59,10]else []
def C5 (p:AF) (k:Nat):Ae:=
 match AE p.rules (k:Int)with
 |some b=>Mv++BE++AI p.decls (k:Int)++BE++BJ p.decls b++[10]
 |none=>[]
def Bh (p:AF):Nat→Ae
 |0=>[]
 |k+1=>Bh p k++C5 p k
def Ig (p:AF):Ae:=Mv++BE++Ec++BE++BJ p.decls ((Cm p.rules).getD .nil)++[10]
def text (p:AF):Ae:=(p.decls.map GT).flatten++Dm p.freq++Bh p p.decls.length++Ig p
structure Lo where
 key:Int
 freq:Int
structure St where
 q:List (List Lo)
 vars:List Int
def St.queue (s:St) (k:Int):List Lo:=(s.q[k.toNat]?).getD []
def St.setQueue (s:St) (k:Int) (l:List Lo):St:={s with q:=s.q.set k.toNat l}
def St.var (s:St) (k:Int):Int:=(s.vars[k.toNat]?).getD 0
def Hm (key:Int):List Lo→Nat→Option Nat
 | [],_=>none
 |e::l,i=>if e.key=key then some i else Hm key l (i+1)
def Hi (key:Int):List (List Lo)→Nat→Option (Nat×Nat)
 | [],_=>none
 |l::r,k=>match Hm key l 0 with
  |some i=>some (k,i)
  |none=>Hi key r (k+1)
def St.find (s:St) (key:Int):Option (Nat×Nat):=Hi key s.q 0
def Bl (l:List Bf) (k:Int):Bool:=decide (0≤k)&&(Au l k).kind==0
def Ey (l:List Lo) (i:Nat):Lo:=(l[i]?).getD ⟨0,0⟩
structure GK where
 s:St
 gone:List Int
def GK.leaves (l:List Bf) (from_:Int) (key:Int) (r:GK):GK:=
 if Bl l from_ then {r with gone:=r.gone++[key]}else r
def Nm (l:List Bf) (e:Lo) (from_ xu:Int) (tail:Bool) (r:GK):Except Nat GK:=
 if(Au l xu).max≤((r.s.queue xu).length:Int)then .error UK
 else
  let s:=r.s.setQueue xu (if tail then r.s.queue xu++[e]else e::r.s.queue xu)
  .ok (if Bl l xu then {r with s:=s}else GK.leaves l from_ e.key {r with s:=s})
def St.out (s:St) (q:Nat) (i:Nat):St:={s with q:=s.q.set q (((s.q[q]?).getD []).eraseIdx i)}
def CA (l:List Lo):Lo:=Ey l (l.length-1)
def setFreq (l:List Lo) (i:Nat) (f:Int):List Lo:=l.set i {(Ey l i)with freq:=f}
def prim (p:AF) (key:Int) (x:D9) (r:GK):Except Nat GK:=
 match x with
 | .put q t=>match r.s.find key with
  |some (k,i)=>Nm p.decls (Ey (r.s.queue k) i) k q t {r with s:=r.s.out k i}
  |none=>Nm p.decls ⟨key,0⟩ (-1) q t r
 | .drop=>match r.s.find key with
  |some (k,i)=>.ok (GK.leaves p.decls k key {r with s:=r.s.out k i})
  |none=>.ok r
 | .inc v=>.ok (if r.s.var v<(Au p.decls v).max then {r with s:={r.s with vars:=r.s.vars.set v.toNat (r.s.var v+1)}}else r)
 | .dec v=>.ok (if 0<r.s.var v then {r with s:={r.s with vars:=r.s.vars.set v.toNat (r.s.var v-1)}}else r)
 | .bump=>match r.s.find key with
  |some (k,i)=>.ok (if(Ey (r.s.queue k) i).freq<p.freq then
    {r with s:=r.s.setQueue k (setFreq (r.s.queue k) i ((Ey (r.s.queue k) i).freq+1))}else r)
  |none=>.ok r
 | .cool q=>
  if r.s.queue q=[]then .error Oa
  else .ok (if 0<(CA (r.s.queue q)).freq then
   {r with s:=r.s.setQueue q (setFreq (r.s.queue q) ((r.s.queue q).length-1) ((CA (r.s.queue q)).freq-1))}else r)
 | .evict q=>
  if r.s.queue q=[]then .error Oa
  else .ok (GK.leaves p.decls q (CA (r.s.queue q)).key {r with s:=r.s.setQueue q (r.s.queue q).dropLast})
 | .shift q t tl=>
  if r.s.queue q=[]then .error Oa
  else Nm p.decls (CA (r.s.queue q)) q t tl {r with s:=r.s.setQueue q (r.s.queue q).dropLast}
def freqOf (s:St) (key:Int):Int:=
 match s.find key with
 |some (k,i)=>(Ey (s.queue k) i).freq
 |none=>0
def QL (key:Int) (s:St):O0→Int
 | .num n=>n
 | .var k=>s.var k
 | .len k=>(s.queue k).length
 | .freq=>freqOf s key
def mZ (l:List Bf) (key:Int) (s:St):CK→Bool
 | .full k=>decide ((Au l k).max≤((s.queue k).length:Int))
 | .empty k=>decide ((s.queue k).length=0)
 | .warm k=>decide (0<(s.queue k).length)&&decide (0<(CA (s.queue k)).freq)
 | .less a b=>decide (QL key s a<QL key s b)
def CW (l:List Bf) (key:Int) (s:St) (c:Da):Bool:=mZ l key s c.k !=(c.nots%2==1)
def IV (c:St→Bool) (f:GK→Except Nat GK):Nat→GK→Except Nat GK
 |0,r=>.ok r
 |n+1,r=>if c r.s then(match f r with
   | .ok r=>IV c f n r
   | .error e=>.error e)else .ok r
def exec (p:AF) (key:Int):AC→GK→Except Nat GK
 | .nil,r=>.ok r
 | .prim x b,r=>match prim p key x r with
  | .ok r=>exec p key b r
  | .error e=>.error e
 | .ite c t o e b,r=>match(if CW p.decls key r.s c then exec p key t r else if o then exec p key e r else .ok r)with
  | .ok r=>exec p key b r
  | .error e=>.error e
 | .rep n c x b,r=>match IV (fun s=>CW p.decls key s c) (exec p key x) n.toNat r with
  | .ok r=>exec p key b r
  | .error e=>.error e
structure jy where
 hits:Int
 misses:Int
 evicted:Int
structure LN where
 p:AF
 s:St
 n:jy
def LN.new (p:AF):LN:=⟨p,⟨List.replicate p.decls.length [],List.replicate p.decls.length 0⟩,⟨0,0,0⟩⟩
def FG (s:St) (key:Int):Int:=
 match s.find key with
 |some (k,_)=>k
 |none=> -1
def DX (p:AF) (q:Int):AC:=(AE p.rules q).getD .nil
inductive yo where
 |ok (hit:Bool) (gone:List Int) (e:LN)
 |err (n:Nat)
def LN.access (e:LN) (key:Int):yo:=
 let q:=FG e.s key
 match exec e.p key (DX e.p q) ⟨e.s,[]⟩with
 | .error n=>.err n
 | .ok r=>
  let hit:=Bl e.p.decls q
  .ok hit r.gone {e with s:=r.s,n:=⟨e.n.hits+(if hit then 1 else 0),e.n.misses+(if hit then 0 else 1),e.n.evicted+r.gone.length⟩}
def LN.keys (e:LN) (nm:Ae):Option (List Int):=
 let k:=find e.p.decls nm
 if k<0∨(Au e.p.decls k).kind=2 then none else some ((e.s.queue k).map (·.key))
end Go.Proofs.YtemppijblfflgaaGreatDoor.Ev
