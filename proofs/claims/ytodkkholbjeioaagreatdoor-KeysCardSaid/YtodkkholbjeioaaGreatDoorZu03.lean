/- Lemmas for a law's walk. Conditions: none. -/
import Derived.Test.YtodkkholbjeioaaGreatDoorZu01
set_option linter.all false
set_option maxRecDepth 100000
set_option maxHeartbeats 8000000
namespace Go.Proofs.YtodkkholbjeioaaGreatDoor.Ev
open _root_.Go.Proofs.Tryz
abbrev Ah:=List UInt8
abbrev EO:Ah:=[113,117,101,117,101]
abbrev Gg:Ah:=[103,104,111,115,116]
abbrev Jy:Ah:=[118,97,114]
abbrev Cy:Ah:=[102,114,101,113]
abbrev T9:Ah:=[111,110]
abbrev Fo:Ah:=[109,105,115,115]
abbrev KP:Ah:=[112,117,116]
abbrev CJ:Ah:=[116,97,105,108]
abbrev Et:Ah:=[101,118,105,99,116]
abbrev Dq:Ah:=[115,104,105,102,116]
abbrev Ja:Ah:=[100,114,111,112]
abbrev Mo:Ah:=[105,110,99]
abbrev Mq:Ah:=[100,101,99]
abbrev Jb:Ah:=[98,117,109,112]
abbrev Io:Ah:=[99,111,111,108]
abbrev Jk:Ah:=[105,102]
abbrev Dn:Ah:=[101,108,115,101]
abbrev Bf:Ah:=[114,101,112,101,97,116]
abbrev Cv:Ah:=[119,104,105,108,101]
abbrev Lg:Ah:=[110,111,116]
abbrev Fb:Ah:=[102,117,108,108]
abbrev DN:Ah:=[101,109,112,116,121]
abbrev Fa:Ah:=[119,97,114,109]
abbrev JU:Ah:=[108,101,110]
abbrev Ch:Ah:=[110,97,109,101]
abbrev Bw:Ah:=[110,117,109,98,101,114]
abbrev Ek:Ah:=[101,110,100]
abbrev Bx:Ah:=[110,111,110,101]
abbrev AP:Ah:=[59]
abbrev Cx:Ah:=[123]
abbrev DC:Ah:=[125]
abbrev EY:Ah:=[60]
def A3:List Ah:=[EO,Gg,Jy,Cy,T9,Fo,KP,CJ,Et,Dq,Ja,Mo,Mq,Jb,Io,Jk,Dn,Bf,Cv,Lg,Fb,DN,Fa,JU]
def blank (c:UInt8):Bool:=c==32||c==10
def low (c:UInt8):Bool:=decide (97<=c)&&decide (c<=122)
def Gq (c:UInt8):Bool:=decide (48<=c)&&decide (c<=57)
def Im (c:UInt8):Bool:=c==59||c==123||c==125||c==60
structure M9 where
 kind:Ah
 text:Ah
 pos:Nat
def skip (p:UInt8->Bool) (s:Ah) (i:Nat):Nat:=i+((s.drop i).takeWhile p).length
def Dm (s:Ah) (i k:Nat):Ah:=(s.take k).drop i
def E9 (s:Ah) (a:Nat):M9×Nat:=
 let i:=skip blank s a
 match s[i]? with
 |none=>(⟨Ek,[],i⟩,i)
 |some c=>
  if low c then
   let k:=skip low s i
   if 8<k-i then(⟨Bx,[],i⟩,i)
   else(⟨if A3.contains (Dm s i k)then Dm s i k else Ch,Dm s i k,i⟩,k)
  else if Gq c then
   let k:=skip Gq s i
   if 3<k-i then(⟨Bx,[],i⟩,i)else(⟨Bw,Dm s i k,i⟩,k)
  else if Im c then(⟨[c],[c],i⟩,i+1)
  else(⟨Bx,[],i⟩,i)
def rK:Nat:=1
def D9:Nat:=2
def SG:Nat:=3
def CY:Nat:=4
def YA:Nat:=5
def Uk:Nat:=6
def Lt:Nat:=7
def J1:Nat:=8
def Ov:Nat:=9
def Qu:Nat:=10
def Ul:Nat:=11
def Ma:Nat:=12
structure Bi where
 kind:Nat
 name:Ah
 max:Int
inductive Ra where
 |num (n:Int)
 |var (n:Int)
 |len (n:Int)
 |bI
inductive CK where
 |full (n:Int)
 |empty (n:Int)
 |fC (n:Int)
 |less (a b:Ra)
structure C5 where
 k:CK
 bP:Nat
inductive D4 where
 |put (q:Int) (tail:Bool)
 |cu (q:Int)
 |dV (q:Int)
 |shift (q p:Int) (tail:Bool)
 |inc (v:Int)
 |dec (v:Int)
 |drop
 |bump
inductive Az where
 |nil
 |bN (p:D4) (rest:Az)
 |ite (c:C5) (thn:Az) (other:Bool) (els:Az) (rest:Az)
 |rep (n:Int) (c:C5) (body:Az) (rest:Az)
def Az.app:Az->Az->Az
 | .nil,r=>r
 | .bN p x,r=>.bN p (x.app r)
 | .ite c t o e x,r=>.ite c t o e (x.app r)
 | .rep n c b x,r=>.rep n c b (x.app r)
def Az.length:Az->Nat
 | .nil=>0
 | .bN _ x=>x.length+1
 | .ite _ _ _ _ x=>x.length+1
 | .rep _ _ _ x=>x.length+1
structure PS where
 t:M9
 i:Nat
 decls:List Bi
 bI:Int
 bX:Bool
 rules:List (Int×Az)
 depth:Nat
 loops:Nat
 bJ:Option (Nat×Nat)
inductive AQ (α:Type) where
 |ok (a:α) (st:PS)
 |bad (e:Nat) (pos:Nat)
def AQ.bind {α β:Type} (x:AQ α) (f:α->PS->AQ β):AQ β:=
 match x with
 | .ok a st=>f a st
 | .bad e p=>.bad e p
def AQ.map {α β:Type} (f:α->β):AQ α->AQ β
 | .ok a st=>.ok (f a) st
 | .bad e p=>.bad e p
def next (s:Ah) (st:PS):PS:={st with t:=(E9 s st.i).1,i:=(E9 s st.i).2}
def fail {α:Type} (e:Nat) (st:PS):AQ α:=.bad e st.t.pos
def note (e:Nat) (pos:Nat) (st:PS):PS:=
 match st.bJ with
 |none=>{st with bJ:=some (e,pos)}
 |some _=>st
def want (s:Ah) (k:Ah) (st:PS):AQ M9:=
 if st.t.kind=k then .ok st.t (next s st)else fail D9 st
def take (s:Ah) (k:Ah) (st:PS):Bool×PS:=
 if st.t.kind=k then(true,next s st)else(false,st)
def atoi (l:Ah):Int:=l.foldl (λn c=>10*n+((c.toNat:Int)-48)) 0
def number (s:Ah) (a b:Int) (st:PS):AQ Int:=
 (want s Bw st).bind λt st=>
  .ok (atoi t.text) (if atoi t.text<a\/atoi t.text>b then note Lt t.pos st else st)
def Dh (name:Ah):List Bi->Nat->Int
 | [],_=> -1
 |d::l,k=>if d.name=name then(k:Int)else Dh name l (k+1)
def find (l:List Bi) (name:Ah):Int:=Dh name l 0
def Aq (l:List Bi) (k:Int):Bi:=(l[k.toNat]?).getD ⟨0,[],0⟩
def Cw (a:Bool) (t:M9) (st:PS):PS:=
 if find st.decls t.text<0 then note YA t.pos st
 else if((Aq st.decls (find st.decls t.text)).kind==2)!=a then note Uk t.pos st
 else st
def name (s:Ah) (a:Bool) (st:PS):AQ Int:=
 (want s Ch st).bind λt st=>.ok (find st.decls t.text) (Cw a t st)
def Cq (a:Ah):Int:=if a=Jy then 99 else 50
def Eu (a:Ah):Nat:=if a=Jy then 2 else if a=Gg then 1 else 0
def Bh (n:M9) (st:PS):PS:=
 let st:=if 0<=find st.decls n.text then note CY n.pos st else st
 if st.decls.length=8 then note Ov n.pos st else st
def decl (s:Ah) (st:PS):AQ Unit:=
 let t:=st.t
 let st:=next s st
 if t.kind=Cy then
  let st:=if st.bX then note CY t.pos st else st
  let st:={st with bX:=true}
  (number s 1 99 st).bind λn st=>(want s AP {st with bI:=n}).bind λ_ st=>.ok () st
 else
  (want s Ch st).bind λn st=>
   (number s 1 (Cq t.kind) (Bh n st)).bind λm st=>
    (want s AP st).bind λ_ st=>.ok () {st with decls:=st.decls++[⟨Eu t.kind,n.text,m⟩]}
def value (s:Ah) (st:PS):AQ Ra:=
 if st.t.kind=Bw then(number s 0 999 st).map .num
 else if st.t.kind=JU then(name s false (next s st)).map .len
 else if st.t.kind=Cy then .ok .bI (next s st)
 else(name s true st).map .var
def E4 (s:Ah) (st:PS):AQ C5:=
 if st.t.kind=Fb then(name s false (next s st)).map λn=>⟨.full n,0⟩
 else if st.t.kind=DN then(name s false (next s st)).map λn=>⟨.empty n,0⟩
 else if st.t.kind=Fa then(name s false (next s st)).map λn=>⟨.fC n,0⟩
 else(value s st).bind λa st=>(want s EY st).bind λ_ st=>(value s st).map λb=>⟨.less a b,0⟩
def cond (s:Ah):Nat->PS->AQ C5
 |0,st=>fail D9 st
 |n+1,st=>
  if st.t.kind=Lg then(cond s n (next s st)).map λc=>⟨c.k,c.bP+1⟩
  else E4 s st
mutual
def block (s:Ah):Nat->PS->AQ Az
 |0,st=>fail D9 st
 |n+1,st=>
  if st.t.kind=Cx/\st.depth=8 then fail SG st
  else(want s Cx st).bind λ_ st=>
   (FA s n {st with depth:=st.depth+1}).bind λb st=>.ok b (next s {st with depth:=st.depth-1})
def FA (s:Ah):Nat->PS->AQ Az
 |0,st=>fail D9 st
 |n+1,st=>
  if st.t.kind=DC then .ok .nil st
  else(stmt s n st).bind λx st=>(FA s n st).map λr=>x.app r
def stmt (s:Ah):Nat->PS->AQ Az
 |0,st=>fail D9 st
 |n+1,st=>
  let semi (x:D4) (st:PS):AQ Az:=(want s AP st).bind λ_ st=>.ok (.bN x .nil) st
  if st.t.kind=KP then(name s false (next s st)).bind λq st=>semi (.put q (take s CJ st).1) (take s CJ st).2
  else if st.t.kind=Et then(name s false (next s st)).bind λq st=>semi (.cu q) st
  else if st.t.kind=Io then(name s false (next s st)).bind λq st=>semi (.dV q) st
  else if st.t.kind=Dq then(name s false (next s st)).bind λq st=>(name s false st).bind λp st=>
   semi (.shift q p (take s CJ st).1) (take s CJ st).2
  else if st.t.kind=Mo then(name s true (next s st)).bind λv st=>semi (.inc v) st
  else if st.t.kind=Mq then(name s true (next s st)).bind λv st=>semi (.dec v) st
  else if st.t.kind=Ja then semi .drop (next s st)
  else if st.t.kind=Jb then semi .bump (next s st)
  else if st.t.kind=Jk then
   (cond s (n+1) (next s st)).bind λc st=>(block s n st).bind λt st=>
    if st.t.kind=Dn then(block s n (next s st)).bind λe st=>.ok (.ite c t true e .nil) st
    else .ok (.ite c t false .nil .nil) st
  else if st.t.kind=Bf then
   if st.loops=2 then fail SG st
   else(number s 1 50 (next s st)).bind λk st=>(want s Cv st).bind λ_ st=>(cond s (n+1) st).bind λc st=>
    (block s n {st with loops:=st.loops+1}).bind λb st=>.ok (.rep k c b .nil) {st with loops:=st.loops-1}
  else fail D9 st
end
def Bj (a:List (Int×Az)) (k:Int):Option Az:=(a.find? (λx=>x.1==k)).map (·.2)
def CQ (s:Ah) (st:PS):AQ Int:=
 let at_:=st.t.pos
 let st:=next s st
 let x:AQ Int:=if st.t.kind=Fo then .ok (-1) (next s st)else name s false st
 x.bind λk st=>.ok k (if(Bj st.rules k).isSome&&st.bJ.isNone then note J1 at_ st else st)
def GJ (s:Ah) (n:Nat) (st:PS):AQ Unit:=
 (CQ s st).bind λk st=>(block s n st).bind λb st=>
  .ok () (if st.bJ.isNone then {st with rules:=st.rules++[(k,b)]}else st)
def isDecl (k:Ah):Bool:=k==EO||k==Gg||k==Jy||k==Cy
def DF (s:Ah):Nat->PS->AQ Unit
 |0,st=>fail D9 st
 |n+1,st=>if isDecl st.t.kind then(decl s st).bind λ_ st=>DF s n st else .ok () st
def Ee (s:Ah) (m:Nat):Nat->PS->AQ Unit
 |0,st=>fail D9 st
 |n+1,st=>if st.t.kind=T9 then(GJ s m st).bind λ_ st=>Ee s m n st else .ok () st
def start (s:Ah):PS:=⟨(E9 s 0).1,(E9 s 0).2,[],0,false,[],0,0,none⟩
def Fm (s:Ah):AQ M9:=
 (DF s 702 (start s)).bind λ_ st=>(Ee s 1500 702 st).bind λ_ st=>want s Ek st
structure Ax where
 decls:List Bi
 bI:Int
 rules:List (Int×Az)
def Es (a:List (Int×Az)):Option Az:=Bj a (-1)
def read (s:Ah):Except (Nat×Nat) Ax:=
 if 700<s.length then .error (rK,0)
 else match Fm s with
  | .bad e p=>.error (e,p)
  | .ok _ st=>match st.bJ with
   |some x=>.error x
   |none=>if(Es st.rules).isNone then .error (Qu,0)else .ok ⟨st.decls,st.bI,st.rules⟩
end Go.Proofs.YtodkkholbjeioaaGreatDoor.Ev
namespace Go.Proofs.YtodkkholbjeioaaGreatDoor.Ev
open _root_.Go.Proofs.Tryz
open Go Go.RowKit
abbrev vs (l:Ah):Value:=.string ⟨l.toArray⟩
end Go.Proofs.YtodkkholbjeioaaGreatDoor.Ev
