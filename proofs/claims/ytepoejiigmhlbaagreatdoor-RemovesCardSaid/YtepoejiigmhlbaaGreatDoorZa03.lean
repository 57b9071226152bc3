/- Lemmas for a law's walk. Conditions: none. -/
import Derived.Test.YtepoejiigmhlbaaGreatDoorZa01
set_option linter.all false
set_option maxRecDepth 100000
set_option maxHeartbeats 8000000
namespace Go.Proofs.YtepoejiigmhlbaaGreatDoor.Ev
open _root_.Go.Proofs.Tryz
abbrev Ah:=List UInt8
abbrev EK:Ah:=[113,117,101,117,101]
abbrev Ge:Ah:=[103,104,111,115,116]
abbrev Jo:Ah:=[118,97,114]
abbrev Cx:Ah:=[102,114,101,113]
abbrev TF:Ah:=[111,110]
abbrev Fi:Ah:=[109,105,115,115]
abbrev Kx:Ah:=[112,117,116]
abbrev CI:Ah:=[116,97,105,108]
abbrev Ep:Ah:=[101,118,105,99,116]
abbrev Do:Ah:=[115,104,105,102,116]
abbrev IW:Ah:=[100,114,111,112]
abbrev Mb:Ah:=[105,110,99]
abbrev Mc:Ah:=[100,101,99]
abbrev IX:Ah:=[98,117,109,112]
abbrev Ig:Ah:=[99,111,111,108]
abbrev Ja:Ah:=[105,102]
abbrev Dl:Ah:=[101,108,115,101]
abbrev Bf:Ah:=[114,101,112,101,97,116]
abbrev Cu:Ah:=[119,104,105,108,101]
abbrev KU:Ah:=[110,111,116]
abbrev E4:Ah:=[102,117,108,108]
abbrev DJ:Ah:=[101,109,112,116,121]
abbrev E3:Ah:=[119,97,114,109]
abbrev JK:Ah:=[108,101,110]
abbrev Cf:Ah:=[110,97,109,101]
abbrev Bv:Ah:=[110,117,109,98,101,114]
abbrev Eh:Ah:=[101,110,100]
abbrev Bw:Ah:=[110,111,110,101]
abbrev AN:Ah:=[59]
abbrev Cw:Ah:=[123]
abbrev DA:Ah:=[125]
abbrev ER:Ah:=[60]
def A0:List Ah:=[EK,Ge,Jo,Cx,TF,Fi,Kx,CI,Ep,Do,IW,Mb,Mc,IX,Ig,Ja,Dl,Bf,Cu,KU,E4,DJ,E3,JK]
def blank (c:UInt8):Bool:=c==32||c==10
def low (c:UInt8):Bool:=decide (97<=c)&&decide (c<=122)
def Gn (c:UInt8):Bool:=decide (48<=c)&&decide (c<=57)
def Ie (c:UInt8):Bool:=c==59||c==123||c==125||c==60
structure MS where
 kind:Ah
 text:Ah
 pos:Nat
def skip (p:UInt8->Bool) (s:Ah) (i:Nat):Nat:=i+((s.drop i).takeWhile p).length
def Dk (s:Ah) (i k:Nat):Ah:=(s.take k).drop i
def EY (s:Ah) (a:Nat):MS×Nat:=
 let i:=skip blank s a
 match s[i]? with
 |none=>(⟨Eh,[],i⟩,i)
 |some c=>
  if low c then
   let k:=skip low s i
   if 8<k-i then(⟨Bw,[],i⟩,i)
   else(⟨if A0.contains (Dk s i k)then Dk s i k else Cf,Dk s i k,i⟩,k)
  else if Gn c then
   let k:=skip Gn s i
   if 3<k-i then(⟨Bw,[],i⟩,i)else(⟨Bv,Dk s i k,i⟩,k)
  else if Ie c then(⟨[c],[c],i⟩,i+1)
  else(⟨Bw,[],i⟩,i)
def qO:Nat:=1
def D5:Nat:=2
def Sa:Nat:=3
def CW:Nat:=4
def X7:Nat:=5
def TV:Nat:=6
def Lh:Nat:=7
def JS:Nat:=8
def N8:Nat:=9
def P7:Nat:=10
def TW:Nat:=11
def LU:Nat:=12
structure Bi where
 kind:Nat
 name:Ah
 max:Int
inductive Qw where
 |num (n:Int)
 |var (n:Int)
 |len (n:Int)
 |aD
inductive CK where
 |full (n:Int)
 |empty (n:Int)
 |eU (n:Int)
 |less (a b:Qw)
structure C3 where
 k:CK
 bI:Nat
inductive D0 where
 |put (q:Int) (tail:Bool)
 |bx (q:Int)
 |dz (q:Int)
 |shift (q p:Int) (tail:Bool)
 |inc (v:Int)
 |dec (v:Int)
 |drop
 |bump
inductive Az where
 |nil
 |bG (p:D0) (rest:Az)
 |ite (c:C3) (thn:Az) (other:Bool) (els:Az) (rest:Az)
 |rep (n:Int) (c:C3) (body:Az) (rest:Az)
def Az.app:Az->Az->Az
 | .nil,r=>r
 | .bG p x,r=>.bG p (x.app r)
 | .ite c t o e x,r=>.ite c t o e (x.app r)
 | .rep n c b x,r=>.rep n c b (x.app r)
def Az.length:Az->Nat
 | .nil=>0
 | .bG _ x=>x.length+1
 | .ite _ _ _ _ x=>x.length+1
 | .rep _ _ _ x=>x.length+1
structure PS where
 t:MS
 i:Nat
 decls:List Bi
 aD:Int
 bp:Bool
 rules:List (Int×Az)
 depth:Nat
 loops:Nat
 bC:Option (Nat×Nat)
inductive AO (α:Type) where
 |ok (a:α) (st:PS)
 |bad (e:Nat) (pos:Nat)
def AO.bind {α β:Type} (x:AO α) (f:α->PS->AO β):AO β:=
 match x with
 | .ok a st=>f a st
 | .bad e p=>.bad e p
def AO.map {α β:Type} (f:α->β):AO α->AO β
 | .ok a st=>.ok (f a) st
 | .bad e p=>.bad e p
def next (s:Ah) (st:PS):PS:={st with t:=(EY s st.i).1,i:=(EY s st.i).2}
def fail {α:Type} (e:Nat) (st:PS):AO α:=.bad e st.t.pos
def note (e:Nat) (pos:Nat) (st:PS):PS:=
 match st.bC with
 |none=>{st with bC:=some (e,pos)}
 |some _=>st
def want (s:Ah) (k:Ah) (st:PS):AO MS:=
 if st.t.kind=k then .ok st.t (next s st)else fail D5 st
def take (s:Ah) (k:Ah) (st:PS):Bool×PS:=
 if st.t.kind=k then(true,next s st)else(false,st)
def atoi (l:Ah):Int:=l.foldl (λn c=>10*n+((c.toNat:Int)-48)) 0
def number (s:Ah) (a b:Int) (st:PS):AO Int:=
 (want s Bv st).bind λt st=>
  .ok (atoi t.text) (if atoi t.text<a\/atoi t.text>b then note Lh t.pos st else st)
def Df (name:Ah):List Bi->Nat->Int
 | [],_=> -1
 |d::l,k=>if d.name=name then(k:Int)else Df name l (k+1)
def find (l:List Bi) (name:Ah):Int:=Df name l 0
def Aq (l:List Bi) (k:Int):Bi:=(l[k.toNat]?).getD ⟨0,[],0⟩
def Cv (a:Bool) (t:MS) (st:PS):PS:=
 if find st.decls t.text<0 then note X7 t.pos st
 else if((Aq st.decls (find st.decls t.text)).kind==2)!=a then note TV t.pos st
 else st
def name (s:Ah) (a:Bool) (st:PS):AO Int:=
 (want s Cf st).bind λt st=>.ok (find st.decls t.text) (Cv a t st)
def Cp (a:Ah):Int:=if a=Jo then 99 else 50
def Er (a:Ah):Nat:=if a=Jo then 2 else if a=Ge then 1 else 0
def Bh (n:MS) (st:PS):PS:=
 let st:=if 0<=find st.decls n.text then note CW n.pos st else st
 if st.decls.length=8 then note N8 n.pos st else st
def decl (s:Ah) (st:PS):AO Unit:=
 let t:=st.t
 let st:=next s st
 if t.kind=Cx then
  let st:=if st.bp then note CW t.pos st else st
  let st:={st with bp:=true}
  (number s 1 99 st).bind λn st=>(want s AN {st with aD:=n}).bind λ_ st=>.ok () st
 else
  (want s Cf st).bind λn st=>
   (number s 1 (Cp t.kind) (Bh n st)).bind λm st=>
    (want s AN st).bind λ_ st=>.ok () {st with decls:=st.decls++[⟨Er t.kind,n.text,m⟩]}
def value (s:Ah) (st:PS):AO Qw:=
 if st.t.kind=Bv then(number s 0 999 st).map .num
 else if st.t.kind=JK then(name s false (next s st)).map .len
 else if st.t.kind=Cx then .ok .aD (next s st)
 else(name s true st).map .var
def ET (s:Ah) (st:PS):AO C3:=
 if st.t.kind=E4 then(name s false (next s st)).map λn=>⟨.full n,0⟩
 else if st.t.kind=DJ then(name s false (next s st)).map λn=>⟨.empty n,0⟩
 else if st.t.kind=E3 then(name s false (next s st)).map λn=>⟨.eU n,0⟩
 else(value s st).bind λa st=>(want s ER st).bind λ_ st=>(value s st).map λb=>⟨.less a b,0⟩
def cond (s:Ah):Nat->PS->AO C3
 |0,st=>fail D5 st
 |n+1,st=>
  if st.t.kind=KU then(cond s n (next s st)).map λc=>⟨c.k,c.bI+1⟩
  else ET s st
mutual
def block (s:Ah):Nat->PS->AO Az
 |0,st=>fail D5 st
 |n+1,st=>
  if st.t.kind=Cw/\st.depth=8 then fail Sa st
  else(want s Cw st).bind λ_ st=>
   (Fw s n {st with depth:=st.depth+1}).bind λb st=>.ok b (next s {st with depth:=st.depth-1})
def Fw (s:Ah):Nat->PS->AO Az
 |0,st=>fail D5 st
 |n+1,st=>
  if st.t.kind=DA then .ok .nil st
  else(stmt s n st).bind λx st=>(Fw s n st).map λr=>x.app r
def stmt (s:Ah):Nat->PS->AO Az
 |0,st=>fail D5 st
 |n+1,st=>
  let semi (x:D0) (st:PS):AO Az:=(want s AN st).bind λ_ st=>.ok (.bG x .nil) st
  if st.t.kind=Kx then(name s false (next s st)).bind λq st=>semi (.put q (take s CI st).1) (take s CI st).2
  else if st.t.kind=Ep then(name s false (next s st)).bind λq st=>semi (.bx q) st
  else if st.t.kind=Ig then(name s false (next s st)).bind λq st=>semi (.dz q) st
  else if st.t.kind=Do then(name s false (next s st)).bind λq st=>(name s false st).bind λp st=>
   semi (.shift q p (take s CI st).1) (take s CI st).2
  else if st.t.kind=Mb then(name s true (next s st)).bind λv st=>semi (.inc v) st
  else if st.t.kind=Mc then(name s true (next s st)).bind λv st=>semi (.dec v) st
  else if st.t.kind=IW then semi .drop (next s st)
  else if st.t.kind=IX then semi .bump (next s st)
  else if st.t.kind=Ja then
   (cond s (n+1) (next s st)).bind λc st=>(block s n st).bind λt st=>
    if st.t.kind=Dl then(block s n (next s st)).bind λe st=>.ok (.ite c t true e .nil) st
    else .ok (.ite c t false .nil .nil) st
  else if st.t.kind=Bf then
   if st.loops=2 then fail Sa st
   else(number s 1 50 (next s st)).bind λk st=>(want s Cu st).bind λ_ st=>(cond s (n+1) st).bind λc st=>
    (block s n {st with loops:=st.loops+1}).bind λb st=>.ok (.rep k c b .nil) {st with loops:=st.loops-1}
  else fail D5 st
end
def Bj (a:List (Int×Az)) (k:Int):Option Az:=(a.find? (λx=>x.1==k)).map (·.2)
def CP (s:Ah) (st:PS):AO Int:=
 let at_:=st.t.pos
 let st:=next s st
 let x:AO Int:=if st.t.kind=Fi then .ok (-1) (next s st)else name s false st
 x.bind λk st=>.ok k (if(Bj st.rules k).isSome&&st.bC.isNone then note JS at_ st else st)
def GG (s:Ah) (n:Nat) (st:PS):AO Unit:=
 (CP s st).bind λk st=>(block s n st).bind λb st=>
  .ok () (if st.bC.isNone then {st with rules:=st.rules++[(k,b)]}else st)
def isDecl (k:Ah):Bool:=k==EK||k==Ge||k==Jo||k==Cx
def DC (s:Ah):Nat->PS->AO Unit
 |0,st=>fail D5 st
 |n+1,st=>if isDecl st.t.kind then(decl s st).bind λ_ st=>DC s n st else .ok () st
def Eb (s:Ah) (m:Nat):Nat->PS->AO Unit
 |0,st=>fail D5 st
 |n+1,st=>if st.t.kind=TF then(GG s m st).bind λ_ st=>Eb s m n st else .ok () st
def start (s:Ah):PS:=⟨(EY s 0).1,(EY s 0).2,[],0,false,[],0,0,none⟩
def Fh (s:Ah):AO MS:=
 (DC s 702 (start s)).bind λ_ st=>(Eb s 1500 702 st).bind λ_ st=>want s Eh st
structure Ax where
 decls:List Bi
 aD:Int
 rules:List (Int×Az)
def Eo (a:List (Int×Az)):Option Az:=Bj a (-1)
def read (s:Ah):Except (Nat×Nat) Ax:=
 if 700<s.length then .error (qO,0)
 else match Fh s with
  | .bad e p=>.error (e,p)
  | .ok _ st=>match st.bC with
   |some x=>.error x
   |none=>if(Eo st.rules).isNone then .error (P7,0)else .ok ⟨st.decls,st.aD,st.rules⟩
end Go.Proofs.YtepoejiigmhlbaaGreatDoor.Ev
namespace Go.Proofs.YtepoejiigmhlbaaGreatDoor.Ev
open _root_.Go.Proofs.Tryz
open Go Go.RowKit
abbrev vs (l:Ah):Value:=.string ⟨l.toArray⟩
end Go.Proofs.YtepoejiigmhlbaaGreatDoor.Ev
