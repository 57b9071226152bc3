/- Lemmas for a law's walk. Conditions: none. -/
import Derived.WalkLawsBesides
import Derived.Test.YtepoejiigmhlbaaGreatDoorZc01
set_option linter.all false
namespace Go.Proofs.YtepoejiigmhlbaaGreatDoor.Ev
abbrev Bytes:=List UInt8
abbrev kQueue:Bytes:=[113,117,101,117,101]
abbrev kGhost:Bytes:=[103,104,111,115,116]
abbrev kVar:Bytes:=[118,97,114]
abbrev kFreq:Bytes:=[102,114,101,113]
abbrev kOn:Bytes:=[111,110]
abbrev kMiss:Bytes:=[109,105,115,115]
abbrev kPut:Bytes:=[112,117,116]
abbrev kTail:Bytes:=[116,97,105,108]
abbrev kEvict:Bytes:=[101,118,105,99,116]
abbrev kShift:Bytes:=[115,104,105,102,116]
abbrev kDrop:Bytes:=[100,114,111,112]
abbrev kInc:Bytes:=[105,110,99]
abbrev kDec:Bytes:=[100,101,99]
abbrev kBump:Bytes:=[98,117,109,112]
abbrev kCool:Bytes:=[99,111,111,108]
abbrev kIf:Bytes:=[105,102]
abbrev kElse:Bytes:=[101,108,115,101]
abbrev kRepeat:Bytes:=[114,101,112,101,97,116]
abbrev kWhile:Bytes:=[119,104,105,108,101]
abbrev kNot:Bytes:=[110,111,116]
abbrev kFull:Bytes:=[102,117,108,108]
abbrev kEmpty:Bytes:=[101,109,112,116,121]
abbrev kWarm:Bytes:=[119,97,114,109]
abbrev kLen:Bytes:=[108,101,110]
abbrev kName:Bytes:=[110,97,109,101]
abbrev kNumber:Bytes:=[110,117,109,98,101,114]
abbrev kEnd:Bytes:=[101,110,100]
abbrev kNone:Bytes:=[110,111,110,101]
abbrev kSemi:Bytes:=[59]
abbrev kOpen:Bytes:=[123]
abbrev kClose:Bytes:=[125]
abbrev kLess:Bytes:=[60]
def keywords:List Bytes:=[kQueue,kGhost,kVar,kFreq,kOn,kMiss,kPut,kTail,kEvict,kShift,kDrop,kInc,kDec,kBump,kCool,kIf,kElse,kRepeat,kWhile,kNot,kFull,kEmpty,kWarm,kLen]
def blank (c:UInt8):Bool:=c==32||c==10
def low (c:UInt8):Bool:=decide (97≤c)&&decide (c≤122)
def fig (c:UInt8):Bool:=decide (48≤c)&&decide (c≤57)
def punct (c:UInt8):Bool:=c==59||c==123||c==125||c==60
structure Tok where
 kind:Bytes
 text:Bytes
 pos:Nat
def skip (p:UInt8→Bool) (s:Bytes) (i:Nat):Nat:=i+((s.drop i).takeWhile p).length
def piece (s:Bytes) (i k:Nat):Bytes:=(s.take k).drop i
def lex (s:Bytes) (i0:Nat):Tok×Nat:=
 let i:=skip blank s i0
 match s[i]? with
 |none=>(⟨kEnd,[],i⟩,i)
 |some c=>
  if low c then
   let k:=skip low s i
   if 8<k-i then(⟨kNone,[],i⟩,i)
   else(⟨if keywords.contains (piece s i k)then piece s i k else kName,piece s i k,i⟩,k)
  else if fig c then
   let k:=skip fig s i
   if 3<k-i then(⟨kNone,[],i⟩,i)else(⟨kNumber,piece s i k,i⟩,k)
  else if punct c then(⟨[c],[c],i⟩,i+1)
  else(⟨kNone,[],i⟩,i)
def eLong:Nat:=1
def eSyntax:Nat:=2
def eDeep:Nat:=3
def eTwice:Nat:=4
def eNone:Nat:=5
def eKind:Nat:=6
def eNumber:Nat:=7
def eRule:Nat:=8
def eMany:Nat:=9
def eMiss:Nat:=10
def eFull:Nat:=11
def eEmpty:Nat:=12
structure Decl where
 kind:Nat
 name:Bytes
 max:Int
inductive Val where
 |num (n:Int)
 |var (n:Int)
 |len (n:Int)
 |freq
inductive CK where
 |full (n:Int)
 |empty (n:Int)
 |warm (n:Int)
 |less (a b:Val)
structure Cond where
 k:CK
 nots:Nat
inductive Prim where
 |put (q:Int) (tail:Bool)
 |evict (q:Int)
 |cool (q:Int)
 |shift (q p:Int) (tail:Bool)
 |inc (v:Int)
 |dec (v:Int)
 |drop
 |bump
inductive Blk where
 |nil
 |prim (p:Prim) (rest:Blk)
 |ite (c:Cond) (thn:Blk) (other:Bool) (els:Blk) (rest:Blk)
 |rep (n:Int) (c:Cond) (body:Blk) (rest:Blk)
def Blk.app:Blk→Blk→Blk
 | .nil,r=>r
 | .prim p x,r=>.prim p (x.app r)
 | .ite c t o e x,r=>.ite c t o e (x.app r)
 | .rep n c b x,r=>.rep n c b (x.app r)
def Blk.length:Blk→Nat
 | .nil=>0
 | .prim _ x=>x.length+1
 | .ite _ _ _ _ x=>x.length+1
 | .rep _ _ _ x=>x.length+1
structure PS where
 t:Tok
 i:Nat
 decls:List Decl
 freq:Int
 fseen:Bool
 rules:List (Int×Blk)
 depth:Nat
 loops:Nat
 wrong:Option (Nat×Nat)
inductive Out (α:Type) where
 |ok (a:α) (st:PS)
 |bad (e:Nat) (pos:Nat)
def Out.bind {α β:Type} (x:Out α) (f:α→PS→Out β):Out β:=
 match x with
 | .ok a st=>f a st
 | .bad e p=>.bad e p
def Out.map {α β:Type} (f:α→β):Out α→Out β
 | .ok a st=>.ok (f a) st
 | .bad e p=>.bad e p
def next (s:Bytes) (st:PS):PS:={st with t:=(lex s st.i).1,i:=(lex s st.i).2}
def fail {α:Type} (e:Nat) (st:PS):Out α:=.bad e st.t.pos
def note (e:Nat) (pos:Nat) (st:PS):PS:=
 match st.wrong with
 |none=>{st with wrong:=some (e,pos)}
 |some _=>st
def want (s:Bytes) (k:Bytes) (st:PS):Out Tok:=
 if st.t.kind=k then .ok st.t (next s st)else fail eSyntax st
def take (s:Bytes) (k:Bytes) (st:PS):Bool×PS:=
 if st.t.kind=k then(true,next s st)else(false,st)
def atoi (l:Bytes):Int:=l.foldl (fun n c=>10*n+((c.toNat:Int)-48)) 0
def number (s:Bytes) (least most:Int) (st:PS):Out Int:=
 (want s kNumber st).bind fun t st=>
  .ok (atoi t.text) (if atoi t.text<least∨atoi t.text>most then note eNumber t.pos st else st)
def findFrom (name:Bytes):List Decl→Nat→Int
 | [],_=> -1
 |d::l,k=>if d.name=name then(k:Int)else findFrom name l (k+1)
def find (l:List Decl) (name:Bytes):Int:=findFrom name l 0
def declAt (l:List Decl) (k:Int):Decl:=(l[k.toNat]?).getD ⟨0,[],0⟩
def nameNote (variable_:Bool) (t:Tok) (st:PS):PS:=
 if find st.decls t.text<0 then note eNone t.pos st
 else if((declAt st.decls (find st.decls t.text)).kind==2)!=variable_ then note eKind t.pos st
 else st
def name (s:Bytes) (variable_:Bool) (st:PS):Out Int:=
 (want s kName st).bind fun t st=>.ok (find st.decls t.text) (nameNote variable_ t st)
def declMost (kind:Bytes):Int:=if kind=kVar then 99 else 50
def declKind (kind:Bytes):Nat:=if kind=kVar then 2 else if kind=kGhost then 1 else 0
def declNote (n:Tok) (st:PS):PS:=
 let st:=if 0≤find st.decls n.text then note eTwice n.pos st else st
 if st.decls.length=8 then note eMany n.pos st else st
def decl (s:Bytes) (st:PS):Out Unit:=
 let t:=st.t
 let st:=next s st
 if t.kind=kFreq then
  let st:=if st.fseen then note eTwice t.pos st else st
  let st:={st with fseen:=true}
  (number s 1 99 st).bind fun n st=>(want s kSemi {st with freq:=n}).bind fun _ st=>.ok () st
 else
  (want s kName st).bind fun n st=>
   (number s 1 (declMost t.kind) (declNote n st)).bind fun m st=>
    (want s kSemi st).bind fun _ st=>.ok () {st with decls:=st.decls++[⟨declKind t.kind,n.text,m⟩]}
def value (s:Bytes) (st:PS):Out Val:=
 if st.t.kind=kNumber then(number s 0 999 st).map .num
 else if st.t.kind=kLen then(name s false (next s st)).map .len
 else if st.t.kind=kFreq then .ok .freq (next s st)
 else(name s true st).map .var
def condBase (s:Bytes) (st:PS):Out Cond:=
 if st.t.kind=kFull then(name s false (next s st)).map fun n=>⟨.full n,0⟩
 else if st.t.kind=kEmpty then(name s false (next s st)).map fun n=>⟨.empty n,0⟩
 else if st.t.kind=kWarm then(name s false (next s st)).map fun n=>⟨.warm n,0⟩
 else(value s st).bind fun a st=>(want s kLess st).bind fun _ st=>(value s st).map fun b=>⟨.less a b,0⟩
def cond (s:Bytes):Nat→PS→Out Cond
 |0,st=>fail eSyntax st
 |n+1,st=>
  if st.t.kind=kNot then(cond s n (next s st)).map fun c=>⟨c.k,c.nots+1⟩
  else condBase s st
mutual
def block (s:Bytes):Nat→PS→Out Blk
 |0,st=>fail eSyntax st
 |n+1,st=>
  if st.t.kind=kOpen∧st.depth=8 then fail eDeep st
  else(want s kOpen st).bind fun _ st=>
   (stmts s n {st with depth:=st.depth+1}).bind fun b st=>.ok b (next s {st with depth:=st.depth-1})
def stmts (s:Bytes):Nat→PS→Out Blk
 |0,st=>fail eSyntax st
 |n+1,st=>
  if st.t.kind=kClose then .ok .nil st
  else(stmt s n st).bind fun x st=>(stmts s n st).map fun r=>x.app r
def stmt (s:Bytes):Nat→PS→Out Blk
 |0,st=>fail eSyntax st
 |n+1,st=>
  let semi (x:Prim) (st:PS):Out Blk:=(want s kSemi st).bind fun _ st=>.ok (.prim x .nil) st
  if st.t.kind=kPut then(name s false (next s st)).bind fun q st=>semi (.put q (take s kTail st).1) (take s kTail st).2
  else if st.t.kind=kEvict then(name s false (next s st)).bind fun q st=>semi (.evict q) st
  else if st.t.kind=kCool then(name s false (next s st)).bind fun q st=>semi (.cool q) st
  else if st.t.kind=kShift then(name s false (next s st)).bind fun q st=>(name s false st).bind fun p st=>
   semi (.shift q p (take s kTail st).1) (take s kTail st).2
  else if st.t.kind=kInc then(name s true (next s st)).bind fun v st=>semi (.inc v) st
  else if st.t.kind=kDec then(name s true (next s st)).bind fun v st=>semi (.dec v) st
  else if st.t.kind=kDrop then semi .drop (next s st)
  else if st.t.kind=kBump then semi .bump (next s st)
  else if st.t.kind=kIf then
   (cond s (n+1) (next s st)).bind fun c st=>(block s n st).bind fun t st=>
    if st.t.kind=kElse then(block s n (next s st)).bind fun e st=>.ok (.ite c t true e .nil) st
    else .ok (.ite c t false .nil .nil) st
  else if st.t.kind=kRepeat then
   if st.loops=2 then fail eDeep st
   else(number s 1 50 (next s st)).bind fun k st=>(want s kWhile st).bind fun _ st=>(cond s (n+1) st).bind fun c st=>
    (block s n {st with loops:=st.loops+1}).bind fun b st=>.ok (.rep k c b .nil) {st with loops:=st.loops-1}
  else fail eSyntax st
end
def ruleOf (rules:List (Int×Blk)) (k:Int):Option Blk:=(rules.find? (fun x=>x.1==k)).map (·.2)
def ruleHead (s:Bytes) (st:PS):Out Int:=
 let at_:=st.t.pos
 let st:=next s st
 let x:Out Int:=if st.t.kind=kMiss then .ok (-1) (next s st)else name s false st
 x.bind fun k st=>.ok k (if(ruleOf st.rules k).isSome&&st.wrong.isNone then note eRule at_ st else st)
def rule (s:Bytes) (n:Nat) (st:PS):Out Unit:=
 (ruleHead s st).bind fun k st=>(block s n st).bind fun b st=>
  .ok () (if st.wrong.isNone then {st with rules:=st.rules++[(k,b)]}else st)
def isDecl (k:Bytes):Bool:=k==kQueue||k==kGhost||k==kVar||k==kFreq
def declsR (s:Bytes):Nat→PS→Out Unit
 |0,st=>fail eSyntax st
 |n+1,st=>if isDecl st.t.kind then(decl s st).bind fun _ st=>declsR s n st else .ok () st
def rulesR (s:Bytes) (m:Nat):Nat→PS→Out Unit
 |0,st=>fail eSyntax st
 |n+1,st=>if st.t.kind=kOn then(rule s m st).bind fun _ st=>rulesR s m n st else .ok () st
def start (s:Bytes):PS:=⟨(lex s 0).1,(lex s 0).2,[],0,false,[],0,0,none⟩
def readAll (s:Bytes):Out Tok:=
 (declsR s 702 (start s)).bind fun _ st=>(rulesR s 1500 702 st).bind fun _ st=>want s kEnd st
structure Policy where
 decls:List Decl
 freq:Int
 rules:List (Int×Blk)
def missOf (rules:List (Int×Blk)):Option Blk:=ruleOf rules (-1)
def read (s:Bytes):Except (Nat×Nat) Policy:=
 if 700<s.length then .error (eLong,0)
 else match readAll s with
  | .bad e p=>.error (e,p)
  | .ok _ st=>match st.wrong with
   |some x=>.error x
   |none=>if(missOf st.rules).isNone then .error (eMiss,0)else .ok ⟨st.decls,st.freq,st.rules⟩
end Go.Proofs.YtepoejiigmhlbaaGreatDoor.Ev
namespace Go.Proofs.YtepoejiigmhlbaaGreatDoor.Ev
open Go Go.RowKit
abbrev vs (l:Bytes):Value:=.string ⟨l.toArray⟩
end Go.Proofs.YtepoejiigmhlbaaGreatDoor.Ev
namespace Go.Proofs.YtepoejiigmhlbaaGreatDoor.Ev
open Go Go.RowKit
def valWord:Val→Bytes
 | .num _=>kNumber
 | .var _=>kVar
 | .len _=>kLen
 | .freq=>kFreq
def valNum:Val→Int
 | .num n=>n
 | .var n=>n
 | .len n=>n
 | .freq=>0
def encVal (v:Val):List Value:=[vs (valWord v),.int .i64 (valNum v)]
abbrev kLessWord:Bytes:=[108,101,115,115]
def ckWord:CK→Bytes
 | .full _=>kFull
 | .empty _=>kEmpty
 | .warm _=>kWarm
 | .less _ _=>kLessWord
def ckNum:CK→Int
 | .full n=>n
 | .empty n=>n
 | .warm n=>n
 | .less _ _=>0
def ckVals:CK→List Value
 | .less a b=>encVal a++encVal b
 |_=>[vs [],.int .i64 0,vs [],.int .i64 0]
def oddB (n:Nat):Bool:=n%2==1
def encCond (c:Cond):List Value:=[vs (ckWord c.k),.int .i64 (ckNum c.k)]++ckVals c.k++[.bool (oddB c.nots)]
def noCond:List Value:=[vs [],.int .i64 0,vs [],.int .i64 0,vs [],.int .i64 0,.bool false]
def primWord:Prim→Bytes
 | .put _ _=>kPut
 | .evict _=>kEvict
 | .cool _=>kCool
 | .shift _ _ _=>kShift
 | .inc _=>kInc
 | .dec _=>kDec
 | .drop=>kDrop
 | .bump=>kBump
def primN:Prim→Int
 | .put q _=>q
 | .evict q=>q
 | .cool q=>q
 | .shift q _ _=>q
 | .inc v=>v
 | .dec v=>v
 |_=>0
def primM:Prim→Int
 | .shift _ p _=>p
 |_=>0
def primTail:Prim→Bool
 | .put _ t=>t
 | .shift _ _ t=>t
 |_=>false
def vnil:Value:=.slice none 0 0
def encPrim (p:Prim):List Value:=[vs (primWord p),.int .i64 (primN p),.int .i64 (primM p),.bool (primTail p)]++noCond++[vnil,vnil]
def encIf (c:Cond) (vt ve:Value):List Value:=[vs kIf,.int .i64 0,.int .i64 0,.bool false]++encCond c++[vt,ve]
def encRep (n:Int) (c:Cond) (vt:Value):List Value:=[vs kRepeat,.int .i64 n,.int .i64 0,.bool false]++encCond c++[vt,vnil]
theorem ckVals_len (c:CK):(ckVals c).length=4:=by cases c<;>rfl
theorem encCond_len (c:Cond):(encCond c).length=7:=by simp[encCond,ckVals_len]
def Sn (N:Nat→Prop) (w:World) (v:Value) (n:Nat) (cs:List Value):Prop:=
 Sl N w 203 13 v n cs∧∃g c,v= .slice (some ⟨g,0,none⟩) n c
def StmtsR (N:Nat→Prop) (w:World):Blk→List Value→Prop
 | .nil,cs=>cs=[]
 | .prim p r,cs=>∃rest,cs=encPrim p++rest∧StmtsR N w r rest
 | .ite c t o e r,cs=>∃vt ve rest,cs=encIf c vt ve++rest∧(∃ct,Sn N w vt t.length ct∧StmtsR N w t ct)∧
   (if o then∃ce,Sn N w ve e.length ce∧StmtsR N w e ce else ve=vnil∧e= .nil)∧StmtsR N w r rest
 | .rep n c b r,cs=>∃vt rest,cs=encRep n c vt++rest∧(∃ct,Sn N w vt b.length ct∧StmtsR N w b ct)∧StmtsR N w r rest
def BlkV (N:Nat→Prop) (w:World) (v:Value) (b:Blk):Prop:=∃cs,Sn N w v b.length cs∧StmtsR N w b cs
section
variable {N N':Nat→Prop} {w w':World}
theorem Sn.kept {v:Value} {n:Nat} {cs:List Value} (h:Sn N w v n cs) (hk:∀k cs,N k→Row w k 203 cs→w'.heap[k]?=w.heap[k]?):Sn N w' v n cs:=by
 obtain⟨⟨⟨h0,h1⟩,h2⟩,h3⟩:=h
 refine⟨⟨⟨h0,?_⟩,h2⟩,h3⟩
 rcases h1 with h1|⟨g,cap,cur,rfl,hb,hg,h4⟩
 ·exact .inl h1
 ·exact .inr ⟨g,cap,cur,rfl,hb,(hk g cur.toList (h2 g rfl) (by unfold Row;simpa using hg)).trans hg,h4⟩
theorem Sn.mono {v:Value} {n:Nat} {cs:List Value} (h:Sn N w v n cs) (hN:∀k,k<w.heap.size→N k→N' k):Sn N' w v n cs:=
 ⟨⟨h.1.1,fun g hg=>hN g (h.1.lt hg) (h.1.2 g hg)⟩,h.2⟩
theorem StmtsR.kept (hk:∀k cs,N k→Row w k 203 cs→w'.heap[k]?=w.heap[k]?):∀(b:Blk) (cs:List Value),StmtsR N w b cs→StmtsR N w' b cs
 | .nil,_,h=>h
 | .prim p r,cs,⟨rest,h1,h2⟩=>⟨rest,h1,StmtsR.kept hk r rest h2⟩
 | .ite c t o e r,cs,⟨vt,ve,rest,h1,⟨ct,h2,h3⟩,h4,h5⟩=>⟨vt,ve,rest,h1,⟨ct,h2.kept hk,StmtsR.kept hk t ct h3⟩,by
   cases o with
   |false=>exact h4
   |true=>
    obtain⟨ce,h6,h7⟩:=h4
    exact⟨ce,h6.kept hk,StmtsR.kept hk e ce h7⟩,StmtsR.kept hk r rest h5⟩
 | .rep n c b r,cs,⟨vt,rest,h1,⟨ct,h2,h3⟩,h5⟩=>⟨vt,rest,h1,⟨ct,h2.kept hk,StmtsR.kept hk b ct h3⟩,StmtsR.kept hk r rest h5⟩
theorem StmtsR.mono (hN:∀k,k<w.heap.size→N k→N' k):∀(b:Blk) (cs:List Value),StmtsR N w b cs→StmtsR N' w b cs
 | .nil,_,h=>h
 | .prim p r,cs,⟨rest,h1,h2⟩=>⟨rest,h1,StmtsR.mono hN r rest h2⟩
 | .ite c t o e r,cs,⟨vt,ve,rest,h1,⟨ct,h2,h3⟩,h4,h5⟩=>⟨vt,ve,rest,h1,⟨ct,h2.mono hN,StmtsR.mono hN t ct h3⟩,by
   cases o with
   |false=>exact h4
   |true=>
    obtain⟨ce,h6,h7⟩:=h4
    exact⟨ce,h6.mono hN,StmtsR.mono hN e ce h7⟩,StmtsR.mono hN r rest h5⟩
 | .rep n c b r,cs,⟨vt,rest,h1,⟨ct,h2,h3⟩,h5⟩=>⟨vt,rest,h1,⟨ct,h2.mono hN,StmtsR.mono hN b ct h3⟩,StmtsR.mono hN r rest h5⟩
theorem StmtsR.app:∀(b:Blk) (cs:List Value) (r:Blk) (rs:List Value),StmtsR N w b cs→StmtsR N w r rs→StmtsR N w (b.app r) (cs++rs)
 | .nil,_,r,rs,h,hr=>by rw[show _=[]from h];exact hr
 | .prim p x,cs,r,rs,⟨rest,h1,h2⟩,hr=>⟨rest++rs,by rw[h1,List.append_assoc],StmtsR.app x rest r rs h2 hr⟩
 | .ite c t o e x,cs,r,rs,⟨vt,ve,rest,h1,h2,h4,h5⟩,hr=>⟨vt,ve,rest++rs,by rw[h1,List.append_assoc],h2,h4,StmtsR.app x rest r rs h5 hr⟩
 | .rep n c b x,cs,r,rs,⟨vt,rest,h1,h2,h5⟩,hr=>⟨vt,rest++rs,by rw[h1,List.append_assoc],h2,StmtsR.app x rest r rs h5 hr⟩
theorem BlkV.kept {v:Value} {b:Blk} (h:BlkV N w v b) (hk:∀k cs,N k→Row w k 203 cs→w'.heap[k]?=w.heap[k]?):BlkV N w' v b:=by
 obtain⟨cs,h1,h2⟩:=h
 exact⟨cs,h1.kept hk,StmtsR.kept hk b cs h2⟩
theorem BlkV.mono {v:Value} {b:Blk} (h:BlkV N w v b) (hN:∀k,k<w.heap.size→N k→N' k):BlkV N' w v b:=by
 obtain⟨cs,h1,h2⟩:=h
 exact⟨cs,h1.mono hN,StmtsR.mono hN b cs h2⟩
end
theorem Blk.length_app:∀(b r:Blk),(b.app r).length=b.length+r.length
 | .nil,r=>by simp[Blk.app,Blk.length]
 | .prim p x,r=>by simp[Blk.app,Blk.length,Blk.length_app x r];omega
 | .ite c t o e x,r=>by simp[Blk.app,Blk.length,Blk.length_app x r];omega
 | .rep n c b x,r=>by simp[Blk.app,Blk.length,Blk.length_app x r];omega
end Go.Proofs.YtepoejiigmhlbaaGreatDoor.Ev
namespace Go.Proofs.YtepoejiigmhlbaaGreatDoor.Ev
def digitsNat (n:Nat):Bytes:=
 if n<10 then [UInt8.ofNat (48+n)]else digitsNat (n/10)++[UInt8.ofNat (48+n%10)]
termination_by n
decreasing_by omega
def digits (n:Int):Bytes:=digitsNat n.toNat
def bSp:Bytes:=[32]
def nameOf (l:List Decl) (k:Int):Bytes:=(declAt l k).name
def showVal (l:List Decl):Val→Bytes
 | .num n=>digits n
 | .var k=>nameOf l k
 | .len k=>kLen++bSp++nameOf l k
 | .freq=>kFreq
def showCK (l:List Decl):CK→Bytes
 | .full k=>kFull++bSp++nameOf l k
 | .empty k=>kEmpty++bSp++nameOf l k
 | .warm k=>kWarm++bSp++nameOf l k
 | .less a b=>showVal l a++[32,60,32]++showVal l b
def showCond (l:List Decl) (c:Cond):Bytes:=(if c.nots%2=1 then kNot++bSp else [])++showCK l c.k
def showTail (t:Bool):Bytes:=if t then bSp++kTail else []
def showPrim (l:List Decl):Prim→Bytes
 | .put q t=>kPut++bSp++nameOf l q++showTail t++kSemi
 | .evict q=>kEvict++bSp++nameOf l q++kSemi
 | .cool q=>kCool++bSp++nameOf l q++kSemi
 | .shift q p t=>kShift++bSp++nameOf l q++bSp++nameOf l p++showTail t++kSemi
 | .inc v=>kInc++bSp++nameOf l v++kSemi
 | .dec v=>kDec++bSp++nameOf l v++kSemi
 | .drop=>kDrop++kSemi
 | .bump=>kBump++kSemi
def showStmts (l:List Decl):Blk→Bytes
 | .nil=>[]
 | .prim p r=>bSp++showPrim l p++showStmts l r
 | .ite c t o e r=>bSp++(kIf++bSp++showCond l c++bSp++(kOpen++showStmts l t++bSp++kClose)++
   (if o then bSp++kElse++bSp++(kOpen++showStmts l e++bSp++kClose)else []))++showStmts l r
 | .rep n c b r=>bSp++(kRepeat++bSp++digits n++bSp++kWhile++bSp++showCond l c++bSp++(kOpen++showStmts l b++bSp++kClose))++showStmts l r
def showBlk (l:List Decl) (b:Blk):Bytes:=kOpen++showStmts l b++bSp++kClose
def kindWord (k:Nat):Bytes:=if k=0 then kQueue else if k=1 then kGhost else kVar
def showDecl (d:Decl):Bytes:=kindWord d.kind++bSp++d.name++bSp++digits d.max++[59,10]
def showFreq (f:Int):Bytes:=if 0<f then kFreq++bSp++digits f++[59,10]else []
def showRule (p:Policy) (k:Nat):Bytes:=
 match ruleOf p.rules (k:Int)with
 |some b=>kOn++bSp++nameOf p.decls (k:Int)++bSp++showBlk p.decls b++[10]
 |none=>[]
def showRules (p:Policy):Nat→Bytes
 |0=>[]
 |k+1=>showRules p k++showRule p k
def showMiss (p:Policy):Bytes:=kOn++bSp++kMiss++bSp++showBlk p.decls ((missOf p.rules).getD .nil)++[10]
def text (p:Policy):Bytes:=(p.decls.map showDecl).flatten++showFreq p.freq++showRules p p.decls.length++showMiss p
structure Ent where
 key:Int
 freq:Int
structure St where
 q:List (List Ent)
 vars:List Int
def St.queue (s:St) (k:Int):List Ent:=(s.q[k.toNat]?).getD []
def St.setQueue (s:St) (k:Int) (l:List Ent):St:={s with q:=s.q.set k.toNat l}
def St.var (s:St) (k:Int):Int:=(s.vars[k.toNat]?).getD 0
def placeFrom (key:Int):List Ent→Nat→Option Nat
 | [],_=>none
 |e::l,i=>if e.key=key then some i else placeFrom key l (i+1)
def whereFrom (key:Int):List (List Ent)→Nat→Option (Nat×Nat)
 | [],_=>none
 |l::r,k=>match placeFrom key l 0 with
  |some i=>some (k,i)
  |none=>whereFrom key r (k+1)
def St.find (s:St) (key:Int):Option (Nat×Nat):=whereFrom key s.q 0
def resident (l:List Decl) (k:Int):Bool:=decide (0≤k)&&(declAt l k).kind==0
def entAt (l:List Ent) (i:Nat):Ent:=(l[i]?).getD ⟨0,0⟩
structure Run where
 s:St
 gone:List Int
def Run.leaves (l:List Decl) (from_:Int) (key:Int) (r:Run):Run:=
 if resident l from_ then {r with gone:=r.gone++[key]}else r
def comes (l:List Decl) (e:Ent) (from_ to_:Int) (tail:Bool) (r:Run):Except Nat Run:=
 if(declAt l to_).max≤((r.s.queue to_).length:Int)then .error eFull
 else
  let s:=r.s.setQueue to_ (if tail then r.s.queue to_++[e]else e::r.s.queue to_)
  .ok (if resident l to_ then {r with s:=s}else Run.leaves l from_ e.key {r with s:=s})
def St.out (s:St) (q:Nat) (i:Nat):St:={s with q:=s.q.set q (((s.q[q]?).getD []).eraseIdx i)}
def lastEnt (l:List Ent):Ent:=entAt l (l.length-1)
def setFreq (l:List Ent) (i:Nat) (f:Int):List Ent:=l.set i {(entAt l i)with freq:=f}
def prim (p:Policy) (key:Int) (x:Prim) (r:Run):Except Nat Run:=
 match x with
 | .put q t=>match r.s.find key with
  |some (k,i)=>comes p.decls (entAt (r.s.queue k) i) k q t {r with s:=r.s.out k i}
  |none=>comes p.decls ⟨key,0⟩ (-1) q t r
 | .drop=>match r.s.find key with
  |some (k,i)=>.ok (Run.leaves p.decls k key {r with s:=r.s.out k i})
  |none=>.ok r
 | .inc v=>.ok (if r.s.var v<(declAt p.decls v).max then {r with s:={r.s with vars:=r.s.vars.set v.toNat (r.s.var v+1)}}else r)
 | .dec v=>.ok (if 0<r.s.var v then {r with s:={r.s with vars:=r.s.vars.set v.toNat (r.s.var v-1)}}else r)
 | .bump=>match r.s.find key with
  |some (k,i)=>.ok (if(entAt (r.s.queue k) i).freq<p.freq then
    {r with s:=r.s.setQueue k (setFreq (r.s.queue k) i ((entAt (r.s.queue k) i).freq+1))}else r)
  |none=>.ok r
 | .cool q=>
  if r.s.queue q=[]then .error eEmpty
  else .ok (if 0<(lastEnt (r.s.queue q)).freq then
   {r with s:=r.s.setQueue q (setFreq (r.s.queue q) ((r.s.queue q).length-1) ((lastEnt (r.s.queue q)).freq-1))}else r)
 | .evict q=>
  if r.s.queue q=[]then .error eEmpty
  else .ok (Run.leaves p.decls q (lastEnt (r.s.queue q)).key {r with s:=r.s.setQueue q (r.s.queue q).dropLast})
 | .shift q t tl=>
  if r.s.queue q=[]then .error eEmpty
  else comes p.decls (lastEnt (r.s.queue q)) q t tl {r with s:=r.s.setQueue q (r.s.queue q).dropLast}
def freqOf (s:St) (key:Int):Int:=
 match s.find key with
 |some (k,i)=>(entAt (s.queue k) i).freq
 |none=>0
def evalVal (key:Int) (s:St):Val→Int
 | .num n=>n
 | .var k=>s.var k
 | .len k=>(s.queue k).length
 | .freq=>freqOf s key
def evalCK (l:List Decl) (key:Int) (s:St):CK→Bool
 | .full k=>decide ((declAt l k).max≤((s.queue k).length:Int))
 | .empty k=>decide ((s.queue k).length=0)
 | .warm k=>decide (0<(s.queue k).length)&&decide (0<(lastEnt (s.queue k)).freq)
 | .less a b=>decide (evalVal key s a<evalVal key s b)
def evalCond (l:List Decl) (key:Int) (s:St) (c:Cond):Bool:=evalCK l key s c.k !=(c.nots%2==1)
def loopN (c:St→Bool) (f:Run→Except Nat Run):Nat→Run→Except Nat Run
 |0,r=>.ok r
 |n+1,r=>if c r.s then(match f r with
   | .ok r=>loopN c f n r
   | .error e=>.error e)else .ok r
def exec (p:Policy) (key:Int):Blk→Run→Except Nat Run
 | .nil,r=>.ok r
 | .prim x b,r=>match prim p key x r with
  | .ok r=>exec p key b r
  | .error e=>.error e
 | .ite c t o e b,r=>match(if evalCond p.decls key r.s c then exec p key t r else if o then exec p key e r else .ok r)with
  | .ok r=>exec p key b r
  | .error e=>.error e
 | .rep n c x b,r=>match loopN (fun s=>evalCond p.decls key s c) (exec p key x) n.toNat r with
  | .ok r=>exec p key b r
  | .error e=>.error e
structure Cnt where
 hits:Int
 misses:Int
 evicted:Int
structure Eng where
 p:Policy
 s:St
 n:Cnt
def Eng.new (p:Policy):Eng:=⟨p,⟨List.replicate p.decls.length [],List.replicate p.decls.length 0⟩,⟨0,0,0⟩⟩
def whereQ (s:St) (key:Int):Int:=
 match s.find key with
 |some (k,_)=>k
 |none=> -1
def ruleFor (p:Policy) (q:Int):Blk:=(ruleOf p.rules q).getD .nil
inductive Ans where
 |ok (hit:Bool) (gone:List Int) (e:Eng)
 |err (n:Nat)
def Eng.access (e:Eng) (key:Int):Ans:=
 let q:=whereQ e.s key
 match exec e.p key (ruleFor e.p q) ⟨e.s,[]⟩with
 | .error n=>.err n
 | .ok r=>
  let hit:=resident e.p.decls q
  .ok hit r.gone {e with s:=r.s,n:=⟨e.n.hits+(if hit then 1 else 0),e.n.misses+(if hit then 0 else 1),e.n.evicted+r.gone.length⟩}
def Eng.remove (e:Eng) (key:Int):Bool×Eng:=
 match e.s.find key with
 |some (k,i)=>(true,{e with s:=e.s.out k i})
 |none=>(false,e)
def Eng.keys (e:Eng) (nm:Bytes):Option (List Int):=
 let k:=find e.p.decls nm
 if k<0∨(declAt e.p.decls k).kind=2 then none else some ((e.s.queue k).map (·.key))
end Go.Proofs.YtepoejiigmhlbaaGreatDoor.Ev
namespace Go.Proofs.YtepoejiigmhlbaaGreatDoor.Ev
inductive Ins where
 |prim (x:Prim)
 |num (n:Int)
 |var (n:Int)
 |len (n:Int)
 |freq
 |less
 |full (n:Int)
 |warm (n:Int)
 |not
 |jump (a:Nat)
 |skip (a:Nat)
 |count (c:Nat) (n:Int)
 |again (c a:Nat)
 |fin
def Prim.op:Prim→Nat
 | .put _ false=>0
 | .put _ true=>1
 | .evict _=>2
 | .shift _ _ false=>3
 | .shift _ _ true=>4
 | .drop=>5
 | .inc _=>6
 | .dec _=>6
 | .bump=>7
 | .cool _=>8
def Prim.a:Prim→Int
 | .put q _=>q
 | .evict q=>q
 | .shift q _ _=>q
 | .inc v=>v
 | .dec v=>v
 | .cool q=>q
 |_=>0
def Prim.b:Prim→Int
 | .shift _ p _=>p
 | .inc _=>1
 | .dec _=> -1
 |_=>0
def Ins.op:Ins→Nat
 | .prim x=>x.op
 | .num _=>9
 | .var _=>10
 | .len _=>11
 | .freq=>12
 | .less=>13
 | .full _=>14
 | .warm _=>15
 | .not=>16
 | .jump _=>17
 | .skip _=>18
 | .count _ _=>19
 | .again _ _=>20
 | .fin=>21
def Ins.a:Ins→Int
 | .prim x=>x.a
 | .num n=>n
 | .var n=>n
 | .len n=>n
 | .full n=>n
 | .warm n=>n
 | .jump a=>a
 | .skip a=>a
 | .count c _=>c
 | .again c _=>c
 |_=>0
def Ins.b:Ins→Int
 | .prim x=>x.b
 | .count _ n=>n
 | .again _ a=>a
 |_=>0
def compVal:Val→Ins
 | .num n=>.num n
 | .var n=>.var n
 | .len n=>.len n
 | .freq=>.freq
def compCK:CK→List Ins
 | .full n=>[.full n]
 | .empty n=>[.len n,.num 1,.less]
 | .warm n=>[.warm n]
 | .less a b=>[compVal a,compVal b,.less]
def compCond (c:Cond):List Ins:=compCK c.k++if c.nots%2==1 then [.not]else []
def Blk.loops:Blk→Nat
 | .nil=>0
 | .prim _ r=>r.loops
 | .ite _ t _ e r=>t.loops+e.loops+r.loops
 | .rep _ _ b r=>1+b.loops+r.loops
def comp:Nat→Nat→Blk→List Ins
 |_,_,.nil=>[]
 |c,o,.prim p r=>.prim p::comp c (o+1) r
 |c,o,.ite k t other e r=>
  let n1:=o+(compCond k).length+1
  let T:=comp c n1 t
  if other then
   let E:=comp (c+t.loops) (n1+T.length+1) e
   compCond k++ .skip (n1+T.length+1)::(T++ .jump (n1+T.length+1+E.length)::(E++comp (c+t.loops+e.loops) (n1+T.length+1+E.length) r))
  else compCond k++ .skip (n1+T.length)::(T++comp (c+t.loops) (n1+T.length) r)
 |c,o,.rep n k b r=>
  let n1:=o+2+(compCond k).length+1
  let B:=comp (c+1) n1 b
  .count c n:: .again c (n1+B.length+1)::(compCond k++ .skip (n1+B.length+1)::(B++ .jump (o+1)::comp (c+1+b.loops) (n1+B.length+1) r))
def Ix (m:Nat) (n:Int):Prop:=0≤n∧n<m
instance (m:Nat) (n:Int):Decidable (Ix m n):=by unfold Ix;exact inferInstance
def PrimOk (l:List Decl):Prim→Prop
 | .put q _=>Ix l.length q∧(declAt l q).kind≠2
 | .evict q=>Ix l.length q
 | .cool q=>Ix l.length q
 | .shift q p _=>Ix l.length q∧Ix l.length p∧(declAt l p).kind≠2
 | .inc v=>Ix l.length v
 | .dec v=>Ix l.length v
 |_=>True
instance (l:List Decl) (x:Prim):Decidable (PrimOk l x):=by cases x<;>unfold PrimOk<;>exact inferInstance
def ValOk (m:Nat):Val→Prop
 | .num _=>True
 | .var n=>Ix m n
 | .len n=>Ix m n
 | .freq=>True
def CKOk (m:Nat):CK→Prop
 | .full n=>Ix m n
 | .empty n=>Ix m n
 | .warm n=>Ix m n
 | .less a b=>ValOk m a∧ValOk m b
def BlkOk (l:List Decl):Blk→Prop
 | .nil=>True
 | .prim p r=>PrimOk l p∧BlkOk l r
 | .ite c t o e r=>CKOk l.length c.k∧BlkOk l t∧BlkOk l e∧BlkOk l r∧(o=false→e= .nil)
 | .rep n c b r=>CKOk l.length c.k∧BlkOk l b∧BlkOk l r∧0≤n
def Blk.most:Blk→Nat
 | .nil=>0
 | .prim _ r=>1+r.most
 | .ite _ t _ e r=>t.most+e.most+r.most
 | .rep n _ b r=>n.toNat*b.most+r.most
def goneMax:Nat:=100000000
structure VS where
 pc:Nat
 stack:List Int
 yes:Bool
 loops:List Int
 r:Run
section
variable (p:Policy) (key:Int)
def vstep (v:VS):Ins→Option (VS ⊕ Except Nat Run)
 | .prim x=>if PrimOk p.decls x∧v.r.gone.length<goneMax then
   match prim p key x v.r with
   | .ok r=>some (.inl {v with pc:=v.pc+1,r:=r})
   | .error e=>some (.inr (.error e))
  else none
 | .num n=>if v.stack.length≤1 then some (.inl {v with pc:=v.pc+1,stack:=n::v.stack})else none
 | .var n=>if Ix p.decls.length n∧v.stack.length≤1 then some (.inl {v with pc:=v.pc+1,stack:=v.r.s.var n::v.stack})else none
 | .len n=>if Ix p.decls.length n∧v.stack.length≤1 then some (.inl {v with pc:=v.pc+1,stack:=((v.r.s.queue n).length:Int)::v.stack})else none
 | .freq=>if v.stack.length≤1 then some (.inl {v with pc:=v.pc+1,stack:=freqOf v.r.s key::v.stack})else none
 | .less=>match v.stack with
  |b::a::st=>some (.inl {v with pc:=v.pc+1,stack:=st,yes:=decide (a<b)})
  |_=>none
 | .full n=>if Ix p.decls.length n then some (.inl {v with pc:=v.pc+1,yes:=decide ((declAt p.decls n).max≤((v.r.s.queue n).length:Int))})else none
 | .warm n=>if Ix p.decls.length n then some (.inl {v with pc:=v.pc+1,yes:=decide (0<(v.r.s.queue n).length)&&decide (0<(lastEnt (v.r.s.queue n)).freq)})else none
 | .not=>some (.inl {v with pc:=v.pc+1,yes:=!v.yes})
 | .jump a=>some (.inl {v with pc:=a})
 | .skip a=>some (.inl {v with pc:=if v.yes then v.pc+1 else a})
 | .count c n=>if c<v.loops.length then some (.inl {v with pc:=v.pc+1,loops:=v.loops.set c n})else none
 | .again c a=>match v.loops[c]? with
  |none=>none
  |some n=>if n=0 then some (.inl {v with pc:=a})else some (.inl {v with pc:=v.pc+1,loops:=v.loops.set c (n-1)})
 | .fin=>some (.inr (.ok v.r))
def vrun (code:List Ins):Nat→VS→Option (Except Nat Run)
 |0,_=>none
 |k+1,v=>match code[v.pc]? with
  |none=>none
  |some i=>match vstep p key v i with
   |none=>none
   |some (.inr r)=>some r
   |some (.inl v')=>vrun code k v'
def At_ (code:List Ins) (o:Nat) (l:List Ins):Prop:=∃pre post,code=pre++(l++post)∧pre.length=o
variable {p key}
theorem At_.left {code:List Ins} {o:Nat} {a b:List Ins} (h:At_ code o (a++b)):At_ code o a:=by
 obtain⟨x,y,h1,h2⟩:=h
 exact⟨x,b++y,by rw[h1];simp,h2⟩
theorem At_.right {code:List Ins} {o:Nat} {a b:List Ins} (h:At_ code o (a++b)):At_ code (o+a.length) b:=by
 obtain⟨x,y,h1,h2⟩:=h
 exact⟨x++a,y,by rw[h1];simp,by simp[h2]⟩
theorem At_.head {code:List Ins} {o:Nat} {i:Ins} {b:List Ins} (h:At_ code o (i::b)):code[o]?=some i:=by
 obtain⟨x,y,h1,h2⟩:=h
 rw[h1,←h2];simp
theorem At_.tail {code:List Ins} {o:Nat} {i:Ins} {b:List Ins} (h:At_ code o (i::b)):At_ code (o+1) b:=At_.right (a:=[i]) h
def Reach (p:Policy) (key:Int) (code:List Ins) (v v':VS):Prop:=∃n,∀k,vrun p key code (n+k) v=vrun p key code k v'
def Dies (p:Policy) (key:Int) (code:List Ins) (v:VS) (e:Nat):Prop:=∃n,vrun p key code n v=some (.error e)
variable {code:List Ins}
theorem Reach.refl (v:VS):Reach p key code v v:=⟨0,fun k=>by rw[Nat.zero_add]⟩
theorem Reach.trans {a b c:VS} (h:Reach p key code a b) (h':Reach p key code b c):Reach p key code a c:=by
 obtain⟨n,hn⟩:=h
 obtain⟨m,hm⟩:=h'
 exact⟨n+m,fun k=>by rw[Nat.add_assoc,hn,hm]⟩
theorem Reach.dies {a b:VS} {e:Nat} (h:Reach p key code a b) (h':Dies p key code b e):Dies p key code a e:=by
 obtain⟨n,hn⟩:=h
 obtain⟨m,hm⟩:=h'
 exact⟨n+m,by rw[hn,hm]⟩
theorem Reach.step {v v':VS} {i:Ins} (h:code[v.pc]?=some i) (hs:vstep p key v i=some (.inl v')):Reach p key code v v':=
 ⟨1,fun k=>by rw[Nat.add_comm];simp only[vrun,h,hs]⟩
theorem Dies.step {v:VS} {i:Ins} {e:Nat} (h:code[v.pc]?=some i) (hs:vstep p key v i=some (.inr (.error e))):Dies p key code v e:=
 ⟨1,by simp only[vrun,h,hs]⟩
theorem val_reach {o:Nat} (x:Val) (h:code[o]?=some (compVal x)) (hx:ValOk p.decls.length x) (v:VS) (hv:v.pc=o) (hs:v.stack.length≤1):
  Reach p key code v {v with pc:=o+1,stack:=evalVal key v.r.s x::v.stack}:=by
 subst hv
 refine Reach.step h ?_
 cases x with
 |num n=>simp only[compVal,vstep];rw[if_pos hs];rfl
 |var n=>simp only[compVal,vstep];rw[if_pos ⟨show Ix p.decls.length n from hx,hs⟩];rfl
 |len n=>simp only[compVal,vstep];rw[if_pos ⟨show Ix p.decls.length n from hx,hs⟩];rfl
 |freq=>simp only[compVal,vstep];rw[if_pos hs];rfl
theorem cond_reach {o:Nat} (c:Cond) (h:At_ code o (compCond c)) (hc:CKOk p.decls.length c.k) (v:VS) (hv:v.pc=o) (hst:v.stack=[]):
  Reach p key code v {v with pc:=o+(compCond c).length,yes:=evalCond p.decls key v.r.s c}:=by
 have hk:=h.left
 have h1:Reach p key code v {v with pc:=o+(compCK c.k).length,yes:=evalCK p.decls key v.r.s c.k}:=by
  subst hv
  cases hck:c.k with
  |full n=>
   rw[hck]at hk hc
   refine Reach.step hk.head ?_
   simp only[vstep];rw[if_pos (show Ix p.decls.length n from hc)];rfl
  |warm n=>
   rw[hck]at hk hc
   refine Reach.step hk.head ?_
   simp only[vstep];rw[if_pos (show Ix p.decls.length n from hc)];rfl
  |empty n=>
   rw[hck]at hk hc
   have a1:=val_reach (key:=key) (.len n) hk.head hc v rfl (by rw[hst];exact Nat.zero_le _)
   have a2:=val_reach (p:=p) (key:=key) (.num 1) hk.tail.head trivial {v with pc:=v.pc+1,stack:=evalVal key v.r.s (.len n)::v.stack} rfl (by simp[hst])
   refine a1.trans (a2.trans ?_)
   refine Reach.step (i:=.less) hk.tail.tail.head ?_
   have e:decide (((v.r.s.queue n).length:Int)<1)=decide ((v.r.s.queue n).length=0):=by
    rw[decide_eq_decide];omega
   show some (Sum.inl {v with pc:=v.pc+1+1+1,yes:=decide (((v.r.s.queue n).length:Int)<1)})=_
   rw[e]
   rfl
  |less a b=>
   rw[hck]at hk hc
   have a1:=val_reach (key:=key) a hk.head hc.1 v rfl (by rw[hst];exact Nat.zero_le _)
   have a2:=val_reach (key:=key) b hk.tail.head hc.2 {v with pc:=v.pc+1,stack:=evalVal key v.r.s a::v.stack} rfl (by simp[hst])
   refine a1.trans (a2.trans ?_)
   exact Reach.step (i:=.less) hk.tail.tail.head rfl
 refine h1.trans ?_
 have hr:=h.right
 unfold evalCond compCond at*
 cases hn:(c.nots%2==1)with
 |false=>rw[hn]at hr;simp;exact Reach.refl _
 |true=>
  rw[hn]at hr
  refine Reach.step (i:=.not) hr.head ?_
  simp[vstep];omega
structure Thru (c:Nat) (v v':VS) (o':Nat) (r':Run):Prop where
 pc:v'.pc=o'
 r:v'.r=r'
 stack:v'.stack=v.stack
 len:v'.loops.length=v.loops.length
 low:∀i,i<c→v'.loops[i]?=v.loops[i]?
def Goes (p:Policy) (key:Int) (code:List Ins) (c:Nat) (v:VS) (o':Nat):Except Nat Run→Prop
 | .ok r'=>∃v',Reach p key code v v'∧Thru c v v' o' r'
 | .error e=>Dies p key code v e
theorem Goes.reach {c o':Nat} {v v1:VS} {x:Except Nat Run} (h:Reach p key code v v1) (hs:v1.stack=v.stack) (hl:v1.loops.length=v.loops.length) (hlow:∀i,i<c→v1.loops[i]?=v.loops[i]?)
  (g:Goes p key code c v1 o' x):Goes p key code c v o' x:=by
 cases x with
 |ok r=>
  obtain⟨v',a,b⟩:=g
  exact⟨v',h.trans a,b.pc,b.r,b.stack.trans hs,b.len.trans hl,fun i hi=>(b.low i hi).trans (hlow i hi)⟩
 |error e=>exact h.dies g
def ebind (x:Except Nat Run) (f:Run→Except Nat Run):Except Nat Run:=
 match x with
 | .ok r=>f r
 | .error e=>.error e
theorem Goes.mono_ {c c1 o':Nat} {v:VS} {x:Except Nat Run} (hc:c≤c1) (g:Goes p key code c1 v o' x):Goes p key code c v o' x:=by
 cases x with
 |error e=>exact g
 |ok r=>
  obtain⟨v',a,b⟩:=g
  exact⟨v',a,b.pc,b.r,b.stack,b.len,fun i hi=>b.low i (by omega)⟩
theorem Goes.seq {c c1 o1 o2:Nat} {v:VS} {x:Except Nat Run} {f:Run→Except Nat Run} (hc:c≤c1) (h:Goes p key code c1 v o1 x)
  (hf:∀v' r,x= .ok r→Thru c1 v v' o1 r→Goes p key code c v' o2 (f r)):
  Goes p key code c v o2 (ebind x f):=by
 cases x with
 |error e=>exact h
 |ok r=>
  obtain⟨v',a,b⟩:=h
  exact Goes.reach a b.stack b.len (fun i hi=>b.low i (by omega)) (hf v' r rfl b)
theorem leaves_gone (l:List Decl) (f k:Int) (r:Run):(Run.leaves l f k r).gone.length≤r.gone.length+1:=by
 unfold Run.leaves
 split
 ·simp
 ·omega
theorem comes_gone {l:List Decl} {e:Ent} {f t:Int} {tl:Bool} {r r':Run} (h:comes l e f t tl r= .ok r'):r'.gone.length≤r.gone.length+1:=by
 unfold comes at h
 split at h
 ·cases h
 ·injection h with h
  subst h
  split
  ·exact Nat.le_succ _
  ·exact leaves_gone _ _ _ _
theorem prim_gone {x:Prim} {r r':Run} (h:prim p key x r= .ok r'):r'.gone.length≤r.gone.length+1:=by
 cases x with
 |put q t=>
  simp only[prim]at h
  split at h
  ·have h2:=comes_gone h;exact h2
  ·have h2:=comes_gone h;exact h2
 |evict q=>
  simp only[prim]at h
  split at h
  ·cases h
  ·injection h with h;subst h;exact leaves_gone _ _ _ _
 |cool q=>
  simp only[prim]at h
  split at h
  ·cases h
  ·injection h with h;subst h;split<;>exact Nat.le_succ _
 |shift q t tl=>
  simp only[prim]at h
  split at h
  ·cases h
  ·have h2:=comes_gone h;exact h2
 |inc v=>simp only[prim]at h;injection h with h;subst h;split<;>exact Nat.le_succ _
 |dec v=>simp only[prim]at h;injection h with h;subst h;split<;>exact Nat.le_succ _
 |drop=>
  simp only[prim]at h
  split at h
  ·injection h with h;subst h;exact leaves_gone _ _ _ _
  ·injection h with h;subst h;exact Nat.le_succ _
 |bump=>
  simp only[prim]at h
  split at h
  ·injection h with h;subst h;split<;>exact Nat.le_succ _
  ·injection h with h;subst h;exact Nat.le_succ _
theorem loopN_gone {c:St→Bool} {f:Run→Except Nat Run} {m:Nat} (hf:∀r r',f r= .ok r'→r'.gone.length≤r.gone.length+m):∀(n:Nat) (r r':Run),loopN c f n r= .ok r'→r'.gone.length≤r.gone.length+n*m
 |0,r,r',h=>by rw[loopN]at h;injection h with h;subst h;omega
 |n+1,r,r',h=>by
  rw[loopN]at h
  split at h
  ·split at h
   ·rename_i r1 e
    have h1:=hf _ _ e
    have h2:=loopN_gone hf n r1 r' h
    rw[Nat.succ_mul];omega
   ·cases h
  ·injection h with h;subst h;exact Nat.le_add_right _ _
theorem exec_gone:∀(b:Blk) (r r':Run),exec p key b r= .ok r'→r'.gone.length≤r.gone.length+b.most
 | .nil,r,r',h=>by rw[exec]at h;injection h with h;subst h;exact Nat.le_add_right _ _
 | .prim x b,r,r',h=>by
  rw[exec]at h
  split at h
  ·rename_i r1 e
   have h1:=prim_gone e
   have h2:=exec_gone b r1 r' h
   simp only[Blk.most];omega
  ·cases h
 | .ite c t o e b,r,r',h=>by
  rw[exec]at h
  split at h
  ·rename_i r1 e1
   have h2:=exec_gone b r1 r' h
   have h1:r1.gone.length≤r.gone.length+(t.most+e.most):=by
    split at e1
    ·have:=exec_gone t r r1 e1;omega
    ·split at e1
     ·have:=exec_gone e r r1 e1;omega
     ·injection e1 with e1;subst e1;omega
   simp only[Blk.most];omega
  ·cases h
 | .rep n c x b,r,r',h=>by
  rw[exec]at h
  split at h
  ·rename_i r1 e1
   have h2:=exec_gone b r1 r' h
   have h1:=loopN_gone (m:=x.most) (fun r r' hr=>exec_gone x r r' hr) n.toNat r r1 e1
   simp only[Blk.most];omega
  ·cases h
theorem comp_ok:∀(b:Blk) (c o:Nat),At_ code o (comp c o b)→BlkOk p.decls b→∀v:VS,v.pc=o→c+b.loops≤v.loops.length→v.stack=[]→v.r.gone.length+b.most≤goneMax→Goes p key code c v (o+(comp c o b).length) (exec p key b v.r)
 | .nil,c,o,_,_,v,hv,_,_,_=>⟨v,Reach.refl v,hv,rfl,rfl,rfl,fun _ _=>rfl⟩
 | .prim x r,c,o,h,hok,v,hv,hl,hst,hg=>by
  have hg':v.r.gone.length+(1+r.most)≤goneMax:=hg
  have hgl:v.r.gone.length<goneMax:=by omega
  have h0:=h.head
  have ht:=h.tail
  rw[exec]
  rw[←hv]at h0
  cases hx:prim p key x v.r with
  |error e=>
   refine Dies.step h0 ?_
   simp only[vstep];rw[if_pos ⟨hok.1,hgl⟩,hx]
  |ok r1=>
   have hr:Reach p key code v {v with pc:=v.pc+1,r:=r1}:=Reach.step h0 (by simp only[vstep];rw[if_pos ⟨hok.1,hgl⟩,hx])
   refine Goes.reach hr rfl rfl (fun _ _=>rfl) ?_
   have:=comp_ok r c (o+1) ht hok.2 {v with pc:=v.pc+1,r:=r1} (by simp[hv]) hl hst (by have:=prim_gone hx;show r1.gone.length+_≤_;omega)
   simpa[comp,Nat.add_assoc,Nat.add_comm 1]using this
 | .ite k t other e r,c,o,h,hok,v,hv,hl,hst,hg=>by
  have hg':v.r.gone.length+(t.most+e.most+r.most)≤goneMax:=hg
  obtain⟨ok1,ok2,ok3,ok4,ok5⟩:=hok
  have hl':c+(t.loops+e.loops+r.loops)≤v.loops.length:=hl
  have hx:exec p key (.ite k t other e r) v.r=ebind (if evalCond p.decls key v.r.s k then exec p key t v.r else if other then exec p key e v.r else .ok v.r) (exec p key r):=rfl
  rw[hx]
  cases other with
  |true=>
   simp only[comp,if_true]at h ⊢
   have hc:=h.left
   have hs:=h.right
   have hs0:=hs.head
   have hT:=hs.tail.left
   have hJ:=hs.tail.right
   have hJ0:=hJ.head
   have hE:=hJ.tail.left
   have hR:=hJ.tail.right
   have g1:=cond_reach (key:=key) k hc ok1 v hv hst
   refine Goes.reach g1 rfl rfl (fun _ _=>rfl) ?_
   have g2:Reach p key code {v with pc:=o+(compCond k).length,yes:=evalCond p.decls key v.r.s k} _:=Reach.step hs0 rfl
   refine Goes.reach g2 rfl rfl (fun _ _=>rfl) ?_
   have elen:∀a b c d e:Nat,a+(b+(c+(d+e+1)+1))=a+b+1+c+1+d+e:=by intros;omega
   simp only[List.length_append,List.length_cons,elen]
   generalize hq:evalCond p.decls key v.r.s k=y
   cases y with
   |true=>
    simp only[if_true]
    have gt:=comp_ok t c (o+(compCond k).length+1) hT ok2 {v with pc:=o+(compCond k).length+1,yes:=true} rfl (by show c+t.loops≤v.loops.length;omega) hst (by show v.r.gone.length+_≤_;omega)
    refine Goes.seq (Nat.le_refl _) gt ?_
    intro v' r' hx' th
    have hgt:=exec_gone t _ _ hx'
    have hgr:=th.r
    have g3:Reach p key code v' _:=Reach.step (by rw[th.pc];exact hJ0) rfl
    refine Goes.reach g3 rfl rfl (fun _ _=>rfl) ?_
    have gr:=comp_ok r (c+t.loops+e.loops) _ hR ok4 {v' with pc:=o+(compCond k).length+1+(comp c (o+(compCond k).length+1) t).length+1+(comp (c+t.loops) (o+(compCond k).length+1+(comp c (o+(compCond k).length+1) t).length+1) e).length} rfl
     (by have:=th.len;show _≤v'.loops.length;simp at this;omega) (by show v'.stack=[];rw[th.stack];exact hst) (by show v'.r.gone.length+_≤_;rw[hgr];(try simp at hgt);omega)
    rw[←th.r]
    exact Goes.mono_ (Nat.le_trans (Nat.le_add_right c _) (Nat.le_add_right _ _)) gr
   |false=>
    simp only[if_true,Bool.false_eq_true,if_false]
    have ge:=comp_ok e (c+t.loops) _ hE ok3 {v with pc:=o+(compCond k).length+1+(comp c (o+(compCond k).length+1) t).length+1,yes:=false} rfl (by show c+t.loops+e.loops≤v.loops.length;omega) hst (by show v.r.gone.length+_≤_;omega)
    refine Goes.seq (Nat.le_add_right _ _) ge ?_
    intro v' r' hx' th
    have hgt:=exec_gone e _ _ hx'
    have hgr:=th.r
    have gr:=comp_ok r (c+t.loops+e.loops) _ hR ok4 v' th.pc (by have:=th.len;simp at this;omega) (by rw[th.stack];exact hst) (by rw[hgr];(try simp at hgt);omega)
    rw[←th.r]
    exact Goes.mono_ (Nat.le_trans (Nat.le_add_right c _) (Nat.le_add_right _ _)) gr
  |false=>
   simp only[comp,Bool.false_eq_true,if_false]at h ⊢
   have he:=ok5 rfl
   have hc:=h.left
   have hs:=h.right
   have hs0:=hs.head
   have hT:=hs.tail.left
   have hR:=hs.tail.right
   have g1:=cond_reach (key:=key) k hc ok1 v hv hst
   refine Goes.reach g1 rfl rfl (fun _ _=>rfl) ?_
   have g2:Reach p key code {v with pc:=o+(compCond k).length,yes:=evalCond p.decls key v.r.s k} _:=Reach.step hs0 rfl
   refine Goes.reach g2 rfl rfl (fun _ _=>rfl) ?_
   have elen:∀a b c e:Nat,a+(b+(c+e+1))=a+b+1+c+e:=by intros;omega
   simp only[List.length_append,List.length_cons,elen]
   generalize hq:evalCond p.decls key v.r.s k=y
   cases y with
   |true=>
    simp only[if_true]
    have gt:=comp_ok t c (o+(compCond k).length+1) hT ok2 {v with pc:=o+(compCond k).length+1,yes:=true} rfl (by show c+t.loops≤v.loops.length;omega) hst (by show v.r.gone.length+_≤_;omega)
    refine Goes.seq (Nat.le_refl _) gt ?_
    intro v' r' hx' th
    have hgt:=exec_gone t _ _ hx'
    have hgr:=th.r
    have gr:=comp_ok r (c+t.loops) _ hR ok4 v' th.pc (by have:=th.len;simp at this;omega) (by rw[th.stack];exact hst) (by rw[hgr];(try simp at hgt);omega)
    rw[←th.r]
    exact Goes.mono_ (Nat.le_add_right c _) gr
   |false=>
    simp only[Bool.false_eq_true,if_false]
    have gr:=comp_ok r (c+t.loops) _ hR ok4 {v with pc:=o+(compCond k).length+1+(comp c (o+(compCond k).length+1) t).length,yes:=false} rfl (by show _≤v.loops.length;omega) hst (by show v.r.gone.length+_≤_;omega)
    exact Goes.mono_ (Nat.le_add_right c _) gr
 | .rep n k b r,c,o,h,hok,v,hv,hl,hst,hg=>by
  have hg':v.r.gone.length+(n.toNat*b.most+r.most)≤goneMax:=hg
  obtain⟨ok1,ok2,ok3,ok4⟩:=hok
  have hl':c+(1+b.loops+r.loops)≤v.loops.length:=hl
  have hx:exec p key (.rep n k b r) v.r=ebind (loopN (fun s=>evalCond p.decls key s k) (exec p key b) n.toNat v.r) (exec p key r):=rfl
  rw[hx]
  simp only[comp]at h ⊢
  have h0:=h.head
  have h1:=h.tail.head
  have hc:=h.tail.tail.left
  have hs:=h.tail.tail.right
  have hs0:=hs.head
  have hB:=hs.tail.left
  have hJ:=hs.tail.right
  have hJ0:=hJ.head
  have hR:=hJ.tail
  have e1:o+1+1=o+2:=rfl
  rw[e1]at hc hs0 hB hJ0 hR
  generalize hL:o+2+(compCond k).length+1+(comp (c+1) (o+2+(compCond k).length+1) b).length+1=L at*
  have hcl:c<v.loops.length:=by omega
  have g0:Reach p key code v {v with pc:=o+1,loops:=v.loops.set c n}:=Reach.step (by rw[hv];exact h0) (by simp only[vstep];rw[if_pos hcl,hv])
  refine Goes.reach g0 rfl (by simp) (fun i hi=>by rw[List.getElem?_set_ne (by omega)]) ?_
  have lp:∀(m:Nat) (v:VS),v.pc=o+1→v.loops[c]?=some (m:Int)→c+(1+b.loops+r.loops)≤v.loops.length→v.stack=[]→v.r.gone.length+(m*b.most+r.most)≤goneMax→
    Goes p key code c v L (loopN (fun s=>evalCond p.decls key s k) (exec p key b) m v.r):=by
   intro m
   induction m with
   |zero=>
    intro v hv hm hl _ _
    refine⟨{v with pc:=L},Reach.step (by rw[hv];exact h1) ?_,rfl,rfl,rfl,rfl,fun _ _=>rfl⟩
    simp only[vstep,hm]
    rfl
   |succ m ih=>
    intro v hv hm hl hst hg
    rw[Nat.succ_mul]at hg
    have a1:Reach p key code v {v with pc:=o+2,loops:=v.loops.set c m}:=by
     refine Reach.step (by rw[hv];exact h1) ?_
     simp only[vstep,hm]
     rw[if_neg (by omega),hv]
     have:((m+1:Nat):Int)-1=m:=by omega
     rw[this]
    have hcl:c<v.loops.length:=by omega
    refine Goes.reach a1 rfl (by simp) (fun i hi=>by rw[List.getElem?_set_ne (by omega)]) ?_
    have a2:=cond_reach (key:=key) k hc ok1 {v with pc:=o+2,loops:=v.loops.set c m} rfl hst
    refine Goes.reach a2 rfl rfl (fun _ _=>rfl) ?_
    have a3:Reach p key code {v with pc:=o+2+(compCond k).length,loops:=v.loops.set c m,yes:=evalCond p.decls key v.r.s k} _:=Reach.step hs0 rfl
    refine Goes.reach a3 rfl rfl (fun _ _=>rfl) ?_
    rw[loopN]
    generalize hq:evalCond p.decls key v.r.s k=y
    cases y with
    |false=>
     simp only[Bool.false_eq_true,if_false]
     exact⟨_,Reach.refl _,rfl,rfl,rfl,rfl,fun _ _=>rfl⟩
    |true=>
     simp only[if_true]
     have gb:=comp_ok b (c+1) _ hB ok2 {v with pc:=o+2+(compCond k).length+1,loops:=v.loops.set c m,yes:=true} rfl (by show c+1+b.loops≤(v.loops.set c m).length;simp;omega) hst (by show v.r.gone.length+_≤_;omega)
     have:=Goes.seq (f:=fun r=>loopN (fun s=>evalCond p.decls key s k) (exec p key b) m r) (c:=c) (o2:=L) (Nat.le_succ c) gb ?_
     ·exact this
     ·intro v' r' hx' th
      have hgt:=exec_gone b _ _ hx'
      have hgr:=th.r
      have g3:Reach p key code v' {v' with pc:=o+1}:=Reach.step (by rw[th.pc];exact hJ0) rfl
      refine Goes.reach g3 rfl rfl (fun _ _=>rfl) ?_
      rw[←th.r]
      refine ih {v' with pc:=o+1} rfl ?_ ?_ (by show v'.stack=[];rw[th.stack];exact hst) (by show v'.r.gone.length+_≤_;rw[hgr];(try simp at hgt);omega)
      ·show v'.loops[c]?=_
       rw[th.low c (by omega)]
       show(v.loops.set c (m:Int))[c]?=_
       rw[List.getElem?_set_self hcl]
      ·have:=th.len
       show _≤v'.loops.length
       simp at this
       omega
  have g1:=lp n.toNat {v with pc:=o+1,loops:=v.loops.set c n} rfl (by show(v.loops.set c n)[c]?=_;rw[List.getElem?_set_self hcl];congr 1;omega) (by show _≤(v.loops.set c n).length;simp;omega) hst hg'
  have elen:o+(((compCond k).length+((comp (c+1) (o+2+(compCond k).length+1) b).length+((comp (c+1+b.loops) L r).length+1)+1))+1+1)=L+(comp (c+1+b.loops) L r).length:=by omega
  simp only[List.length_append,List.length_cons,elen]
  refine Goes.seq (Nat.le_refl _) g1 ?_
  intro v' r' hx' th
  have hgt:=loopN_gone (m:=b.most) (fun r r' hr=>exec_gone b r r' hr) _ _ _ hx'
  have hgr:=th.r
  have gr:=comp_ok r (c+1+b.loops) _ hR ok3 v' th.pc (by have:=th.len;simp at this;omega) (by rw[th.stack];exact hst) (by rw[hgr];(try simp at hgt);omega)
  rw[←th.r]
  exact Goes.mono_ (by omega) gr
theorem rule_run (b:Blk) (c:Nat) (hok:BlkOk p.decls b) (s:St) (loops:List Int) (hl:c+b.loops≤loops.length) (hg:b.most≤goneMax):
  ∃k,vrun p key (comp c 0 b++[.fin]) k ⟨0,[],false,loops,⟨s,[]⟩⟩=some (exec p key b ⟨s,[]⟩):=by
 have hA:At_ (comp c 0 b++[.fin]) 0 (comp c 0 b++[.fin]):=⟨[],[],by simp,rfl⟩
 have g:=comp_ok (key:=key) b c 0 hA.left hok ⟨0,[],false,loops,⟨s,[]⟩⟩ rfl hl rfl (by simpa using hg)
 have hf:=hA.right.head
 cases hx:exec p key b ⟨s,[]⟩with
 |error e=>
  rw[hx]at g
  exact g
 |ok r=>
  rw[hx]at g
  obtain⟨v',⟨n,hn⟩,th⟩:=g
  refine⟨n+1,?_⟩
  rw[hn]
  have hpc:v'.pc=0+(comp c 0 b).length:=th.pc
  simp only[vrun,hpc,hf,vstep,th.r]
end
end Go.Proofs.YtepoejiigmhlbaaGreatDoor.Ev
namespace Go.Proofs.YtepoejiigmhlbaaGreatDoor.Ev
open Go Go.RowKit
def encStep (i:Ins):List Value:=[.int .u8 i.op,.int .i64 i.a,.int .i64 i.b]
theorem infoStep:(Tryz.prog.info? 131).map (fun i=>(i.zero,i.size,i.bytes))=some (some (.agg #[.int .u8 0,.int .i64 0,.int .i64 0]),3,24):=by kernel_rfl
structure MkR (S:Nat→Prop) (w:World) (gm gg gp bm:Nat) (vl:Value) (loops:Nat) (code:List Ins):Prop where
 row:Row w gm 126 [.pointer (some ⟨gg,0,none⟩),vl]
 prog:Row w gg 76 [.pointer (some ⟨gp,0,none⟩),.map (some bm),.int .i64 loops]
 l:Sl S w 131 3 vl code.length (code.flatMap encStep)
 sm:S gm
 sg:S gg
section
variable {S:Nat→Prop} {w:World} {gm gg gp bm loops:Nat} {vl:Value} {code:List Ins}
set_option maxRecDepth 100000 in
set_option maxHeartbeats 1000000 in
theorem put_any (h:MkR S w gm gg gp bm vl loops code) (hS:Up S w) (hn:code.length≤1000000) (i:Ins):
  Calls Tryz.prog 47 #[.pointer (some ⟨gm,0,none⟩),.agg (encStep i).toArray] w fun e w'=>
   e= .returned (.int .i64 code.length)∧Kept S w w'∧∃vl,MkR S w' gm gg gp bm vl loops (code++[i]):=by
 have c1:=h.row.cell 1
 have hgm:=h.row.lt
 have f:=fun j=>h.row.frozen j
 simp at c1
 obtain⟨i0,hi0,hz0,hz1,hz2⟩:=info_parts infoStep
 obtain⟨av,cv,rfl⟩:=h.l.shape
 have W1:=h.l.alloc (.cells (encStep i).toArray 131)
 have H:=Lib.hid h
 have HS:=Lib.hid hS
 have HW1:=Lib.hid W1
 have hne:¬gm=w.heap.size:=by omega
 have q3:∀u∈encStep i,u.oneCell'=true:=by intro u hu;simp[encStep]at hu;rcases hu with rfl|rfl|rfl<;>rfl
 have Q3:=Lib.hid q3
 have q4:code.length+1≤maxLen:=by unfold maxLen;omega
 have q5:(code.length+1)*24≤140737488355328:=by omega
 clear h hS W1 q3
 unfold encStep at*
 go_enter Tryz.func47,Tryz.ntmps47
 go_wp2_with fail
 have b0:(w.alloc (.cells #[.int .u8 i.op,.int .i64 i.a,.int .i64 i.b] 131)).cell? ⟨w.heap.size,0,none⟩=some (.int .u8 i.op):=by simp
 have b1:(w.alloc (.cells #[.int .u8 i.op,.int .i64 i.a,.int .i64 i.b] 131)).cell? ⟨w.heap.size,1,none⟩=some (.int .i64 i.a):=by simp
 have b2:(w.alloc (.cells #[.int .u8 i.op,.int .i64 i.a,.int .i64 i.b] 131)).cell? ⟨w.heap.size,2,none⟩=some (.int .i64 i.b):=by simp
 have b3:=(H.out.row.alloc (.cells #[.int .u8 i.op,.int .i64 i.a,.int .i64 i.b] 131)).cell 1
 simp only[List.getElem?_cons_succ,List.getElem?_cons_zero]at b3
 have r1:=H.out.row.alloc (.cells #[.int .u8 i.op,.int .i64 i.a,.int .i64 i.b] 131)
 have r2:=H.out.prog.alloc (.cells #[.int .u8 i.op,.int .i64 i.a,.int .i64 i.b] 131)
 have hsz:(w.alloc (.cells #[.int .u8 i.op,.int .i64 i.a,.int .i64 i.b] 131)).heap.size=w.heap.size+1:=by simp
 have kw:Kept S w (w.alloc (.cells #[.int .u8 i.op,.int .i64 i.a,.int .i64 i.b] 131)):=(Kept.refl S w).alloc (HS.out _ (Nat.le_refl _)) _
 have f1:=fun j=>r1.frozen j
 have hlt:∀b,(Value.slice av code.length cv).ownBlock=some b→b<w.heap.size:=fun b hb=>H.out.l.lt hb
 generalize hw1:w.alloc (.cells #[.int .u8 i.op,.int .i64 i.a,.int .i64 i.b] 131)=w1 at*
 have p0:∀b,b=gm∨b=gg∨b=w.heap.size→¬((Value.slice av code.length cv).ownBlock=some b∨((w1.alloc (.cells #[.int .u8 i.op,.int .i64 i.a,.int .i64 i.b] 131)).drew).heap.size≤b):=by
  intro b hb
  have hggl:=H.out.prog.lt
  have e:((w1.alloc (.cells #[.int .u8 i.op,.int .i64 i.a,.int .i64 i.b] 131)).drew).heap.size=w1.heap.size+1:=by simp
  rw[e]
  rintro(h0|h0)
  ·rcases hb with rfl|rfl|rfl
   ·exact H.out.l.ne_row H.out.row (by decide) h0
   ·exact H.out.l.ne_row H.out.prog (by decide) h0
   ·have:=hlt _ h0;omega
  ·rcases hb with rfl|rfl|rfl<;>omega
 have s1:=(HW1.out.alloc (.cells #[.int .u8 i.op,.int .i64 i.a,.int .i64 i.b] 131)).of_heap (w':=(w1.alloc (.cells #[.int .u8 i.op,.int .i64 i.a,.int .i64 i.b] 131)).drew) rfl
 have fz1:(w1.alloc (.cells #[.int .u8 i.op,.int .i64 i.a,.int .i64 i.b] 131)).drew.frozen? ⟨gm,1,none⟩=false:=(r1.alloc _).frozen 1
 have b4:(w1.alloc (.cells #[.int .u8 i.op,.int .i64 i.a,.int .i64 i.b] 131)).drew.cell? ⟨gm,1,none⟩=some (.slice av code.length cv):=(r1.alloc _).cell 1
 have S1:=Lib.hid s1
 have P0:=Lib.hid p0
 have R1:=Lib.hid r1
 have R2:=Lib.hid r2
 have hwn:S ((w1.alloc (.cells #[.int .u8 i.op,.int .i64 i.a,.int .i64 i.b] 131)).drew).heap.size:=HS.out _ (by simp;omega)
 have HWN:=Lib.hid hwn
 have q2:=cells_new w1 [.int .u8 i.op,.int .i64 i.a,.int .i64 i.b] 131
 have Q2:=Lib.hid q2
 have HL:=Lib.hid hlt
 have KW:=Lib.hid kw
 have HSZ:=Lib.hid hsz
 clear hsz s1 p0 r1 r2 hwn q2 hlt kw hw1
 have hfin:∀(g2 cap2:Nat) (w2:World),Sl S w2 131 3 (.slice (some ⟨g2,0,none⟩) (code.length+1) cap2) (code.length+1) (code.flatMap encStep++encStep i)→
   Kept (fun b=>(Value.slice av code.length cv).ownBlock=some b∨((w1.alloc (.cells #[.int .u8 i.op,.int .i64 i.a,.int .i64 i.b] 131)).drew).heap.size≤b) ((w1.alloc (.cells #[.int .u8 i.op,.int .i64 i.a,.int .i64 i.b] 131)).drew) w2→
   Kept S w (w2.setCell ⟨gm,1,none⟩ (.slice (some ⟨g2,0,none⟩) (code.length+1) cap2))∧MkR S (w2.setCell ⟨gm,1,none⟩ (.slice (some ⟨g2,0,none⟩) (code.length+1) cap2)) gm gg gp bm (.slice (some ⟨g2,0,none⟩) (code.length+1) cap2) loops (code++[i]):=by
  intro g2 cap2 w2 hs2 hk2
  have hS':Up S w1:=HS.out.kept KW.out
  have k1:Kept S w ((w1.alloc (.cells #[.int .u8 i.op,.int .i64 i.a,.int .i64 i.b] 131)).drew):=(KW.out.alloc (hS' _ (Nat.le_refl _)) _).drew
  have k2:Kept S w w2:=k1.trans (hk2.mono (fun b hb=>by
   rcases hb with hb|hb
   ·exact H.out.l.2 b hb
   ·exact hS' b (Nat.le_trans (by simp) hb)))
  have rm:=((R1.out.alloc (.cells #[.int .u8 i.op,.int .i64 i.a,.int .i64 i.b] 131)).drew).kept hk2 (P0.out gm (.inl rfl))
  have rg:=((R2.out.alloc (.cells #[.int .u8 i.op,.int .i64 i.a,.int .i64 i.b] 131)).drew).kept hk2 (P0.out gg (.inr (.inl rfl)))
  have hk3:Kept (fun b=>b=gm) w2 (w2.setCell ⟨gm,1,none⟩ (.slice (some ⟨g2,0,none⟩) (code.length+1) cap2)):=Kept.one w2 ⟨gm,1,none⟩ _
  have el:(code++[i]).length=code.length+1:=by simp
  have ex:(code++[i]).flatMap encStep=code.flatMap encStep++encStep i:=by simp
  refine⟨k2.setCell (p:=⟨gm,1,none⟩) H.out.sm _,rm.set_ 1 _,rg.kept hk3 (fun e=>rg.ne_ rm (by decide) e),?_,H.out.sm,H.out.sg⟩
  rw[el,ex]
  exact hs2.kept hk3 (fun b hb e=>hs2.ne_row rm (by decide) (e▸hb))
 have HF:=Lib.hid hfin
 clear hfin
 go_region_law (first
  |(refine step_append1 Tryz.underlying124 hi0 hz0 hz1 hz2 rfl (by decide) S1.out HWN.out rfl _ _ (by rfl) (by rfl) ⟨w1.heap.size,0,none⟩ 1 1 [.int .u8 i.op,.int .i64 i.a,.int .i64 i.b] (by rfl) (by rfl) Q2.out Q3.out q4 q5 (by omega) ?_;intro g2 cap2 w2 hs2 hk2 hloc;have e1:=(hk2.cell (p:=⟨gm,1,none⟩) (P0.out _ (.inl rfl))).trans b4;have e2:=(hk2.frozen (p:=⟨gm,1,none⟩) (P0.out _ (.inl rfl))).trans fz1;have Hs2:=Lib.hid hs2;have Hk2:=Lib.hid hk2;clear hs2 hk2 hloc))
 all_goals
  go_wp2
  go_ret
  have hf:=HF.out g2 cap2 w2 Hs2.out Hk2.out
  exact⟨rfl,hf.1,_,hf.2⟩
end
end Go.Proofs.YtepoejiigmhlbaaGreatDoor.Ev
namespace Go.Proofs.YtepoejiigmhlbaaGreatDoor.Ev
open Go Go.RowKit
def rdCells (s:Bytes) (st:PS) (gp:Nat) (wp:Value):List Value:=
 [vs s,.int .i64 st.i,vs st.t.kind,vs st.t.text,.int .i64 st.t.pos,.pointer (some ⟨gp,0,none⟩),.bool st.fseen,.int .i64 st.depth,.int .i64 st.loops,wp]
theorem skip_le (p:UInt8→Bool) (s:Bytes) (i:Nat) (h:i≤s.length):i≤skip p s i∧skip p s i≤s.length:=by
 unfold skip
 have h1:=List.takeWhile_sublist (p:=p) (l:=s.drop i)
 have h2:=h1.length_le
 rw[List.length_drop]at h2
 omega
theorem skip_step (p:UInt8→Bool) (s:Bytes) (i:Nat) (c:UInt8) (h:s[i]?=some c):skip p s i=if p c then skip p s (i+1)else i:=by
 obtain⟨hi,hc⟩:=List.getElem?_eq_some_iff.1 h
 unfold skip
 rw[List.drop_eq_getElem_cons hi,hc]
 by_cases hp:p c
 ·simp[hp];omega
 ·simp only[Bool.not_eq_true]at hp
  simp[hp]
theorem skip_end (p:UInt8→Bool) (s:Bytes) (i:Nat) (h:s[i]?=none):skip p s i=i:=by
 unfold skip
 have:s.length≤i:=by simpa using h
 rw[List.drop_eq_nil_of_le this]
 simp
theorem size_vs (s:Bytes):(ByteArray.mk s.toArray).size=s.length:=List.size_toArray
end Go.Proofs.YtepoejiigmhlbaaGreatDoor.Ev
namespace Go.Proofs.YtepoejiigmhlbaaGreatDoor.Ev
open Go Go.RowKit
def encDecl (d:Decl):List Value:=[.int .i64 d.kind,vs d.name,.int .i64 d.max]
def errGlobal (k:Nat):Nat:=
 if k=1 then 0 else if k=2 then 7 else if k=3 then 8 else if k=4 then 4 else if k=5 then 9 else if k=6 then 10
 else if k=7 then 11 else if k=8 then 6 else if k=9 then 5 else if k=10 then 1 else if k=11 then 12 else 13
def errV (ea:Nat→Addr) (k:Nat):Value:=.iface 307 (.pointer (some (ea k)))
structure Env (B:Nat) (ea:Nat→Addr) (w:World):Prop where
 size:B≤w.heap.size
 err:∀k,1≤k→k≤12→w.cell? ⟨errGlobal k,0,none⟩=some (errV ea k)
 lt:∀k,1≤k→k≤12→errGlobal k<B
 kw:∀j,j<24→w.cell? ⟨3,j,none⟩=some (vs (keywords.getD j []))
 kwlt:3<B
def WrongR (B:Nat) (ea:Nat→Addr) (w:World) (wp:Value):Option (Nat×Nat)→Prop
 |none=>wp= .pointer none
 |some (k,pos)=>∃gf,wp= .pointer (some ⟨gf,0,none⟩)∧B≤gf∧Row w gf 59 [errV ea k,.int .i64 pos]
def RulesR (N:Nat→Prop) (w:World) (bm:Nat) (rules:List (Int×Blk)):Prop:=
 ∃M:IMap,IsMap w bm .i64 M∧M.map (·.1)=rules.map (·.1)∧∀(i:Nat) (x:Int×Value) (y:Int×Blk),M[i]?=some x→rules[i]?=some y→BlkV N w x.2 y.2
structure PolR (B:Nat) (w:World) (gp bm:Nat) (vd:Value) (p:Policy):Prop where
 row:Row w gp 63 [vd,.int .i64 p.freq,.map (some bm)]
 decls:Sl (fun b=>B≤b) w 83 3 vd p.decls.length (p.decls.flatMap encDecl)
 rules:RulesR (fun b=>B≤b) w bm p.rules
 gp0:B≤gp
 bm0:B≤bm
def ruleCode (c:Nat) (b:Blk):List Ins:=comp c 0 b++[.fin]
def RuleC (S:Nat→Prop) (w:World) (rules:List (Int×Blk)) (loops:Nat) (k:Int) (v:Value):Prop:=
 ∃b c,ruleOf rules k=some b∧Sl S w 131 3 v (ruleCode c b).length ((ruleCode c b).flatMap encStep)∧c+b.loops≤loops
structure CodeR (S:Nat→Prop) (w:World) (gg gp bc loops:Nat) (rules:List (Int×Blk)):Prop where
 row:Row w gg 76 [.pointer (some ⟨gp,0,none⟩),.map (some bc),.int .i64 loops]
 map:∃M:IMap,IsMap w bc .i64 M∧∀k,match ruleOf rules k with
  |some _=>∃v,mget M k=some v∧RuleC S w rules loops k v
  |none=>mget M k=none
 lo:loops≤490000
 sg:S gg
 sm:S bc
end Go.Proofs.YtepoejiigmhlbaaGreatDoor.Ev
namespace Go.Proofs.YtepoejiigmhlbaaGreatDoor.Ev
def Dll (nd:Nat→Node):Nat→List Nat→Nat→Prop
 |_,[],_=>True
 |p,x::r,s=>(nd x).prev=p∧(nd x).next=r.headD s∧Dll nd x r s
theorem Dll.congr {nd nd':Nat→Node}:∀{l:List Nat} {p s:Nat},(∀m∈l,(nd' m).prev=(nd m).prev∧(nd' m).next=(nd m).next)→Dll nd p l s→Dll nd' p l s
 | [],_,_,_,_=>trivial
 |x::r,p,s,h,⟨a,b,c⟩=>⟨(h x (by simp)).1.trans a,(h x (by simp)).2.trans b,Dll.congr (fun m hm=>h m (by simp[hm])) c⟩
theorem headD_append (a b:List Nat) (s:Nat):(a++b).headD s=a.headD (b.headD s):=by cases a<;>simp
theorem getLastD_cons2 (x:Nat) (r:List Nat) (p:Nat):(x::r).getLastD p=r.getLastD x:=by
 cases r with
 |nil=>rfl
 |cons y r=>rfl
theorem Dll.append {nd:Nat→Node}:∀{a b:List Nat} {p s:Nat},Dll nd p (a++b) s↔Dll nd p a (b.headD s)∧Dll nd (a.getLastD p) b s
 | [],b,p,s=>by simp[Dll]
 |x::r,b,p,s=>by
  rw[getLastD_cons2]
  simp only[List.cons_append,Dll,headD_append,Dll.append (a:=r) (b:=b),and_assoc]
theorem Dll.setLast {nd nd':Nat→Node} {a s s':Nat}:∀{l:List Nat} {p:Nat},(∀m,m≠a→nd' m=nd m)→(nd' a).prev=(nd a).prev→(nd' a).next=s'→(l++[a]).Nodup→
  Dll nd p (l++[a]) s→Dll nd' p (l++[a]) s'
 | [],p,h1,h2,h3,_,⟨x,_,_⟩=>⟨h2.trans x,h3,trivial⟩
 |x::r,p,h1,h2,h3,hn,h=>by
  have hx:x≠a:=by
   rintro rfl
   simp at hn
  obtain⟨y1,y2,y3⟩:=h
  have hn':(r++[a]).Nodup:=(List.nodup_cons.1 hn).2
  have e:(r++[a]).headD s'=(r++[a]).headD s:=by cases r<;>simp
  exact⟨by rw[h1 x hx];exact y1,by rw[h1 x hx];exact y2.trans e.symm,Dll.setLast h1 h2 h3 hn' y3⟩
theorem Dll.setHead {nd nd':Nat→Node} {b p p' s:Nat} {r:List Nat} (h1:∀m,m≠b→nd' m=nd m) (h2:(nd' b).prev=p') (h3:(nd' b).next=(nd b).next) (hn:b∉r) (h:Dll nd p (b::r) s):Dll nd' p' (b::r) s:=by
 obtain⟨_,y2,y3⟩:=h
 exact⟨h2,h3.trans y2,Dll.congr (fun m hm=>by rw[h1 m (fun e=>hn (e▸hm))];exact⟨rfl,rfl⟩) y3⟩
section
variable {A:Arena}
theorem node_set {a:Nat} (h:a<A.l.length) (x:Node) (m:Nat):(A.setNode a x).node m=if m=a then x else A.node m:=by
 unfold Arena.setNode Arena.node
 simp only[List.getElem?_set]
 by_cases e:m=a
 ·subst e;simp[h]
 ·rw[if_neg (fun h=>e h.symm),if_neg e]
theorem ends_set {a:Nat} (h:a<A.qs.length) (x:Ends) (m:Nat):(A.setEnds a x).ends m=if m=a then x else A.ends m:=by
 unfold Arena.setEnds Arena.ends
 simp only[List.getElem?_set]
 by_cases e:m=a
 ·subst e;simp[h]
 ·rw[if_neg (fun h=>e h.symm),if_neg e]
theorem setNode_l (a:Nat) (x:Node):(A.setNode a x).l.length=A.l.length:=by simp[Arena.setNode]
theorem setEnds_q (a:Nat) (x:Ends):(A.setEnds a x).qs.length=A.qs.length:=by simp[Arena.setEnds]
structure Arena.Bd (A:Arena):Prop where
 node:∀(n:Nat) (x:Node),A.l[n]?=some x→x.prev<A.l.length∧x.next<A.l.length∧x.q≤A.qs.length∧0≤x.freq∧x.freq≤1000
 ends:∀(q:Nat) (x:Ends),A.qs[q]?=some x→x.head<A.l.length∧x.tail<A.l.length∧x.n≤1000000
theorem Arena.Bd.at_ (h:A.Bd) {n:Nat} (hn:n<A.l.length):(A.node n).prev<A.l.length∧(A.node n).next<A.l.length∧(A.node n).q≤A.qs.length∧0≤(A.node n).freq∧(A.node n).freq≤1000:=
 h.node n _ (by unfold Arena.node;rw[List.getElem?_eq_getElem hn];rfl)
theorem Arena.Bd.of_q (h:A.Bd) {n:Nat} (hn:n<A.qs.length):(A.ends n).head<A.l.length∧(A.ends n).tail<A.l.length∧(A.ends n).n≤1000000:=
 h.ends n _ (by unfold Arena.ends;rw[List.getElem?_eq_getElem hn];rfl)
theorem Arena.Bd.setNode (h:A.Bd) (a:Nat) (x:Node) (hx:x.prev<A.l.length∧x.next<A.l.length∧x.q≤A.qs.length∧0≤x.freq∧x.freq≤1000):(A.setNode a x).Bd:=by
 refine⟨fun n y hy=>?_,fun q y hy=>?_⟩
 ·rw[setNode_l]
  have hy':(A.l.set a x)[n]?=some y:=hy
  rw[List.getElem?_set]at hy'
  split at hy'
  ·split at hy'
   ·injection hy' with hy';subst hy';exact hx
   ·cases hy'
  ·exact h.node n y hy'
 ·rw[setNode_l]
  exact h.ends q y hy
theorem Arena.Bd.setEnds (h:A.Bd) (a:Nat) (x:Ends) (hx:x.head<A.l.length∧x.tail<A.l.length∧x.n≤1000000):(A.setEnds a x).Bd:=by
 refine⟨fun n y hy=>?_,fun q y hy=>?_⟩
 ·rw[setEnds_q];exact h.node n y hy
 ·have hy':(A.qs.set a x)[q]?=some y:=hy
  rw[List.getElem?_set]at hy'
  split at hy'
  ·split at hy'
   ·injection hy' with hy';subst hy';exact hx
   ·cases hy'
  ·exact h.ends q y hy'
structure Like (A A':Arena):Prop where
 l:A'.l.length=A.l.length
 q:A'.qs.length=A.qs.length
 free:A'.free=A.free
 at_:A'.at_=A.at_
 node:∀m,(A'.node m).key=(A.node m).key∧(A'.node m).freq=(A.node m).freq∧(A'.node m).q=(A.node m).q
theorem Like.trans {A B C:Arena} (h:Like A B) (k:Like B C):Like A C:=
 ⟨k.l.trans h.l,k.q.trans h.q,k.free.trans h.free,k.at_.trans h.at_,fun m=>⟨(k.node m).1.trans (h.node m).1,(k.node m).2.1.trans (h.node m).2.1,(k.node m).2.2.trans (h.node m).2.2⟩⟩
theorem Like.setEnds (A:Arena) (a:Nat) (x:Ends):Like A (A.setEnds a x):=⟨rfl,setEnds_q _ _,rfl,rfl,fun _=>⟨rfl,rfl,rfl⟩⟩
theorem Like.setNode {a:Nat} (h:a<A.l.length) (x:Node) (hx:x.key=(A.node a).key∧x.freq=(A.node a).freq∧x.q=(A.node a).q):Like A (A.setNode a x):=
 ⟨setNode_l _ _,rfl,rfl,rfl,fun m=>by
  rw[node_set h]
  split
  ·rename_i e;subst e;exact hx
  ·exact⟨rfl,rfl,rfl⟩⟩
theorem last_zero {l:List Nat} (h0:∀m∈l,m≠0) (h:l.getLastD 0=0):l=[]:=by
 rcases List.eq_nil_or_concat l with h1|⟨l0,a,h1⟩
 ·exact h1
 ·rw[List.concat_eq_append]at h1
  rw[h1]at h
  simp at h
  exact absurd h (h0 a (by rw[h1];simp))
theorem head_zero {l:List Nat} (h0:∀m∈l,m≠0) (h:l.headD 0=0):l=[]:=by
 cases l with
 |nil=>rfl
 |cons x r=>exact absurd h (h0 x (by simp))
structure Unlinked (A A':Arena) (k:Nat) (l1 l2:List Nat):Prop where
 like:Like A A'
 bd:A'.Bd
 dll:Dll A'.node 0 (l1++l2) 0
 head:(A'.ends k).head=(l1++l2).headD 0
 tail:(A'.ends k).tail=(l1++l2).getLastD 0
 n:(A'.ends k).n=(A.ends k).n-1
 others:∀m,m≠k→A'.ends m=A.ends m
 far:∀m,m∉l1++l2→A'.node m=A.node m
theorem unlinked (hb:A.Bd) {k n:Nat} {l1 l2:List Nat} (hk:k<A.qs.length) (hm:∀m∈l1++n::l2,m≠0∧m<A.l.length) (hq:(A.node n).q=k) (hd:Dll A.node 0 (l1++n::l2) 0) (hn:(l1++n::l2).Nodup)
  (hh:(A.ends k).head=(l1++n::l2).headD 0) (ht:(A.ends k).tail=(l1++n::l2).getLastD 0):Unlinked A (A.unlink n) k l1 l2:=by
 obtain⟨d1,d2⟩:=Dll.append.1 hd
 obtain⟨e1,e2,d3⟩:=d2
 have hkq:(A.node n).q.toNat=k:=by omega
 have hl1:∀m∈l1,m≠0∧m<A.l.length:=fun m h=>hm m (by simp[h])
 have hl2:∀m∈l2,m≠0∧m<A.l.length:=fun m h=>hm m (by simp[h])
 have hnn:=hm n (by simp)
 have hnod:=List.nodup_append.1 hn
 have hn2:n∉l2∧l2.Nodup:=List.nodup_cons.1 hnod.2.1
 have hn1:n∉l1:=fun h=>hnod.2.2 n h n (by simp) rfl
 have h12:∀m,m∈l1→m∉l2:=fun m h1 h2=>hnod.2.2 m h1 m (by simp[h2]) rfl
 have hnb:=hb.at_ hnn.2
 have s1:Like A (A.unlink1 (A.node n))∧(A.unlink1 (A.node n)).Bd∧Dll (A.unlink1 (A.node n)).node 0 l1 (l2.headD 0)∧Dll (A.unlink1 (A.node n)).node n l2 0∧
   ((A.unlink1 (A.node n)).ends k).head=(l1++l2).headD 0∧((A.unlink1 (A.node n)).ends k).tail=(A.ends k).tail∧((A.unlink1 (A.node n)).ends k).n=(A.ends k).n∧
   (∀m,m≠k→(A.unlink1 (A.node n)).ends m=A.ends m)∧(∀m,m∉l1→(A.unlink1 (A.node n)).node m=A.node m):=by
  unfold Arena.unlink1
  by_cases hp:(A.node n).prev=0
  ·rw[if_pos hp,hkq]
   have hl:l1=[]:=last_zero (fun m h=>(hl1 m h).1) (e1.symm.trans hp)
   subst hl
   have eb:=hb.of_q hk
   refine⟨Like.setEnds _ _ _,hb.setEnds _ _ ⟨hnb.2.1,eb.2.1,eb.2.2⟩,trivial,d3,?_,?_,?_,?_,fun _ _=>rfl⟩
   ·rw[ends_set hk,if_pos rfl];exact e2
   ·rw[ends_set hk,if_pos rfl]
   ·rw[ends_set hk,if_pos rfl]
   ·intro m hmk;rw[ends_set hk,if_neg hmk]
  ·rw[if_neg hp]
   obtain⟨l0,a,hl⟩:∃l0 a,l1=l0++[a]:=by
    rcases List.eq_nil_or_concat l1 with h1|⟨l0,a,h1⟩
    ·rw[h1]at e1;exact absurd e1 hp
    ·exact⟨l0,a,by rw[h1,List.concat_eq_append]⟩
   have ha:(A.node n).prev=a:=by rw[e1,hl];simp
   have hal:a∈l1:=by rw[hl];simp
   have ha2:=hl1 a hal
   have hab:=hb.at_ ha2.2
   rw[ha]
   refine⟨Like.setNode ha2.2 _ ⟨rfl,rfl,rfl⟩,hb.setNode _ _ ⟨hab.1,hnb.2.1,hab.2.2⟩,?_,?_,?_,rfl,rfl,fun _ _=>rfl,?_⟩
   ·rw[hl]at d1 ⊢
    refine Dll.setLast (nd:=A.node) (fun m hm=>by rw[node_set ha2.2,if_neg hm]) ?_ ?_ ?_ d1
    ·rw[node_set ha2.2,if_pos rfl]
    ·rw[node_set ha2.2,if_pos rfl];exact e2
    ·rw[←hl];exact hnod.1
   ·exact Dll.congr (fun m hm=>by rw[node_set ha2.2,if_neg (fun(e:m=a)=>h12 a hal (e▸hm))];exact⟨rfl,rfl⟩) d3
   ·show(A.ends k).head=_
    rw[hh,hl]
    simp[headD_append]
   ·intro m hm
    rw[node_set ha2.2,if_neg (fun(e:m=a)=>hm (e▸hal))]
 obtain⟨k1,b1,f1,f2,f3,f4,f5,f6,f7⟩:=s1
 have hx:A.unlink n=((A.unlink1 (A.node n)).unlink2 (A.node n)).unlink3 (A.node n):=rfl
 rw[hx]
 generalize A.unlink1 (A.node n)=B at*
 have hkB:k<B.qs.length:=by rw[k1.q];exact hk
 have s2:Like B (B.unlink2 (A.node n))∧(B.unlink2 (A.node n)).Bd∧Dll (B.unlink2 (A.node n)).node 0 l1 (l2.headD 0)∧Dll (B.unlink2 (A.node n)).node (l1.getLastD 0) l2 0∧
   ((B.unlink2 (A.node n)).ends k).head=(l1++l2).headD 0∧((B.unlink2 (A.node n)).ends k).tail=(l1++l2).getLastD 0∧((B.unlink2 (A.node n)).ends k).n=(A.ends k).n∧
   (∀m,m≠k→(B.unlink2 (A.node n)).ends m=A.ends m)∧(∀m,m∉l1++l2→(B.unlink2 (A.node n)).node m=A.node m):=by
  have hnb':(A.node n).prev<B.l.length:=by rw[k1.l];exact hnb.1
  unfold Arena.unlink2
  by_cases hp:(A.node n).next=0
  ·rw[if_pos hp,hkq]
   have hl:l2=[]:=head_zero (fun m h=>(hl2 m h).1) (e2.symm.trans hp)
   subst hl
   have eb:=b1.of_q hkB
   refine⟨Like.setEnds _ _ _,b1.setEnds _ _ ⟨eb.1,hnb',eb.2.2⟩,f1,trivial,?_,?_,?_,?_,fun m hm=>f7 m (by simpa using hm)⟩
   ·rw[ends_set hkB,if_pos rfl];exact f3
   ·rw[ends_set hkB,if_pos rfl]
    simpa using e1
   ·rw[ends_set hkB,if_pos rfl];exact f5
   ·intro m hmk;rw[ends_set hkB,if_neg hmk];exact f6 m hmk
  ·rw[if_neg hp]
   obtain⟨b,l3,hl⟩:∃b l3,l2=b::l3:=by
    cases l2 with
    |nil=>exact absurd e2 hp
    |cons b l3=>exact⟨b,l3,rfl⟩
   have ha:(A.node n).next=b:=by rw[e2,hl];rfl
   have hal:b∈l2:=by rw[hl];simp
   have hb2:=hl2 b hal
   have hb2':b<B.l.length:=by rw[k1.l];exact hb2.2
   have hab:=b1.at_ hb2'
   rw[ha]
   refine⟨Like.setNode hb2' _ ⟨rfl,rfl,rfl⟩,b1.setNode _ _ ⟨hnb',hab.2⟩,?_,?_,f3,?_,f5,f6,?_⟩
   ·exact Dll.congr (fun m hm=>by rw[node_set hb2',if_neg (fun(e:m=b)=>h12 m hm (e▸hal))];exact⟨rfl,rfl⟩) f1
   ·rw[hl]at f2 ⊢
    refine Dll.setHead (nd:=B.node) (fun m hm=>by rw[node_set hb2',if_neg hm]) ?_ ?_ ?_ f2
    ·rw[node_set hb2',if_pos rfl];exact e1
    ·rw[node_set hb2',if_pos rfl]
    ·rw[hl]at hn2;exact(List.nodup_cons.1 hn2.2).1
   ·show(B.ends k).tail=_
    rw[f4,ht,hl]
    have:(l1++n::b::l3)=(l1++[n])++(b::l3):=by simp
    rw[this,List.getLastD_eq_getLast?,List.getLastD_eq_getLast?]
    simp[List.getLast?_append]
   ·intro m hm
    have hm':m∉l1∧m∉l2:=by simpa using hm
    rw[node_set hb2',if_neg (fun(e:m=b)=>hm'.2 (e▸hal))]
    exact f7 m hm'.1
 obtain⟨k2,b2,g1,g2,g3,g4,g5,g6,g7⟩:=s2
 generalize B.unlink2 (A.node n)=C at*
 have hkC:k<C.qs.length:=by rw[k2.q];exact hkB
 have eb:=b2.of_q hkC
 unfold Arena.unlink3
 rw[hkq]
 refine⟨(k1.trans k2).trans (Like.setEnds _ _ _),b2.setEnds _ _ ⟨eb.1,eb.2.1,by show(C.ends k).n-1≤_;omega⟩,Dll.append.2 ⟨g1,g2⟩,?_,?_,?_,?_,g7⟩
 ·rw[ends_set hkC,if_pos rfl];exact g3
 ·rw[ends_set hkC,if_pos rfl];exact g4
 ·rw[ends_set hkC,if_pos rfl];show(C.ends k).n-1=_;rw[g5]
 ·intro m hmk;rw[ends_set hkC,if_neg hmk];exact g6 m hmk
structure Linked (A A':Arena) (n k:Nat) (l:List Nat):Prop where
 len:A'.l.length=A.l.length
 q:A'.qs.length=A.qs.length
 free:A'.free=A.free
 at_:A'.at_=A.at_
 node:∀m,(A'.node m).key=(A.node m).key∧(A'.node m).freq=(A.node m).freq∧(A'.node m).q=if m=n then(k:Int)else(A.node m).q
 bd:A'.Bd
 dll:Dll A'.node 0 l 0
 head:(A'.ends k).head=l.headD 0
 tail:(A'.ends k).tail=l.getLastD 0
 n:(A'.ends k).n=(A.ends k).n+1
 others:∀m,m≠k→A'.ends m=A.ends m
 far:∀m,m∉l→A'.node m=A.node m
theorem linked (hb:A.Bd) {k n:Nat} {l:List Nat} (tl:Bool) (hk:k<A.qs.length) (hm:∀m∈l,m≠0∧m<A.l.length) (hn:n≠0∧n<A.l.length) (hnl:n∉l) (hd:Dll A.node 0 l 0) (hnd:l.Nodup)
  (hh:(A.ends k).head=l.headD 0) (ht:(A.ends k).tail=l.getLastD 0) (h1000:(A.ends k).n+1≤1000000):Linked A (A.link n k tl) n k (if tl then l++[n]else n::l):=by
 have eb:=hb.of_q hk
 have nb:=hb.at_ hn.2
 have k0:∀m,((A.setNode n (linkNode A n k tl)).node m).key=(A.node m).key∧((A.setNode n (linkNode A n k tl)).node m).freq=(A.node m).freq∧((A.setNode n (linkNode A n k tl)).node m).q=if m=n then(k:Int)else(A.node m).q:=by
  intro m
  rw[node_set hn.2]
  split
  ·rename_i e;subst e;exact⟨rfl,rfl,rfl⟩
  ·exact⟨rfl,rfl,rfl⟩
 have b0:(A.setNode n (linkNode A n k tl)).Bd:=by
  refine hb.setNode _ _ ⟨?_,?_,?_,nb.2.2.2⟩
  ·unfold linkNode;cases tl<;>simp<;>omega
  ·unfold linkNode;cases tl<;>simp<;>omega
  ·show(k:Int)≤_;omega
 have d0:Dll (A.setNode n (linkNode A n k tl)).node 0 l 0:=Dll.congr (fun m hm=>by rw[node_set hn.2,if_neg (fun(e:m=n)=>hnl (e▸hm))];exact⟨rfl,rfl⟩) hd
 have n0:(A.setNode n (linkNode A n k tl)).node n=linkNode A n k tl:=by rw[node_set hn.2,if_pos rfl]
 have l0:(A.setNode n (linkNode A n k tl)).l.length=A.l.length:=setNode_l _ _
 have far0:∀m,m≠n→(A.setNode n (linkNode A n k tl)).node m=A.node m:=fun m hm=>by rw[node_set hn.2,if_neg hm]
 have hx:A.link n k tl=(((A.setNode n (linkNode A n k tl)).link1 n k (linkNode A n k tl)).link2 n k (linkNode A n k tl)).link3 k:=rfl
 rw[hx]
 have q0:(A.setNode n (linkNode A n k tl)).qs.length=A.qs.length:=rfl
 have fr0:(A.setNode n (linkNode A n k tl)).free=A.free:=rfl
 have at0:(A.setNode n (linkNode A n k tl)).at_=A.at_:=rfl
 have en0:∀m,(A.setNode n (linkNode A n k tl)).ends m=A.ends m:=fun _=>rfl
 have xp:(linkNode A n k tl).prev=if tl then l.getLastD 0 else 0:=by unfold linkNode;simp[ht]
 have xn:(linkNode A n k tl).next=if tl then 0 else l.headD 0:=by unfold linkNode;simp[hh]
 generalize A.setNode n (linkNode A n k tl)=B at*
 generalize linkNode A n k tl=x at*
 have hkB:k<B.qs.length:=by omega
 have hnB:n<B.l.length:=by omega
 suffices H:∀C:Arena,C=(B.link1 n k x).link2 n k x→Like B C∧C.Bd∧Dll C.node 0 (if tl then l++[n]else n::l) 0∧(C.ends k).head=(if tl then l++[n]else n::l).headD 0∧(C.ends k).tail=(if tl then l++[n]else n::l).getLastD 0∧
   (C.ends k).n=(B.ends k).n∧(∀m,m≠k→C.ends m=B.ends m)∧(∀m,m∉n::l→C.node m=B.node m) by
  obtain⟨c1,c2,c3,c4,c5,c6,c7,c8⟩:=H _ rfl
  generalize (B.link1 n k x).link2 n k x=C at*
  have hkC:k<C.qs.length:=by rw[c1.q];exact hkB
  have ec:=c2.of_q hkC
  unfold Arena.link3
  refine⟨c1.l.trans l0,(setEnds_q _ _).trans (c1.q.trans q0),c1.free.trans fr0,c1.at_.trans at0,?_,c2.setEnds _ _ ⟨ec.1,ec.2.1,by show(C.ends k).n+1≤_;rw[c6,en0];exact h1000⟩,c3,?_,?_,?_,?_,?_⟩
  ·intro m
   have h1:=c1.node m
   have h2:=k0 m
   exact⟨h1.1.trans h2.1,h1.2.1.trans h2.2.1,h1.2.2.trans h2.2.2⟩
  ·rw[ends_set hkC,if_pos rfl];exact c4
  ·rw[ends_set hkC,if_pos rfl];exact c5
  ·rw[ends_set hkC,if_pos rfl];show(C.ends k).n+1=_;rw[c6,en0]
  ·intro m hmk;rw[ends_set hkC,if_neg hmk,c7 m hmk,en0]
  ·intro m hml
   have hml':m∉n::l:=by
    intro h;apply hml
    cases tl with
    |false=>exact h
    |true=>rcases List.mem_cons.1 h with h|h<;>simp[h]
   show C.node m=_
   rw[c8 m hml',far0 m (fun e=>hml' (by simp[e]))]
 intro C hC
 cases tl with
 |false=>
  simp only[Bool.false_eq_true,if_false]at xp xn ⊢
  have e1:B.link1 n k x=B.setEnds k {(B.ends k)with head:=n}:=by unfold Arena.link1;rw[if_pos xp]
  rw[e1]at hC
  have ebB:=b0.of_q hkB
  have b1:(B.setEnds k {(B.ends k)with head:=n}).Bd:=b0.setEnds _ _ ⟨hnB,ebB.2⟩
  have hk1:k<(B.setEnds k {(B.ends k)with head:=n}).qs.length:=by rw[setEnds_q];exact hkB
  by_cases hz:x.next=0
  ·have hl:l=[]:=head_zero (fun m h=>(hm m h).1) (xn.symm.trans hz)
   subst hl
   have e2:C=(B.setEnds k {(B.ends k)with head:=n}).setEnds k {((B.setEnds k {(B.ends k)with head:=n}).ends k)with tail:=n}:=by rw[hC];unfold Arena.link2;rw[if_pos hz]
   subst e2
   have eb1:=b1.of_q hk1
   refine⟨(Like.setEnds _ _ _).trans (Like.setEnds _ _ _),b1.setEnds _ _ ⟨eb1.1,hnB,eb1.2.2⟩,?_,?_,?_,?_,?_,fun _ _=>rfl⟩
   ·exact⟨by show(B.node n).prev=0;rw[n0];exact xp,by show(B.node n).next=0;rw[n0];exact hz,trivial⟩
   ·rw[ends_set hk1,if_pos rfl];show((B.setEnds k _).ends k).head=_;rw[ends_set hkB,if_pos rfl];rfl
   ·rw[ends_set hk1,if_pos rfl];rfl
   ·rw[ends_set hk1,if_pos rfl];show((B.setEnds k _).ends k).n=_;rw[ends_set hkB,if_pos rfl]
   ·intro m hmk;rw[ends_set hk1,if_neg hmk,ends_set hkB,if_neg hmk]
  ·obtain⟨b,r,hl⟩:∃b r,l=b::r:=by
    cases l with
    |nil=>exact absurd xn hz
    |cons b r=>exact⟨b,r,rfl⟩
   have hxb:x.next=b:=by rw[xn,hl];rfl
   have hbm:=hm b (by rw[hl];simp)
   have hbB:b<B.l.length:=by omega
   have hbn:b≠n:=fun e=>hnl (by rw[←e,hl];simp)
   have e2:C=(B.setEnds k {(B.ends k)with head:=n}).setNode b {(B.node b)with prev:=n}:=by rw[hC];unfold Arena.link2;rw[if_neg hz,hxb];rfl
   subst e2
   have bb:=b0.at_ hbB
   have ns:∀m,((B.setEnds k {(B.ends k)with head:=n}).setNode b {(B.node b)with prev:=n}).node m=if m=b then {(B.node b)with prev:=n}else B.node m:=fun m=>node_set (A:=B.setEnds k {(B.ends k)with head:=n}) hbB _ m
   refine⟨(Like.setEnds B k {(B.ends k)with head:=n}).trans (Like.setNode (A:=B.setEnds k {(B.ends k)with head:=n}) hbB {(B.node b)with prev:=n} ⟨rfl,rfl,rfl⟩),b1.setNode _ _ ⟨hnB,bb.2.1,by rw[setEnds_q];exact bb.2.2.1,bb.2.2.2⟩,?_,?_,?_,?_,?_,?_⟩
   ·refine⟨?_,?_,?_⟩
    ·rw[ns,if_neg (fun e=>hbn e.symm),n0];exact xp
    ·rw[ns,if_neg (fun e=>hbn e.symm),n0];exact xn
    ·rw[hl]at d0 ⊢
     refine Dll.setHead (nd:=B.node) (fun m hm=>by rw[ns,if_neg hm]) ?_ ?_ ?_ d0
     ·rw[ns,if_pos rfl]
     ·rw[ns,if_pos rfl]
     ·rw[hl]at hnd;exact(List.nodup_cons.1 hnd).1
   ·show((B.setEnds k _).ends k).head=_;rw[ends_set hkB,if_pos rfl];rfl
   ·show((B.setEnds k _).ends k).tail=_;rw[ends_set hkB,if_pos rfl]
    show(B.ends k).tail=_
    rw[en0,ht,getLastD_cons2,hl,getLastD_cons2,getLastD_cons2]
   ·show((B.setEnds k _).ends k).n=_;rw[ends_set hkB,if_pos rfl]
   ·intro m hmk;show(B.setEnds k _).ends m=_;rw[ends_set hkB,if_neg hmk]
   ·intro m hml
    rw[ns,if_neg (fun e=>hml (by rw[e,hl];simp))]
 |true=>
  simp only[if_true]at xp xn ⊢
  have e2:∀D:Arena,D.link2 n k x=D.setEnds k {(D.ends k)with tail:=n}:=by intro D;unfold Arena.link2;rw[if_pos xn]
  rw[e2]at hC
  by_cases hz:x.prev=0
  ·have hl:l=[]:=last_zero (fun m h=>(hm m h).1) (xp.symm.trans hz)
   subst hl
   have e1:B.link1 n k x=B.setEnds k {(B.ends k)with head:=n}:=by unfold Arena.link1;rw[if_pos hz]
   rw[e1]at hC
   subst hC
   have ebB:=b0.of_q hkB
   have b1:(B.setEnds k {(B.ends k)with head:=n}).Bd:=b0.setEnds _ _ ⟨hnB,ebB.2⟩
   have hk1:k<(B.setEnds k {(B.ends k)with head:=n}).qs.length:=by rw[setEnds_q];exact hkB
   have eb1:=b1.of_q hk1
   refine⟨(Like.setEnds _ _ _).trans (Like.setEnds _ _ _),b1.setEnds _ _ ⟨eb1.1,hnB,eb1.2.2⟩,?_,?_,?_,?_,?_,fun _ _=>rfl⟩
   ·exact⟨by show(B.node n).prev=0;rw[n0];exact hz,by show(B.node n).next=0;rw[n0];exact xn,trivial⟩
   ·rw[ends_set hk1,if_pos rfl];show((B.setEnds k _).ends k).head=_;rw[ends_set hkB,if_pos rfl];rfl
   ·rw[ends_set hk1,if_pos rfl];rfl
   ·rw[ends_set hk1,if_pos rfl];show((B.setEnds k _).ends k).n=_;rw[ends_set hkB,if_pos rfl]
   ·intro m hmk;rw[ends_set hk1,if_neg hmk,ends_set hkB,if_neg hmk]
  ·obtain⟨r,b,hl⟩:∃r b,l=r++[b]:=by
    rcases List.eq_nil_or_concat l with h1|⟨l0,a,h1⟩
    ·rw[h1]at xp;exact absurd xp hz
    ·exact⟨l0,a,by rw[h1,List.concat_eq_append]⟩
   have hxb:x.prev=b:=by rw[xp,hl];simp
   have hbm:=hm b (by rw[hl];simp)
   have hbB:b<B.l.length:=by omega
   have hbn:b≠n:=fun e=>hnl (by rw[←e,hl];simp)
   have e1:B.link1 n k x=B.setNode b {(B.node b)with next:=n}:=by unfold Arena.link1;rw[if_neg hz,hxb]
   rw[e1]at hC
   subst hC
   have bb:=b0.at_ hbB
   have b1:(B.setNode b {(B.node b)with next:=n}).Bd:=b0.setNode _ _ ⟨bb.1,hnB,bb.2.2⟩
   have eb1:=b1.of_q (n:=k) hkB
   have ns:∀m,(B.setNode b {(B.node b)with next:=n}).node m=if m=b then {(B.node b)with next:=n}else B.node m:=fun m=>node_set hbB _ m
   have ek:∀y m,((B.setNode b {(B.node b)with next:=n}).setEnds k y).ends m=if m=k then y else B.ends m:=fun y m=>ends_set (A:=B.setNode b {(B.node b)with next:=n}) hkB y m
   refine⟨(Like.setNode hbB {(B.node b)with next:=n} ⟨rfl,rfl,rfl⟩).trans (Like.setEnds _ _ _),b1.setEnds _ _ ⟨eb1.1,by rw[setNode_l];exact hnB,eb1.2.2⟩,?_,?_,?_,?_,?_,?_⟩
   ·show Dll (B.setNode b {(B.node b)with next:=n}).node 0 (l++[n]) 0
    refine Dll.append.2 ⟨?_,?_⟩
    ·rw[hl]at d0 ⊢
     refine Dll.setLast (nd:=B.node) (s:=0) (s':=n) (fun m hm=>by rw[ns,if_neg hm]) ?_ ?_ ?_ d0
     ·rw[ns,if_pos rfl]
     ·rw[ns,if_pos rfl]
     ·rw[←hl];exact hnd
    ·refine⟨?_,?_,trivial⟩
     ·rw[ns,if_neg (fun e=>hbn e.symm),n0];exact xp
     ·rw[ns,if_neg (fun e=>hbn e.symm),n0];exact xn
   ·rw[ek,if_pos rfl]
    show(B.ends k).head=_
    rw[en0,hh,hl]
    simp[headD_append]
   ·rw[ek,if_pos rfl];simp
   ·rw[ek,if_pos rfl];rfl
   ·intro m hmk;rw[ek,if_neg hmk]
   ·intro m hml
    show(B.setNode b _).node m=_
    rw[ns,if_neg (fun e=>hml (by rw[e,hl];simp))]
end
end Go.Proofs.YtepoejiigmhlbaaGreatDoor.Ev
namespace Go.Proofs.YtepoejiigmhlbaaGreatDoor.Ev
def entOf (A:Arena) (n:Nat):Ent:=⟨(A.node n).key,(A.node n).freq⟩
structure AInv (A:Arena) (ns:List (List Nat)) (qs:List (List Ent)):Prop where
 bd:A.Bd
 len:ns.length=A.qs.length
 q8:A.qs.length≤8
 ends:∀(k:Nat) l,ns[k]?=some l→(A.ends k).head=l.headD 0∧(A.ends k).tail=l.getLastD 0∧(A.ends k).n=l.length
 dll:∀(k:Nat) l,ns[k]?=some l→Dll A.node 0 l 0
 mem:∀(k:Nat) l,ns[k]?=some l→∀n∈l,n≠0∧n<A.l.length∧(A.node n).q=k
 nodup:∀(k:Nat) l,ns[k]?=some l→l.Nodup
 fifty:∀(k:Nat) l,ns[k]?=some l→l.length≤50
 ent:qs=ns.map (fun l=>l.map (entOf A))
 idx:∀key n,A.idx key=some n↔∃(k:Nat) (l:List Nat),ns[k]?=some l∧n∈l∧(A.node n).key=key
 atn:(A.at_.map (·.1)).Nodup
 free:∀n∈A.free,n≠0∧n<A.l.length∧(A.node n).q= -1
 freen:A.free.Nodup
 cnt:A.l.length=1+(ns.map List.length).sum+A.free.length
 lb:A.l.length≤1+50*A.qs.length
theorem sum_set:∀(l:List Nat) (k x y:Nat),l[k]?=some x→(l.set k y).sum+x=l.sum+y
 | [],k,x,y,h=>by simp at h
 |a::l,0,x,y,h=>by simp at h;subst h;simp;omega
 |a::l,k+1,x,y,h=>by
  have:=sum_set l k x y (by simpa using h)
  simp;omega
theorem sum_le_all:∀(l:List Nat) (b:Nat),(∀x∈l,x≤b)→l.sum≤b*l.length
 | [],_,_=>by simp
 |a::l,b,h=>by
  have h1:=sum_le_all l b (fun x hx=>h x (by simp[hx]))
  have h2:=h a (by simp)
  simp only[List.sum_cons,List.length_cons,Nat.mul_add,Nat.mul_one]
  omega
section
variable {A:Arena} {ns:List (List Nat)} {qs:List (List Ent)}
theorem AInv.ok (h:AInv A ns qs):A.Ok:=by
 have h1:=h.cnt
 have h2:=h.lb
 have h3:=h.q8
 refine⟨by omega,by omega,h.bd.node,fun n hn=>(h.free n hn).2.1,by omega,h.bd.ends,fun key n hn=>?_⟩
 obtain⟨k,l,a,b,c⟩:=(h.idx key n).1 hn
 obtain⟨_,d,e⟩:=h.mem k l a n b
 exact⟨d,by omega⟩
theorem placeFrom_none {key:Int}:∀{l:List Ent} {i:Nat},(∀e∈l,e.key≠key)→placeFrom key l i=none
 | [],_,_=>rfl
 |e::l,i,h=>by rw[placeFrom,if_neg (h e (by simp))];exact placeFrom_none (fun x hx=>h x (by simp[hx]))
theorem placeFrom_some {key:Int}:∀{l1 l2:List Ent} {e:Ent} {i:Nat},(∀e∈l1,e.key≠key)→e.key=key→placeFrom key (l1++e::l2) i=some (i+l1.length)
 | [],_,e,i,_,h=>by simp[placeFrom,h]
 |x::l1,l2,e,i,h1,h=>by
  rw[List.cons_append,placeFrom,if_neg (h1 x (by simp)),placeFrom_some (fun x hx=>h1 x (by simp[hx])) h]
  simp;omega
theorem whereFrom_none {key:Int}:∀{q:List (List Ent)} {k:Nat},(∀l∈q,∀e∈l,e.key≠key)→whereFrom key q k=none
 | [],_,_=>rfl
 |l::q,k,h=>by rw[whereFrom,placeFrom_none (h l (by simp))];exact whereFrom_none (fun x hx=>h x (by simp[hx]))
theorem whereFrom_some {key:Int}:∀{q:List (List Ent)} {j k:Nat} {l1 l2:List Ent} {e:Ent},(∀(i:Nat) l,i<j→q[i]?=some l→∀e∈l,e.key≠key)→q[j]?=some (l1++e::l2)→(∀e∈l1,e.key≠key)→e.key=key→
  whereFrom key q k=some (k+j,l1.length)
 | [],j,k,_,_,_,_,h,_,_=>by simp at h
 |l::q,0,k,l1,l2,e,h1,h2,h3,h4=>by
  simp only[List.getElem?_cons_zero,Option.some.injEq]at h2
  subst h2
  rw[whereFrom,placeFrom_some h3 h4]
  simp
 |l::q,j+1,k,l1,l2,e,h1,h2,h3,h4=>by
  rw[whereFrom,placeFrom_none (h1 0 l (by omega) rfl)]
  have:=whereFrom_some (q:=q) (j:=j) (k:=k+1) (fun i l hi hl=>h1 (i+1) l (by omega) (by simpa using hl)) (by simpa using h2) h3 h4
  rw[show k+(j+1)=k+1+j by omega]
  exact this
theorem AInv.uniq (h:AInv A ns qs) {k k':Nat} {l l':List Nat} {n n':Nat} (h1:ns[k]?=some l) (h2:n∈l) (h3:ns[k']?=some l') (h4:n'∈l') (e:(A.node n).key=(A.node n').key):n=n'∧k=k':=by
 have x1:=(h.idx (A.node n').key n).2 ⟨k,l,h1,h2,e⟩
 have x2:=(h.idx (A.node n').key n').2 ⟨k',l',h3,h4,rfl⟩
 rw[x1]at x2
 injection x2 with x2
 subst x2
 have m1:=(h.mem k l h1 n h2).2.2
 have m2:=(h.mem k' l' h3 n h4).2.2
 exact⟨rfl,by omega⟩
theorem AInv.at_q (h:AInv A ns qs) {k:Nat} {l:List Nat} (h1:ns[k]?=some l):qs[k]?=some (l.map (entOf A)):=by
 rw[h.ent,List.getElem?_map,h1];rfl
theorem AInv.at_lt (h:AInv A ns qs) {k:Nat} {l:List Nat} (h1:ns[k]?=some l):k<A.qs.length:=by
 rw[←h.len];exact(List.getElem?_eq_some_iff.1 h1).1
theorem AInv.get (h:AInv A ns qs) {k:Nat} (hk:k<A.qs.length):∃l,ns[k]?=some l:=⟨_,List.getElem?_eq_getElem (by rw[h.len];exact hk)⟩
theorem AInv.qlen (h:AInv A ns qs):qs.length=A.qs.length:=by rw[h.ent,List.length_map,h.len]
theorem AInv.find_some (h:AInv A ns qs) {key:Int} {n:Nat} (hi:A.idx key=some n) (vars:List Int):
  ∃(k:Nat) (l1 l2:List Nat),ns[k]?=some (l1++n::l2)∧(⟨qs,vars⟩:St).find key=some (k,l1.length)∧(A.node n).key=key∧(A.node n).q=k:=by
 obtain⟨k,l,a,b,c⟩:=(h.idx key n).1 hi
 obtain⟨l1,l2,rfl⟩:=List.append_of_mem b
 refine⟨k,l1,l2,a,?_,c,(h.mem k _ a n b).2.2⟩
 have hnd:=h.nodup k _ a
 have hnod:=List.nodup_append.1 hnd
 unfold St.find
 have hq:=h.at_q a
 rw[List.map_append,List.map_cons]at hq
 have:=whereFrom_some (key:=key) (q:=qs) (j:=k) (k:=0) (l1:=l1.map (entOf A)) (l2:=l2.map (entOf A)) (e:=entOf A n) ?_ hq ?_ c
 ·rw[this];simp
 ·intro i l hi hl e he hek
  rw[h.ent,List.getElem?_map]at hl
  cases hx:ns[i]? with
  |none=>rw[hx]at hl;cases hl
  |some l'=>
   rw[hx]at hl
   simp at hl
   subst hl
   obtain⟨m,hm,rfl⟩:=List.mem_map.1 he
   have:=(h.uniq hx hm a b (hek.trans c.symm)).2
   omega
 ·intro e he hek
  obtain⟨m,hm,rfl⟩:=List.mem_map.1 he
  have:=(h.uniq a (by simp[hm]) a b (hek.trans c.symm)).1
  subst this
  exact hnod.2.2 m hm m (by simp) rfl
theorem AInv.find_none (h:AInv A ns qs) {key:Int} (hi:A.idx key=none) (vars:List Int):(⟨qs,vars⟩:St).find key=none:=by
 refine whereFrom_none fun l hl e he hek=>?_
 rw[h.ent]at hl
 obtain⟨l',hl',rfl⟩:=List.mem_map.1 hl
 obtain⟨m,hm,rfl⟩:=List.mem_map.1 he
 obtain⟨k,hk⟩:=List.mem_iff_getElem?.1 hl'
 have:=(h.idx key m).2 ⟨k,l',hk,hm,hek⟩
 rw[hi]at this
 cases this
theorem AInv.where_ (h:AInv A ns qs) (key:Int) (vars:List Int):A.where_ key=whereQ ⟨qs,vars⟩ key:=by
 unfold Arena.where_ whereQ
 cases hi:A.idx key with
 |none=>rw[h.find_none hi vars]
 |some n=>
  obtain⟨k,l1,l2,a,b,c,d⟩:=h.find_some hi vars
  rw[b]
  exact d
theorem AInv.len_ (h:AInv A ns qs) (vars:List Int) {k:Nat} (hk:k<A.qs.length):A.len k=((⟨qs,vars⟩:St).queue (k:Int)).length:=by
 obtain⟨l,hl⟩:=h.get hk
 unfold Arena.len St.queue
 rw[(h.ends k l hl).2.2]
 simp[h.at_q hl]
theorem AInv.queue (h:AInv A ns qs) (vars:List Int) {k:Nat} {l:List Nat} (hl:ns[k]?=some l):(⟨qs,vars⟩:St).queue (k:Int)=l.map (entOf A):=by
 unfold St.queue
 simp[h.at_q hl]
theorem entAt_map (A:Arena) (l1 l2:List Nat) (n:Nat):entAt ((l1++n::l2).map (entOf A)) l1.length=entOf A n:=by
 unfold entAt
 simp
theorem lastEnt_map (A:Arena) (l:List Nat) (h:l≠ []):lastEnt (l.map (entOf A))=entOf A (l.getLastD 0):=by
 rcases List.eq_nil_or_concat l with h1|⟨l0,a,h1⟩
 ·exact absurd h1 h
 ·rw[List.concat_eq_append]at h1
  subst h1
  unfold lastEnt
  have:=entAt_map A l0 [] a
  simp at this ⊢
  simpa using this
theorem AInv.tail_ (h:AInv A ns qs) (vars:List Int) {k:Nat} (hk:k<A.qs.length) (hne:(⟨qs,vars⟩:St).queue (k:Int)≠ []):A.tail k=(lastEnt ((⟨qs,vars⟩:St).queue (k:Int))).key:=by
 obtain⟨l,hl⟩:=h.get hk
 rw[h.queue vars hl]at hne ⊢
 have hl0:l≠ []:=by rintro rfl;exact hne rfl
 rw[lastEnt_map A l hl0]
 unfold Arena.tail
 rw[(h.ends k l hl).2.1]
 rfl
theorem AInv.freq_ (h:AInv A ns qs) (vars:List Int) (key:Int):A.freqOf key=freqOf ⟨qs,vars⟩ key:=by
 unfold Arena.freqOf freqOf
 cases hi:A.idx key with
 |none=>rw[h.find_none hi vars]
 |some n=>
  obtain⟨k,l1,l2,a,b,c,d⟩:=h.find_some hi vars
  rw[b]
  show _=(entAt ((⟨qs,vars⟩:St).queue (k:Int)) l1.length).freq
  rw[h.queue vars a,entAt_map]
  rfl
theorem AInv.find_tail (h:AInv A ns qs) (vars:List Int) {k:Nat} (hk:k<A.qs.length) (hne:(⟨qs,vars⟩:St).queue (k:Int)≠ []):
  (⟨qs,vars⟩:St).find (lastEnt ((⟨qs,vars⟩:St).queue (k:Int))).key=some (k,((⟨qs,vars⟩:St).queue (k:Int)).length-1):=by
 obtain⟨l,hl⟩:=h.get hk
 rw[h.queue vars hl]at hne ⊢
 have hl0:l≠ []:=by rintro rfl;exact hne rfl
 rw[lastEnt_map A l hl0]
 rcases List.eq_nil_or_concat l with h1|⟨l0,a,h1⟩
 ·exact absurd h1 hl0
 ·rw[List.concat_eq_append]at h1
  subst h1
  have e:(l0++[a]).getLastD 0=a:=by simp
  rw[e]
  have hi:=(h.idx (entOf A a).key a).2 ⟨k,_,hl,by simp,rfl⟩
  obtain⟨k',l1,l2,x1,x2,x3,x4⟩:=h.find_some hi vars
  have hkk:k'=k:=by
   have:=(h.mem k _ hl a (by simp)).2.2
   omega
  subst hkk
  rw[x1]at hl
  injection hl with hl
  have hnd:=h.nodup k' _ x1
  have:l2=[]:=by
   rcases List.eq_nil_or_concat l2 with h1|⟨l3,b,h1⟩
   ·exact h1
   ·rw[List.concat_eq_append]at h1
    subst h1
    have hl2:(l1++a::l3)++[b]=l0++[a]:=by simpa using hl
    have:=List.append_inj_right' hl2 rfl
    injection this with this
    subst this
    exact absurd hnd (by simp[List.nodup_append])
  subst this
  have e2:=List.append_inj_left' hl rfl
  rw[x2,e2]
  simp
theorem chain_of_dll {A:Arena}:∀{l:List Nat} {p:Nat},Dll A.node p l 0→(∀m∈l,m≠0∧m<A.l.length)→Chain A (l.headD 0) l
 | [],_,_,_=>rfl
 |x::r,p,⟨a,b,c⟩,h=>⟨rfl,(h x (by simp)).1,(h x (by simp)).2,by rw[b];exact chain_of_dll c (fun m hm=>h m (by simp[hm]))⟩
theorem AInv.chain (h:AInv A ns qs) {k:Nat} {l:List Nat} (hl:ns[k]?=some l):Chain A (A.ends k).head l:=by
 rw[(h.ends k l hl).1]
 exact chain_of_dll (h.dll k l hl) (fun m hm=>⟨(h.mem k l hl m hm).1,(h.mem k l hl m hm).2.1⟩)
theorem idx_erase {at_:List (Int×Nat)} (hn:(at_.map (·.1)).Nodup) (key k:Int):
  ((at_.eraseP (fun y=>y.1==key)).find? (fun y=>y.1==k)).map (·.2)=if k=key then none else(at_.find? (fun y=>y.1==k)).map (·.2):=by
 induction at_ with
 |nil=>simp
 |cons y l ih=>
  have hn':=List.nodup_cons.1 hn
  by_cases hy:y.1=key
  ·have hp:(fun y:Int×Nat=>y.1==key) y=true:=by simpa using hy
   rw[List.eraseP_cons_of_pos (p:=fun y:Int×Nat=>y.1==key) hp]
   by_cases hk:k=key
   ·subst hk
    rw[if_pos rfl]
    have:l.find? (fun y=>y.1==k)=none:=by
     rw[List.find?_eq_none]
     intro z hz he
     refine hn'.1 ?_
     have:z.1=y.1:=by simp at he;omega
     show y.1∈_
     rw[←this]
     exact List.mem_map.2 ⟨z,hz,rfl⟩
    rw[this];rfl
   ·rw[if_neg hk,List.find?_cons_of_neg]
    simp;omega
  ·have hp:¬(fun y:Int×Nat=>y.1==key) y=true:=by simpa using hy
   rw[List.eraseP_cons_of_neg (p:=fun y:Int×Nat=>y.1==key) hp]
   by_cases hk:y.1=k
   ·have hk':k≠key:=by omega
    rw[if_neg hk',List.find?_cons_of_pos (by simpa using hk),List.find?_cons_of_pos (by simpa using hk)]
   ·rw[List.find?_cons_of_neg (by simpa using hk),List.find?_cons_of_neg (by simpa using hk)]
    exact ih hn'.2
theorem set_get {α:Type} {l:List α} {k j:Nat} {x y:α} (h:(l.set k x)[j]?=some y):(j=k∧k<l.length∧y=x)∨(j≠k∧l[j]?=some y):=by
 rw[List.getElem?_set]at h
 split at h
 ·rename_i e
  split at h
  ·injection h with h
   exact .inl ⟨e.symm,by assumption,h.symm⟩
  ·cases h
 ·rename_i e
  exact .inr ⟨fun x=>e x.symm,h⟩
theorem map_set_ent {A':Arena} {k:Nat} {l:List Nat} (he:∀(j:Nat) (m:List Nat),j≠k→ns[j]?=some m→m.map (entOf A')=m.map (entOf A)):
  (ns.map (fun l=>l.map (entOf A))).set k (l.map (entOf A'))=(ns.set k l).map (fun l=>l.map (entOf A')):=by
 apply List.ext_getElem?
 intro j
 rw[List.getElem?_set,List.getElem?_map,List.getElem?_map,List.getElem?_set]
 by_cases hj:k=j
 ·subst hj
  by_cases hl:k<ns.length
  ·simp[hl]
  ·simp[hl]
 ·simp only[if_neg hj]
  cases hx:ns[j]? with
  |none=>rfl
  |some m=>simp only[Option.map_some];rw[he j m (fun e=>hj e.symm) hx]
theorem AInv.outAt (h:AInv A ns qs) {key:Int} {n k:Nat} {l1 l2:List Nat} (hi:A.idx key=some n) (hl:ns[k]?=some (l1++n::l2)):
  AInv (A.outAt key n) (ns.set k (l1++l2)) (qs.set k ((l1++l2).map (entOf A)))∧A.CanUnlink n k∧((A.unlink n).node n).freq=(A.node n).freq:=by
 have hm:=h.mem k _ hl
 have hnm:=hm n (by simp)
 have hk:=h.at_lt hl
 have he:=h.ends k _ hl
 have hnd:=h.nodup k _ hl
 have hkey:(A.node n).key=key:=by
  obtain⟨_,_,_,_,c⟩:=(h.idx key n).1 hi
  exact c
 have u:=unlinked h.bd hk (fun m hm'=>⟨(hm m hm').1,(hm m hm').2.1⟩) hnm.2.2 (h.dll k _ hl) hnd he.1 he.2.1
 have hcu:A.CanUnlink n k:=⟨hnm.2.1,hnm.2.2,by rw[he.2.2];simp;omega,hk⟩
 refine⟨?_,hcu,(u.like.node n).2.1⟩
 have hnod:=List.nodup_append.1 hnd
 have hn2:=List.nodup_cons.1 hnod.2.1
 have hn12:n∉l1++l2:=by
  intro hx
  rcases List.mem_append.1 hx with hx|hx
  ·exact hnod.2.2 n hx n (by simp) rfl
  ·exact hn2.1 hx
 have hnU:n<(A.unlink n).l.length:=by rw[u.like.l];exact hnm.2.1
 have nd:∀m,(A.outAt key n).node m=if m=n then {((A.unlink n).node n)with q:= -1}else(A.unlink n).node m:=fun m=>node_set (A:=A.unlink n) hnU _ m
 have en:∀m,(A.outAt key n).ends m=(A.unlink n).ends m:=fun _=>rfl
 have hlen:(A.outAt key n).l.length=A.l.length:=(setNode_l (A:=A.unlink n) _ _).trans u.like.l
 have hql:(A.outAt key n).qs.length=A.qs.length:=u.like.q
 have nkf:∀m,((A.outAt key n).node m).key=(A.node m).key∧((A.outAt key n).node m).freq=(A.node m).freq:=by
  intro m
  rw[nd]
  split
  ·rename_i e;subst e;exact⟨(u.like.node m).1,(u.like.node m).2.1⟩
  ·exact⟨(u.like.node m).1,(u.like.node m).2.1⟩
 have nq:∀m,m≠n→((A.outAt key n).node m).q=(A.node m).q:=by
  intro m hmn
  rw[nd,if_neg hmn]
  exact(u.like.node m).2.2
 have eo:∀m,entOf (A.outAt key n) m=entOf A m:=by
  intro m;unfold entOf;rw[(nkf m).1,(nkf m).2]
 have other:∀(j:Nat) l,j≠k→ns[j]?=some l→∀m∈l,m∉l1++n::l2:=by
  intro j l hj hjl m hm' hx
  have a1:=(h.mem j l hjl m hm').2.2
  have a2:=(hm m hx).2.2
  omega
 have hub:=u.bd.at_ hnU
 have obd:(A.outAt key n).Bd:=by
  have:=u.bd.setNode n {((A.unlink n).node n)with q:= -1} ⟨hub.1,hub.2.1,by show(-1:Int)≤_;omega,hub.2.2.2⟩
  exact⟨this.node,this.ends⟩
 have hsum:=sum_set (ns.map List.length) k (l1++n::l2).length (l1++l2).length (by rw[List.getElem?_map,hl];rfl)
 refine⟨obd,by rw[List.length_set,hql];exact h.len,by rw[hql];exact h.q8,?_,?_,?_,?_,?_,?_,?_,?_,?_,?_,?_,by rw[hlen,hql];exact h.lb⟩
 ·intro j l hj
  rw[en]
  rcases set_get hj with⟨rfl,_,rfl⟩|⟨hjk,hj'⟩
  ·exact⟨u.head,u.tail,by rw[u.n,he.2.2];simp⟩
  ·rw[u.others j hjk];exact h.ends j l hj'
 ·intro j l hj
  rcases set_get hj with⟨rfl,_,rfl⟩|⟨hjk,hj'⟩
  ·exact Dll.congr (fun m hm'=>by rw[nd,if_neg (fun(e:m=n)=>hn12 (e▸hm'))];exact⟨rfl,rfl⟩) u.dll
  ·refine Dll.congr (fun m hm'=>?_) (h.dll j l hj')
   have hx:=other j l hjk hj' m hm'
   have hx1:m≠n:=fun e=>hx (by simp[e])
   have hx2:m∉l1++l2:=fun e=>hx (by simp at e ⊢;rcases e with e|e<;>simp[e])
   rw[nd,if_neg hx1,u.far m hx2]
   exact⟨rfl,rfl⟩
 ·intro j l hj m hm'
  rw[hlen]
  rcases set_get hj with⟨rfl,_,rfl⟩|⟨hjk,hj'⟩
  ·have hx:=hm m (by simp at hm' ⊢;rcases hm' with e|e<;>simp[e])
   rw[nq m (fun e=>hn12 (e▸hm'))]
   exact hx
  ·have hx:=other j l hjk hj' m hm'
   rw[nq m (fun e=>hx (by simp[e]))]
   exact h.mem j l hj' m hm'
 ·intro j l hj
  rcases set_get hj with⟨rfl,_,rfl⟩|⟨hjk,hj'⟩
  ·have:(l1++l2).Sublist (l1++n::l2):=List.Sublist.append (List.Sublist.refl _) (List.sublist_cons_self _ _)
   exact this.nodup hnd
  ·exact h.nodup j l hj'
 ·intro j l hj
  rcases set_get hj with⟨rfl,_,rfl⟩|⟨hjk,hj'⟩
  ·have:=h.fifty j _ hl
   simp at this ⊢
   omega
  ·exact h.fifty j l hj'
 ·have e1:(l1++l2).map (entOf A)=(l1++l2).map (entOf (A.outAt key n)):=List.map_congr_left (fun m _=>(eo m).symm)
  rw[e1,h.ent,map_set_ent (fun j m _ _=>List.map_congr_left (fun m _=>eo m))]
 ·intro key' m
  have e0:(A.outAt key n).idx key'=if key'=key then none else A.idx key':=idx_erase h.atn key key'
  rw[e0]
  constructor
  ·intro hx
   split at hx
   ·cases hx
   ·rename_i hne
    obtain⟨j,l,a,b,c⟩:=(h.idx key' m).1 hx
    have hmn:m≠n:=by rintro rfl;exact hne (c.symm.trans hkey)
    by_cases hjk:j=k
    ·subst hjk
     rw[hl]at a
     injection a with a
     subst a
     refine⟨j,l1++l2,by rw[List.getElem?_set];simp[h.len,hk],?_,by rw[(nkf m).1];exact c⟩
     simp at b ⊢
     rcases b with b|b|b
     ·exact .inl b
     ·exact absurd b hmn
     ·exact .inr b
    ·exact⟨j,l,by rw[List.getElem?_set,if_neg (fun e=>hjk e.symm)];exact a,b,by rw[(nkf m).1];exact c⟩
  ·rintro⟨j,l,a,b,c⟩
   rw[(nkf m).1]at c
   rcases set_get a with⟨rfl,_,rfl⟩|⟨hjk,hj'⟩
   ·have hmn:m≠n:=fun e=>hn12 (e▸b)
    have hm2:m∈l1++n::l2:=by simp at b ⊢;rcases b with e|e<;>simp[e]
    have hne:key'≠key:=by
     rintro rfl
     exact hmn (h.uniq hl hm2 hl (by simp) (c.trans hkey.symm)).1
    rw[if_neg hne]
    exact(h.idx key' m).2 ⟨j,_,hl,hm2,c⟩
   ·have hne:key'≠key:=by
     rintro rfl
     exact hjk (h.uniq hj' b hl (by simp) (c.trans hkey.symm)).2
    rw[if_neg hne]
    exact(h.idx key' m).2 ⟨j,l,hj',b,c⟩
 ·exact(List.Sublist.map _ (List.eraseP_sublist)).nodup h.atn
 ·intro m hm'
  have hm2:m∈A.free++[n]:=hm'
  rw[hlen]
  rcases List.mem_append.1 hm2 with hx|hx
  ·obtain⟨a,b,c⟩:=h.free m hx
   have hmn:m≠n:=by rintro rfl;rw[hnm.2.2]at c;omega
   exact⟨a,b,by rw[nq m hmn];exact c⟩
  ·simp at hx
   subst hx
   exact⟨hnm.1,hnm.2.1,by rw[nd,if_pos rfl]⟩
 ·show(A.free++[n]).Nodup
  rw[List.nodup_append]
  refine⟨h.freen,by simp,fun a ha b hb=>?_⟩
  simp at hb
  subst hb
  rintro rfl
  have:=(h.free a ha).2.2
  rw[hnm.2.2]at this
  omega
 ·show _=1+_+(A.free++[n]).length
  rw[hlen,h.cnt,List.map_set]
  simp at hsum ⊢
  omega
structure Ready (A:Arena) (ns:List (List Nat)):Prop where
 p0:A.place≠0
 lt:A.place<A.ready.l.length
 node:∀m,A.ready.node m=A.node m
 qs:A.ready.qs=A.qs
 at_:A.ready.at_=A.at_
 le:A.l.length≤A.ready.l.length
 free:∀m∈A.ready.free,m∈A.free∧m≠A.place
 nodup:A.ready.free.Nodup
 new:∀(k:Nat) (l:List Nat),ns[k]?=some l→A.place∉l
 cnt:A.ready.l.length=1+(ns.map List.length).sum+A.ready.free.length+1
 bd:A.ready.Bd
 grow:A.ready.l.length=A.l.length∨(A.free=[]∧A.ready.l.length=A.l.length+1)
theorem AInv.ready (h:AInv A ns qs) (h0:0<A.qs.length):Ready A ns:=by
 have hc:=h.cnt
 by_cases hf:A.free=[]
 ·have ep:A.place=A.l.length:=by unfold Arena.place;rw[if_pos hf]
  have er:A.ready={A with l:=A.l++[⟨0,0,0,0,0⟩]}:=by unfold Arena.ready;rw[if_pos hf]
  have el:A.ready.l.length=A.l.length+1:=by rw[er];simp
  rw[hf]at hc
  refine⟨by omega,by omega,?_,by rw[er],by rw[er],by omega,?_,?_,?_,?_,?_,.inr ⟨hf,el⟩⟩
  ·intro m
   rw[er]
   unfold Arena.node
   show((A.l++[⟨0,0,0,0,0⟩])[m]?).getD _=_
   rcases Nat.lt_or_ge m A.l.length with hm|hm
   ·rw[List.getElem?_append_left hm]
   ·rw[List.getElem?_append_right hm,List.getElem?_eq_none hm]
    cases m-A.l.length with
    |zero=>rfl
    |succ j=>rfl
  ·intro m hm;rw[er]at hm;simp[hf]at hm
  ·rw[er];simp[hf]
  ·intro k l hl hx
   have:=(h.mem k l hl _ hx).2.1
   omega
  ·rw[el,er];simp[hf]at hc ⊢;omega
  ·refine⟨fun n x hx=>?_,fun q x hx=>?_⟩
   ·rw[el]
    have hq:A.ready.qs=A.qs:=by rw[er]
    rw[hq]
    have hx':(A.l++[⟨0,0,0,0,0⟩])[n]?=some x:=by rw[er]at hx;exact hx
    rcases Nat.lt_or_ge n A.l.length with hm|hm
    ·rw[List.getElem?_append_left hm]at hx'
     obtain⟨a,b,c,d⟩:=h.bd.node n x hx'
     exact⟨by omega,by omega,c,d⟩
    ·rw[List.getElem?_append_right hm]at hx'
     cases hn:n-A.l.length with
     |zero=>
      rw[hn]at hx';simp at hx';subst hx'
      exact⟨by show 0<_;omega,by show 0<_;omega,by show(0:Int)≤_;omega,by show(0:Int)≤0;omega,by show(0:Int)≤1000;omega⟩
     |succ j=>rw[hn]at hx';simp at hx'
   ·have hx':A.qs[q]?=some x:=by rw[er]at hx;exact hx
    obtain⟨a,b,c⟩:=h.bd.ends q x hx'
    exact⟨by omega,by omega,c⟩
 ·obtain⟨f0,p,hfp⟩:∃f0 p,A.free=f0++[p]:=by
   rcases List.eq_nil_or_concat A.free with h1|⟨l0,a,h1⟩
   ·exact absurd h1 hf
   ·exact⟨l0,a,by rw[h1,List.concat_eq_append]⟩
  have ep:A.place=p:=by unfold Arena.place;rw[if_neg hf,hfp];simp
  have er:A.ready={A with free:=f0}:=by unfold Arena.ready;rw[if_neg hf,hfp];simp
  have hp:=h.free p (by rw[hfp];simp)
  have hn:=h.freen
  rw[hfp]at hn hc
  have hn':=List.nodup_append.1 hn
  refine⟨by rw[ep];exact hp.1,by rw[ep,er];exact hp.2.1,fun _=>by rw[er];rfl,by rw[er],by rw[er],by rw[er];exact Nat.le_refl _,?_,by rw[er];exact hn'.1,?_,?_,by rw[er];exact⟨h.bd.node,h.bd.ends⟩,.inl (by rw[er])⟩
  ·intro m hm
   rw[er]at hm
   rw[ep]
   exact⟨by rw[hfp];exact List.mem_append_left _ hm,fun e=>hn'.2.2 m hm p (by simp) e⟩
  ·intro k l hl hx
   rw[ep]at hx
   have:=(h.mem k l hl p hx).2.2
   rw[hp.2.2]at this
   omega
  ·rw[er]
   show A.l.length=_
   rw[hc];simp;omega
theorem AInv.in_ (h:AInv A ns qs) {key freq:Int} {k:Nat} (tl:Bool) {l:List Nat} (hi:A.idx key=none) (hl:ns[k]?=some l) (hf:0≤freq∧freq≤1000) (h50:l.length+1≤50):
  A.CanIn key freq k∧AInv (A.in_ key freq k tl) (ns.set k (if tl then l++[A.place]else A.place::l)) (qs.set k (if tl then l.map (entOf A)++[⟨key,freq⟩]else⟨key,freq⟩::l.map (entOf A))):=by
 have hk:=h.at_lt hl
 have R:=h.ready (by omega)
 have hm:=h.mem k l hl
 have he:=h.ends k l hl
 have hpl:=R.new k l hl
 have hc:=h.cnt
 have hlb:=h.lb
 have hq8:=h.q8
 refine⟨⟨hi,hk,hf,by omega,R.p0,?_,?_⟩,?_⟩
 ·rw[he.1]
  cases l with
  |nil=>exact fun e=>R.p0 e.symm
  |cons x r=>exact fun e=>hpl (by rw[←e];simp)
 ·rw[he.2.1]
  rcases List.eq_nil_or_concat l with h1|⟨l0,a,h1⟩
  ·rw[h1];exact fun e=>R.p0 e.symm
  ·rw[List.concat_eq_append]at h1
   rw[h1]
   simp
   exact fun e=>hpl (by rw[←e,h1];simp)
 have b0:=R.bd.setNode A.place ⟨key,freq,0,0,0⟩ ⟨by have:=R.lt;show 0<_;omega,by have:=R.lt;show 0<_;omega,by rw[R.qs];show(0:Int)≤_;omega,hf.1,hf.2⟩
 have nb:∀m,(A.ready.setNode A.place ⟨key,freq,0,0,0⟩).node m=if m=A.place then⟨key,freq,0,0,0⟩else A.node m:=fun m=>by rw[node_set R.lt,R.node]
 have hin:A.in_ key freq k tl={(A.ready.setNode A.place ⟨key,freq,0,0,0⟩)with at_:=A.at_++[(key,A.place)]}.link A.place k tl:=rfl
 have hlB:(A.ready.setNode A.place ⟨key,freq,0,0,0⟩).l.length=A.ready.l.length:=setNode_l _ _
 have hqB:(A.ready.setNode A.place ⟨key,freq,0,0,0⟩).qs=A.qs:=R.qs
 have hfB:(A.ready.setNode A.place ⟨key,freq,0,0,0⟩).free=A.ready.free:=rfl
 rw[hin]
 generalize A.ready.setNode A.place ⟨key,freq,0,0,0⟩=B at*
 have enB:∀m,({B with at_:=A.at_++[(key,A.place)]}:Arena).ends m=A.ends m:=fun m=>by unfold Arena.ends;show(B.qs[m]?).getD _=_;rw[hqB]
 have ndB:∀m,({B with at_:=A.at_++[(key,A.place)]}:Arena).node m=if m=A.place then⟨key,freq,0,0,0⟩else A.node m:=nb
 have bdB:({B with at_:=A.at_++[(key,A.place)]}:Arena).Bd:=⟨b0.node,b0.ends⟩
 have llB:({B with at_:=A.at_++[(key,A.place)]}:Arena).l.length=A.ready.l.length:=hlB
 have qqB:({B with at_:=A.at_++[(key,A.place)]}:Arena).qs.length=A.qs.length:=by show B.qs.length=_;rw[hqB]
 have ffB:({B with at_:=A.at_++[(key,A.place)]}:Arena).free=A.ready.free:=hfB
 have aaB:({B with at_:=A.at_++[(key,A.place)]}:Arena).at_=A.at_++[(key,A.place)]:=rfl
 clear nb hin hlB hqB hfB b0
 generalize ({B with at_:=A.at_++[(key,A.place)]}:Arena)=C at*
 have u:=linked bdB tl (k:=k) (n:=A.place) (l:=l) (by omega) (fun m hm'=>⟨(hm m hm').1,by have:=(hm m hm').2.1;have:=R.le;omega⟩) ⟨R.p0,by have:=R.lt;omega⟩ hpl
  (Dll.congr (fun m hm'=>by rw[ndB,if_neg (fun(e:m=A.place)=>hpl (e▸hm'))];exact⟨rfl,rfl⟩) (h.dll k l hl)) (h.nodup k l hl) (by rw[enB];exact he.1) (by rw[enB];exact he.2.1) (by rw[enB,he.2.2];omega)
 generalize hL:(if tl then l++[A.place]else A.place::l)=L at*
 have hLm:∀m,m∈L↔m=A.place∨m∈l:=by
  intro m;rw[←hL];cases tl<;>simp
  exact⟨fun h=>h.elim .inr .inl,fun h=>h.elim .inr .inl⟩
 have hLl:L.length=l.length+1:=by rw[←hL];cases tl<;>simp
 generalize C.link A.place k tl=D at*
 have nkf:∀m,m≠A.place→(D.node m).key=(A.node m).key∧(D.node m).freq=(A.node m).freq∧(D.node m).q=(A.node m).q:=by
  intro m hmp
  have:=u.node m
  rw[ndB,if_neg hmp,if_neg hmp]at this
  exact this
 have np:(D.node A.place).key=key∧(D.node A.place).freq=freq∧(D.node A.place).q=k:=by
  have:=u.node A.place
  rw[ndB,if_pos rfl,if_pos rfl]at this
  exact this
 have eo:∀m,m≠A.place→entOf D m=entOf A m:=by
  intro m hmp;unfold entOf;rw[(nkf m hmp).1,(nkf m hmp).2.1]
 have hDl:D.l.length=A.ready.l.length:=u.len.trans llB
 have hDq:D.qs.length=A.qs.length:=u.q.trans qqB
 have other:∀(j:Nat) l',j≠k→ns[j]?=some l'→∀m∈l',m∉L:=by
  intro j l' hj hjl m hm' hx
  rcases(hLm m).1 hx with hx|hx
  ·exact R.new j l' hjl (hx▸hm')
  ·have a1:=(h.mem j l' hjl m hm').2.2
   have a2:=(hm m hx).2.2
   omega
 have hsum:=sum_set (ns.map List.length) k l.length L.length (by rw[List.getElem?_map,hl];rfl)
 have hkey:∀(j:Nat) l' m,ns[j]?=some l'→m∈l'→(A.node m).key≠key:=by
  intro j l' m a b c
  have:=(h.idx key m).2 ⟨j,l',a,b,c⟩
  rw[hi]at this
  cases this
 refine⟨u.bd,by rw[List.length_set,hDq];exact h.len,by rw[hDq];exact h.q8,?_,?_,?_,?_,?_,?_,?_,?_,?_,?_,?_,?_⟩
 ·intro j l' hj
  rcases set_get hj with⟨rfl,_,rfl⟩|⟨hjk,hj'⟩
  ·exact⟨u.head,u.tail,by rw[u.n,enB,he.2.2,hLl]⟩
  ·rw[u.others j hjk,enB];exact h.ends j l' hj'
 ·intro j l' hj
  rcases set_get hj with⟨rfl,_,rfl⟩|⟨hjk,hj'⟩
  ·exact u.dll
  ·refine Dll.congr (fun m hm'=>?_) (h.dll j l' hj')
   have hx:=other j l' hjk hj' m hm'
   have hx1:m≠A.place:=fun e=>hx ((hLm m).2 (.inl e))
   rw[u.far m hx,ndB,if_neg hx1]
   exact⟨rfl,rfl⟩
 ·intro j l' hj m hm'
  rw[hDl]
  have hle:=R.le
  rcases set_get hj with⟨rfl,_,rfl⟩|⟨hjk,hj'⟩
  ·rcases(hLm m).1 hm' with rfl|hx
   ·exact⟨R.p0,R.lt,np.2.2⟩
   ·have hx1:m≠A.place:=fun e=>hpl (e▸hx)
    obtain⟨a,b,c⟩:=hm m hx
    exact⟨a,by omega,by rw[(nkf m hx1).2.2];exact c⟩
  ·have hx:=other j l' hjk hj' m hm'
   have hx1:m≠A.place:=fun e=>hx ((hLm m).2 (.inl e))
   obtain⟨a,b,c⟩:=h.mem j l' hj' m hm'
   exact⟨a,by omega,by rw[(nkf m hx1).2.2];exact c⟩
 ·intro j l' hj
  rcases set_get hj with⟨rfl,_,rfl⟩|⟨hjk,hj'⟩
  ·rw[←hL]
   have hnd:=h.nodup j l hl
   cases tl with
   |false=>exact List.nodup_cons.2 ⟨hpl,hnd⟩
   |true=>exact List.nodup_append.2 ⟨hnd,by simp,fun a ha b hb=>by simp at hb;subst hb;exact fun e=>hpl (e▸ha)⟩
  ·exact h.nodup j l' hj'
 ·intro j l' hj
  rcases set_get hj with⟨rfl,_,rfl⟩|⟨hjk,hj'⟩
  ·omega
  ·exact h.fifty j l' hj'
 ·have e1:(if tl then l.map (entOf A)++[⟨key,freq⟩]else⟨key,freq⟩::l.map (entOf A))=L.map (entOf D):=by
   have e2:l.map (entOf A)=l.map (entOf D):=List.map_congr_left (fun m hm'=>(eo m (fun e=>hpl (e▸hm'))).symm)
   have e3:(⟨key,freq⟩:Ent)=entOf D A.place:=by unfold entOf;rw[np.1,np.2.1]
   rw[←hL,e2,e3]
   cases tl<;>simp
  rw[e1,h.ent,map_set_ent (fun j l' _ hjl=>List.map_congr_left (fun m hm'=>eo m (fun e=>R.new j l' hjl (e▸hm'))))]
 ·intro key' m
  have e0:D.idx key'=if key'=key then some A.place else A.idx key':=by
   unfold Arena.idx
   rw[u.at_,aaB,List.find?_append]
   unfold Arena.idx at hi
   by_cases hkk:key'=key
   ·subst hkk
    rw[if_pos rfl]
    cases hx:A.at_.find? (fun y=>y.1==key')with
    |some y=>rw[hx]at hi;cases hi
    |none=>simp
   ·rw[if_neg hkk]
    cases hx:A.at_.find? (fun y=>y.1==key')with
    |some y=>simp
    |none=>simp;omega
  rw[e0]
  constructor
  ·intro hx
   split at hx
   ·rename_i e
    subst e
    injection hx with hx
    subst hx
    exact⟨k,L,by rw[List.getElem?_set];simp[h.len,hk],(hLm _).2 (.inl rfl),np.1⟩
   ·obtain⟨j,l',a,b,c⟩:=(h.idx key' m).1 hx
    have hmp:m≠A.place:=fun e=>R.new j l' a (e▸b)
    by_cases hjk:j=k
    ·subst hjk
     rw[hl]at a
     injection a with a
     subst a
     exact⟨j,L,by rw[List.getElem?_set];simp[h.len,hk],(hLm _).2 (.inr b),by rw[(nkf m hmp).1];exact c⟩
    ·exact⟨j,l',by rw[List.getElem?_set,if_neg (fun e=>hjk e.symm)];exact a,b,by rw[(nkf m hmp).1];exact c⟩
  ·rintro⟨j,l',a,b,c⟩
   rcases set_get a with⟨rfl,_,rfl⟩|⟨hjk,hj'⟩
   ·rcases(hLm m).1 b with rfl|hx
    ·rw[np.1]at c
     rw[if_pos c.symm]
    ·have hmp:m≠A.place:=fun e=>hpl (e▸hx)
     rw[(nkf m hmp).1]at c
     rw[if_neg (fun e=>hkey _ _ m hl hx (c.trans e))]
     exact(h.idx key' m).2 ⟨j,l,hl,hx,c⟩
   ·have hmp:m≠A.place:=fun e=>R.new j l' hj' (e▸b)
    rw[(nkf m hmp).1]at c
    rw[if_neg (fun e=>hkey _ _ m hj' b (c.trans e))]
    exact(h.idx key' m).2 ⟨j,l',hj',b,c⟩
 ·rw[u.at_,aaB,List.map_append,List.nodup_append]
  refine⟨h.atn,by simp,fun a ha b hb=>?_⟩
  simp at hb
  subst hb
  rintro rfl
  obtain⟨y,hy,hy2⟩:=List.mem_map.1 ha
  unfold Arena.idx at hi
  have:A.at_.find? (fun y=>y.1==a)=none:=by
   cases hx:A.at_.find? (fun y=>y.1==a)with
   |none=>rfl
   |some z=>rw[hx]at hi;cases hi
  rw[List.find?_eq_none]at this
  exact this y hy (by simpa using hy2)
 ·intro m hm'
  rw[u.free,ffB]at hm'
  obtain⟨a,b⟩:=R.free m hm'
  obtain⟨c,d,e⟩:=h.free m a
  have:=R.le
  exact⟨c,by omega,by rw[(nkf m b).2.2];exact e⟩
 ·rw[u.free,ffB];exact R.nodup
 ·rw[hDl,R.cnt,u.free,ffB,List.map_set]
  omega
 ·rw[hDl,hDq]
  rcases R.grow with h1|⟨h1,h2⟩
  ·omega
  ·rw[h1]at hc
   have hs:(ns.map List.length).sum+1≤50*A.qs.length:=by
    have e1:((ns.set k L).map List.length).sum≤50*A.qs.length:=by
     have:=sum_le_all ((ns.set k L).map List.length) 50 (fun x hx=>by
      obtain⟨l',hl',rfl⟩:=List.mem_map.1 hx
      obtain⟨j,hj⟩:=List.mem_iff_getElem?.1 hl'
      rcases set_get hj with⟨_,_,rfl⟩|⟨hjk,hj'⟩
      ·omega
      ·exact h.fifty j l' hj')
     simpa[h.len]using this
    rw[List.map_set]at e1
    omega
   simp at hc
   omega
theorem AInv.setFreq (h:AInv A ns qs) {n k:Nat} {l1 l2:List Nat} (f:Int) (hl:ns[k]?=some (l1++n::l2)) (hf:0≤f∧f≤1000):
  AInv (A.setNode n {(A.node n)with freq:=f}) ns (qs.set k ((l1++n::l2).map (entOf A)|>.set l1.length ⟨(A.node n).key,f⟩)):=by
 have hm:=h.mem k _ hl n (by simp)
 have hnl:=hm.2.1
 have nb:=h.bd.at_ hnl
 have nd:∀m,(A.setNode n {(A.node n)with freq:=f}).node m=if m=n then {(A.node n)with freq:=f}else A.node m:=fun m=>node_set hnl _ m
 have hlen:(A.setNode n {(A.node n)with freq:=f}).l.length=A.l.length:=setNode_l _ _
 have bd:=h.bd.setNode n {(A.node n)with freq:=f} ⟨nb.1,nb.2.1,nb.2.2.1,hf.1,hf.2⟩
 have same:∀m,((A.setNode n {(A.node n)with freq:=f}).node m).key=(A.node m).key∧((A.setNode n {(A.node n)with freq:=f}).node m).prev=(A.node m).prev∧
   ((A.setNode n {(A.node n)with freq:=f}).node m).next=(A.node m).next∧((A.setNode n {(A.node n)with freq:=f}).node m).q=(A.node m).q:=by
  intro m
  rw[nd]
  split
  ·rename_i e;subst e;exact⟨rfl,rfl,rfl,rfl⟩
  ·exact⟨rfl,rfl,rfl,rfl⟩
 have eo:∀m,m≠n→entOf (A.setNode n {(A.node n)with freq:=f}) m=entOf A m:=by
  intro m hmn;unfold entOf;rw[nd,if_neg hmn]
 have en:entOf (A.setNode n {(A.node n)with freq:=f}) n=⟨(A.node n).key,f⟩:=by unfold entOf;rw[nd,if_pos rfl]
 refine⟨bd,h.len,h.q8,h.ends,fun j l hj=>Dll.congr (fun m _=>⟨(same m).2.1,(same m).2.2.1⟩) (h.dll j l hj),fun j l hj m hm'=>by rw[hlen,(same m).2.2.2];exact h.mem j l hj m hm',
  h.nodup,h.fifty,?_,fun key m=>?_,h.atn,fun m hm'=>by rw[hlen,(same m).2.2.2];exact h.free m hm',h.freen,by rw[hlen];exact h.cnt,by rw[hlen];exact h.lb⟩
 ·have hnd:=List.nodup_append.1 (h.nodup k _ hl)
  have hn2:=(List.nodup_cons.1 hnd.2.1).1
  have hn1:∀m∈l1,m≠n:=fun m hm'=>hnd.2.2 m hm' n (by simp)
  have e1:((l1++n::l2).map (entOf A)).set l1.length ⟨(A.node n).key,f⟩=(l1++n::l2).map (entOf (A.setNode n {(A.node n)with freq:=f})):=by
   rw[List.map_append,List.map_cons,List.set_append_right _ _ (by simp)]
   simp only[List.length_map,Nat.sub_self,List.set_cons_zero,List.map_append,List.map_cons,en]
   rw[List.map_congr_left (fun m hm'=>(eo m (hn1 m hm')).symm),List.map_congr_left (l:=l2) (fun m hm'=>(eo m (fun e=>hn2 (e▸hm'))).symm)]
  rw[e1,h.ent,map_set_ent (fun j l hj hjl=>List.map_congr_left (fun m hm'=>eo m (fun e=>by
   have:=(h.mem j l hjl m hm').2.2
   rw[e,hm.2.2]at this
   omega)))]
  congr 1
  apply List.ext_getElem?
  intro j
  rw[List.getElem?_set]
  split
  ·rename_i e;subst e
   split
   ·exact hl.symm
   ·rw[List.getElem?_eq_none (by omega)]
  ·rfl
 ·rw[show(A.setNode n {(A.node n)with freq:=f}).idx key=A.idx key from rfl,h.idx key m]
  constructor
  ·rintro⟨j,l,a,b,c⟩;exact⟨j,l,a,b,(same m).1.trans c⟩
  ·rintro⟨j,l,a,b,c⟩;exact⟨j,l,a,b,(same m).1.symm.trans c⟩
theorem AInv.new (n:Nat) (hn:n≤8):AInv ⟨[⟨0,0,0,0,0⟩],[],List.replicate n ⟨0,0,0⟩,[]⟩ (List.replicate n []) (List.replicate n []):=by
 have rep:∀(k:Nat) (l:List Nat),(List.replicate n ([]:List Nat))[k]?=some l→l=[]∧k<n:=by
  intro k l h
  rw[List.getElem?_replicate]at h
  split at h
  ·injection h with h;exact⟨h.symm,by assumption⟩
  ·cases h
 refine⟨⟨?_,?_⟩,by simp,by simpa using hn,?_,?_,?_,?_,?_,by simp,?_,by simp,by simp,by simp,by simp,by simp⟩
 ·intro m x hx
  cases m with
  |zero=>
   simp at hx;subst hx
   exact⟨by simp,by simp,by simp,by simp,by simp⟩
  |succ m=>simp at hx
 ·intro q x hx
  simp only[List.getElem?_replicate]at hx
  split at hx
  ·injection hx with hx;subst hx;exact⟨by simp,by simp,by simp⟩
  ·cases hx
 ·intro k l hl
  obtain⟨rfl,hk⟩:=rep k l hl
  unfold Arena.ends
  simp[List.getElem?_replicate,hk]
 ·intro k l hl;obtain⟨rfl,hk⟩:=rep k l hl;trivial
 ·intro k l hl;obtain⟨rfl,hk⟩:=rep k l hl;simp
 ·intro k l hl;obtain⟨rfl,hk⟩:=rep k l hl;simp
 ·intro k l hl;obtain⟨rfl,hk⟩:=rep k l hl;simp
 ·intro key m
  constructor
  ·intro h;cases h
  ·rintro⟨k,l,a,b,_⟩
   obtain⟨rfl,hk⟩:=rep k l a
   cases b
end
end Go.Proofs.YtepoejiigmhlbaaGreatDoor.Ev
namespace Go.Proofs.YtepoejiigmhlbaaGreatDoor.Ev
theorem skip_bounds (p:UInt8→Bool) (s:Bytes) (i:Nat) (h:i≤s.length):i≤skip p s i∧skip p s i≤s.length:=by
 unfold skip
 have h2:=(List.takeWhile_sublist (p:=p) (l:=s.drop i)).length_le
 rw[List.length_drop]at h2
 omega
theorem skip_first (p:UInt8→Bool) (s:Bytes) (i:Nat) (c:UInt8) (h:s[i]?=some c) (hp:p c=true):i<skip p s i:=by
 obtain⟨hi,hc⟩:=List.getElem?_eq_some_iff.1 h
 unfold skip
 rw[List.drop_eq_getElem_cons hi,hc]
 simp[hp]
theorem lex_facts (s:Bytes) (i:Nat) (h:i≤s.length):
  i≤(lex s i).1.pos∧(lex s i).1.pos≤(lex s i).2∧(lex s i).2≤s.length∧((lex s i).1.kind≠kEnd→(lex s i).1.kind≠kNone→(lex s i).1.pos<(lex s i).2):=by
 obtain⟨b1,b2⟩:=skip_bounds blank s i h
 cases hc:s[skip blank s i]? with
 |none=>
  have e:lex s i=(⟨kEnd,[],skip blank s i⟩,skip blank s i):=by unfold lex;simp only[hc]
  rw[e]
  exact⟨b1,Nat.le_refl _,b2,fun h=>absurd rfl h⟩
 |some c=>
  have hlt:skip blank s i<s.length:=by
   rcases Nat.lt_or_ge (skip blank s i) s.length with h|h
   ·exact h
   ·rw[List.getElem?_eq_none h]at hc;cases hc
  cases hl:low c with
  |true=>
   obtain⟨l1,l2⟩:=skip_bounds low s (skip blank s i) b2
   have l3:=skip_first low s _ c hc hl
   by_cases h8:8<skip low s (skip blank s i)-skip blank s i
   ·have e:lex s i=(⟨kNone,[],skip blank s i⟩,skip blank s i):=by unfold lex;simp only[hc,hl,if_true,h8]
    rw[e]
    exact⟨b1,Nat.le_refl _,b2,fun _ h=>absurd rfl h⟩
   ·have e:(lex s i).1.pos=skip blank s i∧(lex s i).2=skip low s (skip blank s i):=by unfold lex;simp only[hc,hl,if_true,h8,if_false,and_self]
    rw[e.1,e.2]
    exact⟨b1,l1,l2,fun _ _=>l3⟩
  |false=>
   cases hf:fig c with
   |true=>
    obtain⟨l1,l2⟩:=skip_bounds fig s (skip blank s i) b2
    have l3:=skip_first fig s _ c hc hf
    by_cases h8:3<skip fig s (skip blank s i)-skip blank s i
    ·have e:lex s i=(⟨kNone,[],skip blank s i⟩,skip blank s i):=by unfold lex;simp only[hc,hl,hf,if_true,h8,Bool.false_eq_true,if_false]
     rw[e]
     exact⟨b1,Nat.le_refl _,b2,fun _ h=>absurd rfl h⟩
    ·have e:(lex s i).1.pos=skip blank s i∧(lex s i).2=skip fig s (skip blank s i):=by unfold lex;simp only[hc,hl,hf,if_true,h8,if_false,Bool.false_eq_true,and_self]
     rw[e.1,e.2]
     exact⟨b1,l1,l2,fun _ _=>l3⟩
   |false=>
    cases hp:punct c with
    |true=>
     have e:lex s i=(⟨[c],[c],skip blank s i⟩,skip blank s i+1):=by unfold lex;simp only[hc,hl,hf,hp,if_true,Bool.false_eq_true,if_false]
     rw[e]
     exact⟨b1,Nat.le_succ _,hlt,fun _ _=>Nat.lt_succ_self _⟩
    |false=>
     have e:lex s i=(⟨kNone,[],skip blank s i⟩,skip blank s i):=by unfold lex;simp only[hc,hl,hf,hp,Bool.false_eq_true,if_false]
     rw[e]
     exact⟨b1,Nat.le_refl _,b2,fun _ h=>absurd rfl h⟩
def NumText (l:Bytes):Prop:=1≤l.length∧l.length≤3∧∀c∈l,fig c=true
theorem piece_skip (p:UInt8→Bool) (s:Bytes) (i:Nat):piece s i (skip p s i)=(s.drop i).takeWhile p:=by
 unfold piece skip
 rw[List.drop_take,Nat.add_sub_cancel_left]
 exact(List.prefix_iff_eq_take.1 (List.takeWhile_prefix p)).symm
theorem kw_noNumber:¬kNumber∈keywords:=by decide
theorem all_takeWhile (p:UInt8→Bool):∀(l:Bytes),∀c∈l.takeWhile p,p c=true
 | [],c,h=>by simp at h
 |x::l,c,h=>by
  by_cases hx:p x=true
  ·rw[List.takeWhile_cons_of_pos hx]at h
   rcases List.mem_cons.1 h with rfl|h
   ·exact hx
   ·exact all_takeWhile p l c h
  ·rw[List.takeWhile_cons_of_neg hx]at h
   cases h
theorem lex_num (s:Bytes) (i:Nat) (hk:(lex s i).1.kind=kNumber):NumText (lex s i).1.text:=by
 cases hc:s[skip blank s i]? with
 |none=>
  have e:lex s i=(⟨kEnd,[],skip blank s i⟩,skip blank s i):=by unfold lex;simp only[hc]
  rw[e]at hk;exact absurd (show kEnd=kNumber from hk) (by decide)
 |some c=>
  cases hl:low c with
  |true=>
   by_cases h8:8<skip low s (skip blank s i)-skip blank s i
   ·have e:lex s i=(⟨kNone,[],skip blank s i⟩,skip blank s i):=by unfold lex;simp only[hc,hl,if_true,h8]
    rw[e]at hk;exact absurd (show kNone=kNumber from hk) (by decide)
   ·have e:(lex s i).1.kind=if keywords.contains (piece s (skip blank s i) (skip low s (skip blank s i)))then piece s (skip blank s i) (skip low s (skip blank s i))else kName:=by unfold lex;simp only[hc,hl,if_true,h8,if_false]
    rw[e]at hk
    by_cases hm:keywords.contains (piece s (skip blank s i) (skip low s (skip blank s i)))=true
    ·rw[if_pos hm]at hk
     rw[hk]at hm
     exact absurd (List.contains_iff_mem.1 hm) kw_noNumber
    ·rw[if_neg hm]at hk
     exact absurd (show kName=kNumber from hk) (by decide)
  |false=>
   cases hf:fig c with
   |true=>
    by_cases h8:3<skip fig s (skip blank s i)-skip blank s i
    ·have e:lex s i=(⟨kNone,[],skip blank s i⟩,skip blank s i):=by unfold lex;simp only[hc,hl,hf,if_true,h8,Bool.false_eq_true,if_false]
     rw[e]at hk;exact absurd (show kNone=kNumber from hk) (by decide)
    ·have e:(lex s i).1.text=piece s (skip blank s i) (skip fig s (skip blank s i)):=by unfold lex;simp only[hc,hl,hf,if_true,h8,if_false,Bool.false_eq_true]
     have l3:=skip_first fig s _ c hc hf
     rw[e,piece_skip]
     have e2:skip fig s (skip blank s i)=skip blank s i+((s.drop (skip blank s i)).takeWhile fig).length:=rfl
     generalize skip fig s (skip blank s i)=x at*
     exact⟨by omega,by omega,all_takeWhile fig _⟩
   |false=>
    cases hp:punct c with
    |true=>
     have e:lex s i=(⟨[c],[c],skip blank s i⟩,skip blank s i+1):=by unfold lex;simp only[hc,hl,hf,hp,if_true,Bool.false_eq_true,if_false]
     rw[e]at hk
     have:=congrArg List.length (show [c]=kNumber from hk)
     exact absurd this (by simp)
    |false=>
     have e:lex s i=(⟨kNone,[],skip blank s i⟩,skip blank s i):=by unfold lex;simp only[hc,hl,hf,hp,Bool.false_eq_true,if_false]
     rw[e]at hk;exact absurd (show kNone=kNumber from hk) (by decide)
def NameT (l:Bytes):Prop:=1≤l.length∧l.length≤8∧(∀c∈l,low c=true)∧¬l∈keywords
theorem kw_noName:¬kName∈keywords:=by decide
theorem lex_name (s:Bytes) (i:Nat) (hk:(lex s i).1.kind=kName):NameT (lex s i).1.text:=by
 cases hc:s[skip blank s i]? with
 |none=>
  have e:lex s i=(⟨kEnd,[],skip blank s i⟩,skip blank s i):=by unfold lex;simp only[hc]
  rw[e]at hk;exact absurd (show kEnd=kName from hk) (by decide)
 |some c=>
  cases hl:low c with
  |true=>
   by_cases h8:8<skip low s (skip blank s i)-skip blank s i
   ·have e:lex s i=(⟨kNone,[],skip blank s i⟩,skip blank s i):=by unfold lex;simp only[hc,hl,if_true,h8]
    rw[e]at hk;exact absurd (show kNone=kName from hk) (by decide)
   ·have e:(lex s i).1.kind=if keywords.contains (piece s (skip blank s i) (skip low s (skip blank s i)))then piece s (skip blank s i) (skip low s (skip blank s i))else kName:=by unfold lex;simp only[hc,hl,if_true,h8,if_false]
    have e1:(lex s i).1.text=piece s (skip blank s i) (skip low s (skip blank s i)):=by unfold lex;simp only[hc,hl,if_true,h8,if_false]
    rw[e]at hk
    by_cases hm:keywords.contains (piece s (skip blank s i) (skip low s (skip blank s i)))=true
    ·rw[if_pos hm]at hk
     rw[hk]at hm
     exact absurd (List.contains_iff_mem.1 hm) kw_noName
    ·have l3:=skip_first low s _ c hc hl
     have hm':¬(s.drop (skip blank s i)).takeWhile low∈keywords:=by
      rw[←piece_skip]
      exact fun h=>hm (List.contains_iff_mem.2 h)
     rw[e1,piece_skip]
     have e2:skip low s (skip blank s i)=skip blank s i+((s.drop (skip blank s i)).takeWhile low).length:=rfl
     generalize skip low s (skip blank s i)=x at*
     exact⟨by omega,by omega,all_takeWhile low _,hm'⟩
  |false=>
   cases hf:fig c with
   |true=>
    by_cases h8:3<skip fig s (skip blank s i)-skip blank s i
    ·have e:lex s i=(⟨kNone,[],skip blank s i⟩,skip blank s i):=by unfold lex;simp only[hc,hl,hf,if_true,h8,Bool.false_eq_true,if_false]
     rw[e]at hk;exact absurd (show kNone=kName from hk) (by decide)
    ·have e:(lex s i).1.kind=kNumber:=by unfold lex;simp only[hc,hl,hf,if_true,h8,if_false,Bool.false_eq_true]
     rw[e]at hk;exact absurd (show kNumber=kName from hk) (by decide)
   |false=>
    cases hp:punct c with
    |true=>
     have e:lex s i=(⟨[c],[c],skip blank s i⟩,skip blank s i+1):=by unfold lex;simp only[hc,hl,hf,hp,if_true,Bool.false_eq_true,if_false]
     rw[e]at hk
     have:=congrArg List.length (show [c]=kName from hk)
     exact absurd this (by simp)
    |false=>
     have e:lex s i=(⟨kNone,[],skip blank s i⟩,skip blank s i):=by unfold lex;simp only[hc,hl,hf,hp,Bool.false_eq_true,if_false]
     rw[e]at hk;exact absurd (show kNone=kName from hk) (by decide)
def left (s:Bytes) (st:PS):Nat:=s.length+1-st.t.pos
structure PS.Ok (s:Bytes) (st:PS):Prop where
 i:st.i≤s.length
 pos:st.t.pos≤st.i
 more:st.t.kind≠kEnd→st.t.kind≠kNone→st.t.pos<st.i
 num:st.t.kind=kNumber→NumText st.t.text
 name:st.t.kind=kName→NameT st.t.text
theorem next_ok {s:Bytes} {st:PS} (h:st.Ok s):(next s st).Ok s:=by
 obtain⟨a,b,c,d⟩:=lex_facts s st.i h.i
 exact⟨c,b,d,lex_num s st.i,lex_name s st.i⟩
theorem next_left {s:Bytes} {st:PS} (h:st.Ok s) (h1:st.t.kind≠kEnd) (h2:st.t.kind≠kNone):left s (next s st)<left s st:=by
 obtain⟨a,b,c,d⟩:=lex_facts s st.i h.i
 have:=h.more h1 h2
 have:=h.i
 unfold left
 show s.length+1-(lex s st.i).1.pos<_
 omega
theorem start_ok (s:Bytes):(start s).Ok s:=by
 obtain⟨a,b,c,d⟩:=lex_facts s 0 (Nat.zero_le _)
 exact⟨c,b,d,lex_num s 0,lex_name s 0⟩
theorem left_pos {s:Bytes} {st:PS} (h:st.Ok s):0<left s st:=by
 have:=h.pos
 have:=h.i
 unfold left
 omega
end Go.Proofs.YtepoejiigmhlbaaGreatDoor.Ev
