/- Lemmas for a law's walk. Conditions: none. -/
import Derived.Test.YtodkkholbjeioaaGreatDoorZu02
import Derived.Test.YtodkkholbjeioaaGreatDoorZu03
set_option linter.all false
set_option maxRecDepth 100000
set_option maxHeartbeats 8000000
namespace Go.Proofs.YtodkkholbjeioaaGreatDoor.Ev
open _root_.Go.Proofs.Tryz
open Go Go.RowKit
def Fk:Ra->Ah
 | .num _=>Bw
 | .var _=>Jy
 | .len _=>JU
 | .bI=>Cy
def C6:Ra->Int
 | .num n=>n
 | .var n=>n
 | .len n=>n
 | .bI=>0
def DE (v:Ra):List Value:=[vs (Fk v),.int .i64 (C6 v)]
abbrev I9:Ah:=[108,101,115,115]
def Cl:CK->Ah
 | .full _=>Fb
 | .empty _=>DN
 | .fC _=>Fa
 | .less _ _=>I9
def Bt:CK->Int
 | .full n=>n
 | .empty n=>n
 | .fC n=>n
 | .less _ _=>0
def M5:CK->List Value
 | .less a b=>DE a++DE b
 |_=>[vs [],.int .i64 0,vs [],.int .i64 0]
def Dp (n:Nat):Bool:=n%2==1
def Bu (c:C5):List Value:=[vs (Cl c.k),.int .i64 (Bt c.k)]++M5 c.k++[.bool (Dp c.bP)]
def MT:List Value:=[vs [],.int .i64 0,vs [],.int .i64 0,vs [],.int .i64 0,.bool false]
def CR:D4->Ah
 | .put _ _=>KP
 | .cu _=>Et
 | .dV _=>Io
 | .shift _ _ _=>Dq
 | .inc _=>Mo
 | .dec _=>Mq
 | .drop=>Ja
 | .bump=>Jb
def Hc:D4->Int
 | .put q _=>q
 | .cu q=>q
 | .dV q=>q
 | .shift q _ _=>q
 | .inc v=>v
 | .dec v=>v
 |_=>0
def He:D4->Int
 | .shift _ p _=>p
 |_=>0
def C3:D4->Bool
 | .put _ t=>t
 | .shift _ _ t=>t
 |_=>false
def A6:Value:=.slice none 0 0
def Lr (p:D4):List Value:=[vs (CR p),.int .i64 (Hc p),.int .i64 (He p),.bool (C3 p)]++MT++[A6,A6]
def L9 (c:C5) (a ve:Value):List Value:=[vs Jk,.int .i64 0,.int .i64 0,.bool false]++Bu c++[a,ve]
def IX (n:Int) (c:C5) (a:Value):List Value:=[vs Bf,.int .i64 n,.int .i64 0,.bool false]++Bu c++[a,A6]
theorem gF (c:CK):(M5 c).length=4:=by cases c<;>rfl
theorem cM (c:C5):(Bu c).length=7:=by simp[Bu,gF]
def Sn (N:Nat->Prop) (w:World) (v:Value) (n:Nat) (cs:List Value):Prop:=
 Sl N w 220 13 v n cs/\∃g c,v= .slice (some ⟨g,0,none⟩) n c
def A5 (N:Nat->Prop) (w:World):Az->List Value->Prop
 | .nil,cs=>cs=[]
 | .bN p r,cs=>∃rest,cs=Lr p++rest/\A5 N w r rest
 | .ite c t o e r,cs=>∃a ve rest,cs=L9 c a ve++rest/\(∃d,Sn N w a t.length d/\A5 N w t d)/\
   (if o then∃f,Sn N w ve e.length f/\A5 N w e f else ve=A6/\e= .nil)/\A5 N w r rest
 | .rep n c b r,cs=>∃a rest,cs=IX n c a++rest/\(∃d,Sn N w a b.length d/\A5 N w b d)/\A5 N w r rest
def DG (N:Nat->Prop) (w:World) (v:Value) (b:Az):Prop:=∃cs,Sn N w v b.length cs/\A5 N w b cs
section
variable {N N':Nat->Prop}{w w':World}
theorem Sn.kept {v:Value}{n:Nat}{cs:List Value}(h:Sn N w v n cs) (f:∀k cs,N k->AF w k 220 cs->w'.heap[k]?=w.heap[k]?):Sn N w' v n cs:=by
 obtain⟨⟨⟨i,b⟩,d⟩,j⟩:=h;refine⟨⟨⟨i,?_⟩,d⟩,j⟩;rcases b with b|⟨g,c,a,rfl,l,e,m⟩
 ·exact .inl b
 ·exact .inr ⟨g,c,a,rfl,l,(f g a.toList (d g rfl) (by unfold AF;simpa using e)).trans e,m⟩
theorem Sn.mono {v:Value}{n:Nat}{cs:List Value}(h:Sn N w v n cs) (b:∀k,k<w.heap.size->N k->N' k):Sn N' w v n cs:=
 ⟨⟨h.1.1,λg a=>b g (h.1.lt a) (h.1.2 g a)⟩,h.2⟩
theorem A5.kept (a:∀k cs,N k->AF w k 220 cs->w'.heap[k]?=w.heap[k]?):∀(b:Az) (cs:List Value),A5 N w b cs->A5 N w' b cs
 | .nil,_,h=>h
 | .bN p r,cs,⟨rest,d,f⟩=>⟨rest,d,A5.kept a r rest f⟩
 | .ite c t o e r,cs,⟨i,ve,rest,d,⟨g,f,j⟩,m,l⟩=>⟨i,ve,rest,d,⟨g,f.kept a,A5.kept a t g j⟩,by
   cases o with
   |false=>exact m
   |true=>
    obtain⟨q,s,u⟩:=m;exact⟨q,s.kept a,A5.kept a e q u⟩,A5.kept a r rest l⟩
 | .rep n c b r,cs,⟨i,rest,d,⟨g,f,j⟩,l⟩=>⟨i,rest,d,⟨g,f.kept a,A5.kept a b g j⟩,A5.kept a r rest l⟩
theorem A5.mono (a:∀k,k<w.heap.size->N k->N' k):∀(b:Az) (cs:List Value),A5 N w b cs->A5 N' w b cs
 | .nil,_,h=>h
 | .bN p r,cs,⟨rest,d,f⟩=>⟨rest,d,A5.mono a r rest f⟩
 | .ite c t o e r,cs,⟨i,ve,rest,d,⟨g,f,j⟩,m,l⟩=>⟨i,ve,rest,d,⟨g,f.mono a,A5.mono a t g j⟩,by
   cases o with
   |false=>exact m
   |true=>
    obtain⟨q,s,u⟩:=m;exact⟨q,s.mono a,A5.mono a e q u⟩,A5.mono a r rest l⟩
 | .rep n c b r,cs,⟨i,rest,d,⟨g,f,j⟩,l⟩=>⟨i,rest,d,⟨g,f.mono a,A5.mono a b g j⟩,A5.mono a r rest l⟩
theorem A5.app:∀(b:Az) (cs:List Value) (r:Az) (a:List Value),A5 N w b cs->A5 N w r a->A5 N w (b.app r) (cs++a)
 | .nil,_,r,a,h,d=>by rw[show _=[]from h];exact d
 | .bN p x,cs,r,a,⟨rest,f,g⟩,d=>⟨rest++a,by rw[f,AL],A5.app x rest r a g d⟩
 | .ite c t o e x,cs,r,a,⟨i,ve,rest,f,g,k,j⟩,d=>⟨i,ve,rest++a,by rw[f,AL],g,k,A5.app x rest r a j d⟩
 | .rep n c b x,cs,r,a,⟨i,rest,f,g,j⟩,d=>⟨i,rest++a,by rw[f,AL],g,A5.app x rest r a j d⟩
theorem DG.kept {v:Value}{b:Az}(h:DG N w v b) (a:∀k cs,N k->AF w k 220 cs->w'.heap[k]?=w.heap[k]?):DG N w' v b:=by obtain⟨cs,c,d⟩:=h;exact⟨cs,c.kept a,A5.kept a b cs d⟩
theorem DG.mono {v:Value}{b:Az}(h:DG N w v b) (a:∀k,k<w.heap.size->N k->N' k):DG N' w v b:=by obtain⟨cs,c,d⟩:=h;exact⟨cs,c.mono a,A5.mono a b cs d⟩
end
theorem Az.fP:∀(b r:Az),(b.app r).length=b.length+r.length
 | .nil,r=>by simp[Az.app,Az.length]
 | .bN p x,r=>by simp[Az.app,Az.length,Az.fP x r];omega
 | .ite c t o e x,r=>by simp[Az.app,Az.length,Az.fP x r];omega
 | .rep n c b x,r=>by simp[Az.app,Az.length,Az.fP x r];omega
end Go.Proofs.YtodkkholbjeioaaGreatDoor.Ev
namespace Go.Proofs.YtodkkholbjeioaaGreatDoor.Ev
open _root_.Go.Proofs.Tryz
def EU (n:Nat):Ah:=
 if n<10 then [UInt8.ofNat (48+n)]else EU (n/10)++[UInt8.ofNat (48+n%10)]
termination_by n
decreasing_by omega
def Ck (n:Int):Ah:=EU n.toNat
def Cd:Ah:=[32]
def Bv (l:List Bi) (k:Int):Ah:=(Aq l k).name
def Ei (l:List Bi):Ra->Ah
 | .num n=>Ck n
 | .var k=>Bv l k
 | .len k=>JU++Cd++Bv l k
 | .bI=>Cy
def Jp (l:List Bi):CK->Ah
 | .full k=>Fb++Cd++Bv l k
 | .empty k=>DN++Cd++Bv l k
 | .fC k=>Fa++Cd++Bv l k
 | .less a b=>Ei l a++[32,60,32]++Ei l b
def DH (l:List Bi) (c:C5):Ah:=(if c.bP%2=1 then Lg++Cd else [])++Jp l c.k
def Jo (t:Bool):Ah:=if t then Cd++CJ else []
def CB (l:List Bi):D4->Ah
 | .put q t=>KP++Cd++Bv l q++Jo t++AP
 | .cu q=>Et++Cd++Bv l q++AP
 | .dV q=>Io++Cd++Bv l q++AP
 | .shift q p t=>Dq++Cd++Bv l q++Cd++Bv l p++Jo t++AP
 | .inc v=>Mo++Cd++Bv l v++AP
 | .dec v=>Mq++Cd++Bv l v++AP
 | .drop=>Ja++AP
 | .bump=>Jb++AP
def AV (l:List Bi):Az->Ah
 | .nil=>[]
 | .bN p r=>Cd++CB l p++AV l r
 | .ite c t o e r=>Cd++(Jk++Cd++DH l c++Cd++(Cx++AV l t++Cd++DC)++
   (if o then Cd++Dn++Cd++(Cx++AV l e++Cd++DC)else []))++AV l r
 | .rep n c b r=>Cd++(Bf++Cd++Ck n++Cd++Cv++Cd++DH l c++Cd++(Cx++AV l b++Cd++DC))++AV l r
def BV (l:List Bi) (b:Az):Ah:=Cx++AV l b++Cd++DC
def IB (k:Nat):Ah:=if k=0 then EO else if k=1 then Gg else Jy
def Ku (d:Bi):Ah:=IB d.kind++Cd++d.name++Cd++Ck d.max++[59,10]
def DT (f:Int):Ah:=if 0<f then Cy++Cd++Ck f++[59,10]else []
def FJ (p:Ax) (k:Nat):Ah:=
 match Bj p.rules (k:Int)with
 |some b=>T9++Cd++Bv p.decls (k:Int)++Cd++BV p.decls b++[10]
 |none=>[]
def BD (p:Ax):Nat->Ah
 |0=>[]
 |k+1=>BD p k++FJ p k
def RK (p:Ax):Ah:=T9++Cd++Fo++Cd++BV p.decls ((Es p.rules).getD .nil)++[10]
def text (p:Ax):Ah:=(p.decls.map Ku).flatten++DT p.bI++BD p p.decls.length++RK p
structure Gp where
 key:Int
 bI:Int
structure St where
 q:List (List Gp)
 vars:List Int
def St.queue (s:St) (k:Int):List Gp:=(s.q[k.toNat]?).getD []
def St.bR (s:St) (k:Int) (l:List Gp):St:={s with q:=s.q.set k.toNat l}
def St.var (s:St) (k:Int):Int:=(s.vars[k.toNat]?).getD 0
def C7 (key:Int):List Gp->Nat->Option Nat
 | [],_=>none
 |e::l,i=>if e.key=key then some i else C7 key l (i+1)
def DY (key:Int):List (List Gp)->Nat->Option (Nat×Nat)
 | [],_=>none
 |l::r,k=>match C7 key l 0 with
  |some i=>some (k,i)
  |none=>DY key r (k+1)
def St.find (s:St) (key:Int):Option (Nat×Nat):=DY key s.q 0
def AY (l:List Bi) (k:Int):Bool:=decide (0<=k)&&(Aq l k).kind==0
def Bm (l:List Gp) (i:Nat):Gp:=(l[i]?).getD ⟨0,0⟩
structure DQ where
 s:St
 gone:List Int
def DQ.leaves (l:List Bi) (from_:Int) (key:Int) (r:DQ):DQ:=
 if AY l from_ then {r with gone:=r.gone++[key]}else r
def JK (l:List Bi) (e:Gp) (from_ a:Int) (b:Bool) (r:DQ):Except Nat DQ:=
 if(Aq l a).max<=((r.s.queue a).length:Int)then .error Ul
 else
  let s:=r.s.bR a (if b then r.s.queue a++[e]else e::r.s.queue a)
  .ok (if AY l a then {r with s:=s}else DQ.leaves l from_ e.key {r with s:=s})
def St.out (s:St) (q:Nat) (i:Nat):St:={s with q:=s.q.set q (((s.q[q]?).getD []).eraseIdx i)}
def Bs (l:List Gp):Gp:=Bm l (l.length-1)
def gI (l:List Gp) (i:Nat) (f:Int):List Gp:=l.set i {(Bm l i)with bI:=f}
def bN (p:Ax) (key:Int) (x:D4) (r:DQ):Except Nat DQ:=
 match x with
 | .put q t=>match r.s.find key with
  |some (k,i)=>JK p.decls (Bm (r.s.queue k) i) k q t {r with s:=r.s.out k i}
  |none=>JK p.decls ⟨key,0⟩ (-1) q t r
 | .drop=>match r.s.find key with
  |some (k,i)=>.ok (DQ.leaves p.decls k key {r with s:=r.s.out k i})
  |none=>.ok r
 | .inc v=>.ok (if r.s.var v<(Aq p.decls v).max then {r with s:={r.s with vars:=r.s.vars.set v.toNat (r.s.var v+1)}}else r)
 | .dec v=>.ok (if 0<r.s.var v then {r with s:={r.s with vars:=r.s.vars.set v.toNat (r.s.var v-1)}}else r)
 | .bump=>match r.s.find key with
  |some (k,i)=>.ok (if(Bm (r.s.queue k) i).bI<p.bI then
    {r with s:=r.s.bR k (gI (r.s.queue k) i ((Bm (r.s.queue k) i).bI+1))}else r)
  |none=>.ok r
 | .dV q=>
  if r.s.queue q=[]then .error Ma
  else .ok (if 0<(Bs (r.s.queue q)).bI then
   {r with s:=r.s.bR q (gI (r.s.queue q) ((r.s.queue q).length-1) ((Bs (r.s.queue q)).bI-1))}else r)
 | .cu q=>
  if r.s.queue q=[]then .error Ma
  else .ok (DQ.leaves p.decls q (Bs (r.s.queue q)).key {r with s:=r.s.bR q (r.s.queue q).dropLast})
 | .shift q t tl=>
  if r.s.queue q=[]then .error Ma
  else JK p.decls (Bs (r.s.queue q)) q t tl {r with s:=r.s.bR q (r.s.queue q).dropLast}
def dW (s:St) (key:Int):Int:=
 match s.find key with
 |some (k,i)=>(Bm (s.queue k) i).bI
 |none=>0
def JD (key:Int) (s:St):Ra->Int
 | .num n=>n
 | .var k=>s.var k
 | .len k=>(s.queue k).length
 | .bI=>dW s key
def Oc (l:List Bi) (key:Int) (s:St):CK->Bool
 | .full k=>decide ((Aq l k).max<=((s.queue k).length:Int))
 | .empty k=>decide ((s.queue k).length=0)
 | .fC k=>decide (0<(s.queue k).length)&&decide (0<(Bs (s.queue k)).bI)
 | .less a b=>decide (JD key s a<JD key s b)
def BF (l:List Bi) (key:Int) (s:St) (c:C5):Bool:=Oc l key s c.k !=(c.bP%2==1)
def Gt (c:St->Bool) (f:DQ->Except Nat DQ):Nat->DQ->Except Nat DQ
 |0,r=>.ok r
 |n+1,r=>if c r.s then(match f r with
   | .ok r=>Gt c f n r
   | .error e=>.error e)else .ok r
def exec (p:Ax) (key:Int):Az->DQ->Except Nat DQ
 | .nil,r=>.ok r
 | .bN x b,r=>match bN p key x r with
  | .ok r=>exec p key b r
  | .error e=>.error e
 | .ite c t o e b,r=>match(if BF p.decls key r.s c then exec p key t r else if o then exec p key e r else .ok r)with
  | .ok r=>exec p key b r
  | .error e=>.error e
 | .rep n c x b,r=>match Gt (λs=>BF p.decls key s c) (exec p key x) n.toNat r with
  | .ok r=>exec p key b r
  | .error e=>.error e
structure Km where
 fx:Int
 dH:Int
 cw:Int
structure EX where
 p:Ax
 s:St
 n:Km
def EX.new (p:Ax):EX:=⟨p,⟨List.replicate p.decls.length [],List.replicate p.decls.length 0⟩,⟨0,0,0⟩⟩
def En (s:St) (key:Int):Int:=
 match s.find key with
 |some (k,_)=>k
 |none=> -1
def C0 (p:Ax) (q:Int):Az:=(Bj p.rules q).getD .nil
inductive Ans where
 |ok (hit:Bool) (gone:List Int) (e:EX)
 |err (n:Nat)
def EX.access (e:EX) (key:Int):Ans:=
 let q:=En e.s key
 match exec e.p key (C0 e.p q) ⟨e.s,[]⟩with
 | .error n=>.err n
 | .ok r=>
  let hit:=AY e.p.decls q
  .ok hit r.gone {e with s:=r.s,n:=⟨e.n.fx+(if hit then 1 else 0),e.n.dH+(if hit then 0 else 1),e.n.cw+r.gone.length⟩}
def EX.remove (e:EX) (key:Int):Bool×EX:=
 match e.s.find key with
 |some (k,i)=>(true,{e with s:=e.s.out k i})
 |none=>(false,e)
def EX.keys (e:EX) (nm:Ah):Option (List Int):=
 let k:=find e.p.decls nm
 if k<0\/(Aq e.p.decls k).kind=2 then none else some ((e.s.queue k).map (·.key))
def EX.value (e:EX) (nm:Ah):Option Int:=
 let k:=find e.p.decls nm
 if k<0\/(Aq e.p.decls k).kind≠2 then none else some (e.s.var k)
inductive Gm where
 |bN (x:D4)
 |num (n:Int)
 |var (n:Int)
 |len (n:Int)
 |bI
 |less
 |full (n:Int)
 |fC (n:Int)
 |not
 |jump (a:Nat)
 |skip (a:Nat)
 |count (c:Nat) (n:Int)
 |again (c a:Nat)
 |fin
def D4.op:D4->Nat
 | .put _ false=>0
 | .put _ true=>1
 | .cu _=>2
 | .shift _ _ false=>3
 | .shift _ _ true=>4
 | .drop=>5
 | .inc _=>6
 | .dec _=>6
 | .bump=>7
 | .dV _=>8
def D4.a:D4->Int
 | .put q _=>q
 | .cu q=>q
 | .shift q _ _=>q
 | .inc v=>v
 | .dec v=>v
 | .dV q=>q
 |_=>0
def D4.b:D4->Int
 | .shift _ p _=>p
 | .inc _=>1
 | .dec _=> -1
 |_=>0
def Gm.op:Gm->Nat
 | .bN x=>x.op
 | .num _=>9
 | .var _=>10
 | .len _=>11
 | .bI=>12
 | .less=>13
 | .full _=>14
 | .fC _=>15
 | .not=>16
 | .jump _=>17
 | .skip _=>18
 | .count _ _=>19
 | .again _ _=>20
 | .fin=>21
def Gm.a:Gm->Int
 | .bN x=>x.a
 | .num n=>n
 | .var n=>n
 | .len n=>n
 | .full n=>n
 | .fC n=>n
 | .jump a=>a
 | .skip a=>a
 | .count c _=>c
 | .again c _=>c
 |_=>0
def Gm.b:Gm->Int
 | .bN x=>x.b
 | .count _ n=>n
 | .again _ a=>a
 |_=>0
def Gk:Ra->Gm
 | .num n=>.num n
 | .var n=>.var n
 | .len n=>.len n
 | .bI=>.bI
def JJ:CK->List Gm
 | .full n=>[.full n]
 | .empty n=>[.len n,.num 1,.less]
 | .fC n=>[.fC n]
 | .less a b=>[Gk a,Gk b,.less]
def Ar (c:C5):List Gm:=JJ c.k++if c.bP%2==1 then [.not]else []
def Az.loops:Az->Nat
 | .nil=>0
 | .bN _ r=>r.loops
 | .ite _ t _ e r=>t.loops+e.loops+r.loops
 | .rep _ _ b r=>1+b.loops+r.loops
def BP:Nat->Nat->Az->List Gm
 |_,_,.nil=>[]
 |c,o,.bN p r=>.bN p::BP c (o+1) r
 |c,o,.ite k t a e r=>
  let n1:=o+(Ar k).length+1
  let T:=BP c n1 t
  if a then
   let E:=BP (c+t.loops) (n1+T.length+1) e
   Ar k++ .skip (n1+T.length+1)::(T++ .jump (n1+T.length+1+E.length)::(E++BP (c+t.loops+e.loops) (n1+T.length+1+E.length) r))
  else Ar k++ .skip (n1+T.length)::(T++BP (c+t.loops) (n1+T.length) r)
 |c,o,.rep n k b r=>
  let n1:=o+2+(Ar k).length+1
  let B:=BP (c+1) n1 b
  .count c n:: .again c (n1+B.length+1)::(Ar k++ .skip (n1+B.length+1)::(B++ .jump (o+1)::BP (c+1+b.loops) (n1+B.length+1) r))
def Ix (m:Nat) (n:Int):Prop:=0<=n/\n<m
instance (m:Nat) (n:Int):Decidable (Ix m n):=by unfold Ix;exact inferInstance
def Ki (l:List Bi):D4->Prop
 | .put q _=>Ix l.length q/\(Aq l q).kind≠2
 | .cu q=>Ix l.length q
 | .dV q=>Ix l.length q
 | .shift q p _=>Ix l.length q/\Ix l.length p/\(Aq l p).kind≠2
 | .inc v=>Ix l.length v
 | .dec v=>Ix l.length v
 |_=>True
instance (l:List Bi) (x:D4):Decidable (Ki l x):=by cases x<;>unfold Ki<;>exact inferInstance
def sw (m:Nat):Ra->Prop
 | .num _=>True
 | .var n=>Ix m n
 | .len n=>Ix m n
 | .bI=>True
def Ab7 (m:Nat):CK->Prop
 | .full n=>Ix m n
 | .empty n=>Ix m n
 | .fC n=>Ix m n
 | .less a b=>sw m a/\sw m b
def MN (l:List Bi):Az->Prop
 | .nil=>True
 | .bN p r=>Ki l p/\MN l r
 | .ite c t o e r=>Ab7 l.length c.k/\MN l t/\MN l e/\MN l r/\(o=false->e= .nil)
 | .rep n c b r=>Ab7 l.length c.k/\MN l b/\MN l r/\0<=n
def Az.bY:Az->Nat
 | .nil=>0
 | .bN _ r=>1+r.bY
 | .ite _ t _ e r=>t.bY+e.bY+r.bY
 | .rep n _ b r=>n.toNat*b.bY+r.bY
def Do:Nat:=100000000
structure VS where
 pc:Nat
 stack:List Int
 yes:Bool
 loops:List Int
 r:DQ
section
variable (p:Ax) (key:Int)
def EB (v:VS):Gm->Option (VS ⊕ Except Nat DQ)
 | .bN x=>if Ki p.decls x/\v.r.gone.length<Do then
   match bN p key x v.r with
   | .ok r=>some (.inl {v with pc:=v.pc+1,r:=r})
   | .error e=>some (.inr (.error e))
  else none
 | .num n=>if v.stack.length<=1 then some (.inl {v with pc:=v.pc+1,stack:=n::v.stack})else none
 | .var n=>if Ix p.decls.length n/\v.stack.length<=1 then some (.inl {v with pc:=v.pc+1,stack:=v.r.s.var n::v.stack})else none
 | .len n=>if Ix p.decls.length n/\v.stack.length<=1 then some (.inl {v with pc:=v.pc+1,stack:=((v.r.s.queue n).length:Int)::v.stack})else none
 | .bI=>if v.stack.length<=1 then some (.inl {v with pc:=v.pc+1,stack:=dW v.r.s key::v.stack})else none
 | .less=>match v.stack with
  |b::a::st=>some (.inl {v with pc:=v.pc+1,stack:=st,yes:=decide (a<b)})
  |_=>none
 | .full n=>if Ix p.decls.length n then some (.inl {v with pc:=v.pc+1,yes:=decide ((Aq p.decls n).max<=((v.r.s.queue n).length:Int))})else none
 | .fC n=>if Ix p.decls.length n then some (.inl {v with pc:=v.pc+1,yes:=decide (0<(v.r.s.queue n).length)&&decide (0<(Bs (v.r.s.queue n)).bI)})else none
 | .not=>some (.inl {v with pc:=v.pc+1,yes:=!v.yes})
 | .jump a=>some (.inl {v with pc:=a})
 | .skip a=>some (.inl {v with pc:=if v.yes then v.pc+1 else a})
 | .count c n=>if c<v.loops.length then some (.inl {v with pc:=v.pc+1,loops:=v.loops.set c n})else none
 | .again c a=>match v.loops[c]? with
  |none=>none
  |some n=>if n=0 then some (.inl {v with pc:=a})else some (.inl {v with pc:=v.pc+1,loops:=v.loops.set c (n-1)})
 | .fin=>some (.inr (.ok v.r))
def Ve (code:List Gm):Nat->VS->Option (Except Nat DQ)
 |0,_=>none
 |k+1,v=>match code[v.pc]? with
  |none=>none
  |some i=>match EB p key v i with
   |none=>none
   |some (.inr r)=>some r
   |some (.inl a)=>Ve code k a
def iK (code:List Gm) (o:Nat) (l:List Gm):Prop:=∃a b,code=a++(l++b)/\a.length=o
variable {p key}
theorem iK.left {code:List Gm}{o:Nat}{a b:List Gm}(h:iK code o (a++b)):iK code o a:=by obtain⟨x,y,c,d⟩:=h;exact⟨x,b++y,by rw[c];simp,d⟩
theorem iK.right {code:List Gm}{o:Nat}{a b:List Gm}(h:iK code o (a++b)):iK code (o+a.length) b:=by obtain⟨x,y,c,d⟩:=h;exact⟨x++a,y,by rw[c];simp,by simp[d]⟩
theorem iK.head {code:List Gm}{o:Nat}{i:Gm}{b:List Gm}(h:iK code o (i::b)):code[o]?=some i:=by obtain⟨x,y,a,c⟩:=h;rw[a,←c];simp
theorem iK.tail {code:List Gm}{o:Nat}{i:Gm}{b:List Gm}(h:iK code o (i::b)):iK code (o+1) b:=iK.right (a:=[i]) h
def DJ (p:Ax) (key:Int) (code:List Gm) (v a:VS):Prop:=∃n,∀k,Ve p key code (n+k) v=Ve p key code k a
def nB (p:Ax) (key:Int) (code:List Gm) (v:VS) (e:Nat):Prop:=∃n,Ve p key code n v=some (.error e)
variable {code:List Gm}
theorem DJ.refl (v:VS):DJ p key code v v:=⟨0,λk=>by rw[DK]⟩
theorem DJ.trans {a b c:VS}(h:DJ p key code a b) (d:DJ p key code b c):DJ p key code a c:=by obtain⟨n,e⟩:=h;obtain⟨m,f⟩:=d;exact⟨n+m,λk=>by rw[E5,e,f]⟩
theorem DJ.dies {a b:VS}{e:Nat}(h:DJ p key code a b) (c:nB p key code b e):nB p key code a e:=by obtain⟨n,d⟩:=h;obtain⟨m,f⟩:=c;exact⟨n+m,by rw[d,f]⟩
theorem DJ.step {v a:VS}{i:Gm}(h:code[v.pc]?=some i) (b:EB p key v i=some (.inl a)):DJ p key code v a:=
 ⟨1,λk=>by rw[FH];simp only[Ve,h,b]⟩
theorem nB.step {v:VS}{i:Gm}{e:Nat}(h:code[v.pc]?=some i) (a:EB p key v i=some (.inr (.error e))):nB p key code v e:=
 ⟨1,by simp only[Ve,h,a]⟩
theorem PJ {o:Nat}(x:Ra) (h:code[o]?=some (Gk x)) (b:sw p.decls.length x) (v:VS) (c:v.pc=o) (a:v.stack.length<=1):
  DJ p key code v {v with pc:=o+1,stack:=JD key v.r.s x::v.stack}:=by
 subst c;refine DJ.step h ?_;cases x with
 |num n=>simp only[Gk,EB];rw[Al a];rfl
 |var n=>simp only[Gk,EB];rw[Al ⟨show Ix p.decls.length n from b,a⟩];rfl
 |len n=>simp only[Gk,EB];rw[Al ⟨show Ix p.decls.length n from b,a⟩];rfl
 |bI=>simp only[Gk,EB];rw[Al a];rfl
theorem QY {o:Nat}(c:C5) (h:iK code o (Ar c)) (f:Ab7 p.decls.length c.k) (v:VS) (u:v.pc=o) (g:v.stack=[]):
  DJ p key code v {v with pc:=o+(Ar c).length,yes:=BF p.decls key v.r.s c}:=by
 have d:=h.left;have w:DJ p key code v {v with pc:=o+(JJ c.k).length,yes:=Oc p.decls key v.r.s c.k}:=by
  subst u;cases j:c.k with
  |full n=>
   rw[j]at d f;refine DJ.step d.head ?_;simp only[EB];rw[Al (show Ix p.decls.length n from f)];rfl
  |fC n=>
   rw[j]at d f;refine DJ.step d.head ?_;simp only[EB];rw[Al (show Ix p.decls.length n from f)];rfl
  |empty n=>
   rw[j]at d f;have l:=PJ (key:=key) (.len n) d.head f v rfl (by rw[g];exact AM _);have m:=PJ (p:=p) (key:=key) (.num 1) d.tail.head trivial {v with pc:=v.pc+1,stack:=JD key v.r.s (.len n)::v.stack} rfl (by simp[g]);refine l.trans (m.trans ?_);refine DJ.step (i:=.less) d.tail.tail.head ?_;have e:decide (((v.r.s.queue n).length:Int)<1)=decide ((v.r.s.queue n).length=0):=by rw[decide_eq_decide];omega
   show some (Sum.inl {v with pc:=v.pc+1+1+1,yes:=decide (((v.r.s.queue n).length:Int)<1)})=_;rw[e];rfl
  |less a b=>
   rw[j]at d f;have l:=PJ (key:=key) a d.head f.1 v rfl (by rw[g];exact AM _);have m:=PJ (key:=key) b d.tail.head f.2 {v with pc:=v.pc+1,stack:=JD key v.r.s a::v.stack} rfl (by simp[g]);refine l.trans (m.trans ?_);exact DJ.step (i:=.less) d.tail.tail.head rfl
 refine w.trans ?_;have q:=h.right;unfold BF Ar at*;cases t:(c.bP%2==1)with
 |false=>rw[t]at q;simp;exact DJ.refl _
 |true=>
  rw[t]at q;refine DJ.step (i:=.not) q.head ?_;simp[EB];omega
structure Ahc (c:Nat) (v v':VS) (o':Nat) (r':DQ):Prop where
 pc:v'.pc=o'
 r:v'.r=r'
 stack:v'.stack=v.stack
 len:v'.loops.length=v.loops.length
 low:∀i,i<c->v'.loops[i]?=v.loops[i]?
def Il (p:Ax) (key:Int) (code:List Gm) (c:Nat) (v:VS) (o':Nat):Except Nat DQ->Prop
 | .ok r'=>∃a,DJ p key code v a/\Ahc c v a o' r'
 | .error e=>nB p key code v e
theorem Il.reach {c o':Nat}{v d:VS}{x:Except Nat DQ}(h:DJ p key code v d) (k:d.stack=v.stack) (l:d.loops.length=v.loops.length) (f:∀i,i<c->d.loops[i]?=v.loops[i]?)
  (g:Il p key code c d o' x):Il p key code c v o' x:=by
 cases x with
 |ok r=>
  obtain⟨m,a,b⟩:=g;exact⟨m,h.trans a,b.pc,b.r,b.stack.trans k,b.len.trans l,λi j=>(b.low i j).trans (f i j)⟩
 |error e=>exact h.dies g
def rI (x:Except Nat DQ) (f:DQ->Except Nat DQ):Except Nat DQ:=
 match x with
 | .ok r=>f r
 | .error e=>.error e
theorem Il.dd {c d o':Nat}{v:VS}{x:Except Nat DQ}(h:c<=d) (g:Il p key code d v o' x):Il p key code c v o' x:=by
 cases x with
 |error e=>exact g
 |ok r=>
  obtain⟨f,a,b⟩:=g;exact⟨f,a,b.pc,b.r,b.stack,b.len,λi j=>b.low i (by omega)⟩
theorem Il.seq {c g j o2:Nat}{v:VS}{x:Except Nat DQ}{f:DQ->Except Nat DQ}(l:c<=g) (h:Il p key code g v j x)
  (k:∀d r,x= .ok r->Ahc g v d j r->Il p key code c d o2 (f r)):
  Il p key code c v o2 (rI x f):=by
 cases x with
 |error e=>exact h
 |ok r=>
  obtain⟨d,a,b⟩:=h;exact Il.reach a b.stack b.len (λi m=>b.low i (by omega)) (k d r rfl b)
theorem Pj (l:List Bi) (f k:Int) (r:DQ):(DQ.leaves l f k r).gone.length<=r.gone.length+1:=by
 unfold DQ.leaves;split
 ·simp
 ·omega
theorem QZ {l:List Bi}{e:Gp}{f t:Int}{tl:Bool}{r r':DQ}(h:JK l e f t tl r= .ok r'):r'.gone.length<=r.gone.length+1:=by
 unfold JK at h;split at h
 ·cases h
 ·injection h with h;subst h;split
  ·exact Cc _
  ·exact Pj _ _ _ _
theorem X6 {x:D4}{r r':DQ}(h:bN p key x r= .ok r'):r'.gone.length<=r.gone.length+1:=by
 cases x with
 |put q t=>
  simp only[bN]at h;split at h
  ·have a:=QZ h;exact a
  ·have a:=QZ h;exact a
 |cu q=>
  simp only[bN]at h;split at h
  ·cases h
  ·injection h with h;subst h;exact Pj _ _ _ _
 |dV q=>
  simp only[bN]at h;split at h
  ·cases h
  ·injection h with h;subst h;split<;>exact Cc _
 |shift q t tl=>
  simp only[bN]at h;split at h
  ·cases h
  ·have a:=QZ h;exact a
 |inc v=>simp only[bN]at h;injection h with h;subst h;split<;>exact Cc _
 |dec v=>simp only[bN]at h;injection h with h;subst h;split<;>exact Cc _
 |drop=>
  simp only[bN]at h;split at h
  ·injection h with h;subst h;exact Pj _ _ _ _
  ·injection h with h;subst h;exact Cc _
 |bump=>
  simp only[bN]at h;split at h
  ·injection h with h;subst h;split<;>exact Cc _
  ·injection h with h;subst h;exact Cc _
theorem QL {c:St->Bool}{f:DQ->Except Nat DQ}{m:Nat}(a:∀r r',f r= .ok r'->r'.gone.length<=r.gone.length+m):∀(n:Nat) (r r':DQ),Gt c f n r= .ok r'->r'.gone.length<=r.gone.length+n*m
 |0,r,r',h=>by rw[Gt]at h;injection h with h;subst h;omega
 |n+1,r,r',h=>by
  rw[Gt]at h;split at h
  ·split at h
   ·rename_i r1 e;have b:=a _ _ e;have d:=QL a n r1 r' h;rw[Nat.succ_mul];omega
   ·cases h
  ·injection h with h;subst h;exact Dc _ _
theorem EE:∀(b:Az) (r r':DQ),exec p key b r= .ok r'->r'.gone.length<=r.gone.length+b.bY
 | .nil,r,r',h=>by rw[exec]at h;injection h with h;subst h;exact Dc _ _
 | .bN x b,r,r',h=>by
  rw[exec]at h;split at h
  ·rename_i r1 e;have a:=X6 e;have d:=EE b r1 r' h;simp only[Az.bY];omega
  ·cases h
 | .ite c t o e b,r,r',h=>by
  rw[exec]at h;split at h
  ·rename_i r1 e1;have d:=EE b r1 r' h;have a:r1.gone.length<=r.gone.length+(t.bY+e.bY):=by
    split at e1
    ·have:=EE t r r1 e1;omega
    ·split at e1
     ·have:=EE e r r1 e1;omega
     ·injection e1 with e1;subst e1;omega
   simp only[Az.bY];omega
  ·cases h
 | .rep n c x b,r,r',h=>by
  rw[exec]at h;split at h
  ·rename_i r1 e1;have d:=EE b r1 r' h;have a:=QL (m:=x.bY) (λr r' f=>EE x r r' f) n.toNat r r1 e1;simp only[Az.bY];omega
  ·cases h
theorem JI:∀(b:Az) (c o:Nat),iK code o (BP c o b)->MN p.decls b->∀v:VS,v.pc=o->c+b.loops<=v.loops.length->v.stack=[]->v.r.gone.length+b.bY<=Do->Il p key code c v (o+(BP c o b).length) (exec p key b v.r)
 | .nil,c,o,_,_,v,A,_,_,_=>⟨v,DJ.refl v,A,rfl,rfl,rfl,λ_ _=>rfl⟩
 | .bN x r,c,o,h,B,v,A,M,g,N=>by
  have O:v.r.gone.length+(1+r.bY)<=Do:=N;have T:v.r.gone.length<Do:=by omega
  have U:=h.head;have ht:=h.tail;rw[exec];rw[←A]at U;cases P:bN p key x v.r with
  |error e=>
   refine nB.step U ?_;simp only[EB];rw[Al ⟨B.1,T⟩,P]
  |ok r1=>
   have W:DJ p key code v {v with pc:=v.pc+1,r:=r1}:=DJ.step U (by simp only[EB];rw[Al ⟨B.1,T⟩,P]);refine Il.reach W rfl rfl (λ_ _=>rfl) ?_;have:=JI r c (o+1) ht B.2 {v with pc:=v.pc+1,r:=r1} (by simp[A]) M g (by have:=X6 P;show r1.gone.length+_<=_;omega);simpa[BP,E5,FH 1]using this
 | .ite k t C e r,c,o,h,B,v,A,M,g,N=>by
  have O:v.r.gone.length+(t.bY+e.bY+r.bY)<=Do:=N;obtain⟨G,H,Q,E,X⟩:=B;have Y:c+(t.loops+e.loops+r.loops)<=v.loops.length:=M;have P:exec p key (.ite k t C e r) v.r=rI (if BF p.decls key v.r.s k then exec p key t v.r else if C then exec p key e v.r else .ok v.r) (exec p key r):=rfl;rw[P];cases C with
  |true=>
   simp only[BP,A7]at h ⊢;have R:=h.left;have F:=h.right;obtain⟨D,Z,S⟩:=zp3 F.head F.tail.left F.tail.right;obtain⟨I,hE,K,V⟩:=zp4 S.head S.tail.left S.tail.right (QY (key:=key) k R G v A g);refine Il.reach V rfl rfl (λ_ _=>rfl) ?_;have g2:DJ p key code {v with pc:=o+(Ar k).length,yes:=BF p.decls key v.r.s k} _:=DJ.step D rfl;refine Il.reach g2 rfl rfl (λ_ _=>rfl) ?_;have z:∀a b c d e:Nat,a+(b+(c+(d+e+1)+1))=a+b+1+c+1+d+e:=by intros;omega
   simp only[Ao,Af,z];generalize hq:BF p.decls key v.r.s k=y;cases y with
   |true=>
    simp only[A7];have gt:=JI t c (o+(Ar k).length+1) Z H {v with pc:=o+(Ar k).length+1,yes:=true} rfl (by show c+t.loops<=v.loops.length;omega) g (by show v.r.gone.length+_<=_;omega);refine Il.seq (Ab _) gt ?_;intro l r' q j;have u:=EE t _ _ q;have w:=j.r;have g3:DJ p key code l _:=DJ.step (by rw[j.pc];exact I) rfl;refine Il.reach g3 rfl rfl (λ_ _=>rfl) ?_;have gr:=JI r (c+t.loops+e.loops) _ K E {l with pc:=o+(Ar k).length+1+(BP c (o+(Ar k).length+1) t).length+1+(BP (c+t.loops) (o+(Ar k).length+1+(BP c (o+(Ar k).length+1) t).length+1) e).length} rfl
     (by have:=j.len;show _<=l.loops.length;simp at this;omega) (by show l.stack=[];rw[j.stack];exact g) (by show l.r.gone.length+_<=_;rw[w];(try simp at u);omega)
    rw[←j.r];exact Il.dd (Ad (Dc c _) (Dc _ _)) gr
   |false=>
    simp only[A7,Ap,A8];have ge:=JI e (c+t.loops) _ hE Q {v with pc:=o+(Ar k).length+1+(BP c (o+(Ar k).length+1) t).length+1,yes:=false} rfl (by show c+t.loops+e.loops<=v.loops.length;omega) g (by show v.r.gone.length+_<=_;omega);refine Il.seq (Dc _ _) ge ?_;intro l r' q j;have u:=EE e _ _ q;have w:=j.r;have gr:=JI r (c+t.loops+e.loops) _ K E l j.pc (by have:=j.len;simp at this;omega) (by rw[j.stack];exact g) (by rw[w];(try simp at u);omega);rw[←j.r];exact Il.dd (Ad (Dc c _) (Dc _ _)) gr
  |false=>
   simp only[BP,Ap,A8]at h ⊢;obtain⟨he,R,F⟩:=zp3 (X rfl) h.left h.right;obtain⟨D,Z,K,V⟩:=zp4 F.head F.tail.left F.tail.right (QY (key:=key) k R G v A g);refine Il.reach V rfl rfl (λ_ _=>rfl) ?_;have g2:DJ p key code {v with pc:=o+(Ar k).length,yes:=BF p.decls key v.r.s k} _:=DJ.step D rfl;refine Il.reach g2 rfl rfl (λ_ _=>rfl) ?_;have z:∀a b c e:Nat,a+(b+(c+e+1))=a+b+1+c+e:=by intros;omega
   simp only[Ao,Af,z];generalize hq:BF p.decls key v.r.s k=y;cases y with
   |true=>
    simp only[A7];have gt:=JI t c (o+(Ar k).length+1) Z H {v with pc:=o+(Ar k).length+1,yes:=true} rfl (by show c+t.loops<=v.loops.length;omega) g (by show v.r.gone.length+_<=_;omega);refine Il.seq (Ab _) gt ?_;intro l r' q j;have u:=EE t _ _ q;have w:=j.r;have gr:=JI r (c+t.loops) _ K E l j.pc (by have:=j.len;simp at this;omega) (by rw[j.stack];exact g) (by rw[w];(try simp at u);omega);rw[←j.r];exact Il.dd (Dc c _) gr
   |false=>
    simp only[Ap,A8];have gr:=JI r (c+t.loops) _ K E {v with pc:=o+(Ar k).length+1+(BP c (o+(Ar k).length+1) t).length,yes:=false} rfl (by show _<=v.loops.length;omega) g (by show v.r.gone.length+_<=_;omega);exact Il.dd (Dc c _) gr
 | .rep n k b r,c,o,h,B,v,A,M,g,N=>by
  have O:v.r.gone.length+(n.toNat*b.bY+r.bY)<=Do:=N;obtain⟨G,H,Q,E⟩:=B;have Y:c+(1+b.loops+r.loops)<=v.loops.length:=M;have P:exec p key (.rep n k b r) v.r=rI (Gt (λs=>BF p.decls key s k) (exec p key b) n.toNat v.r) (exec p key r):=rfl;rw[P];simp only[BP]at h ⊢;obtain⟨U,h1,R,F⟩:=zp4 h.head h.tail.head h.tail.tail.left h.tail.tail.right;obtain⟨D,hB,S⟩:=zp3 F.head F.tail.left F.tail.right;have I:=S.head;have K:=S.tail;have e1:o+1+1=o+2:=rfl;rw[e1]at R D hB I K;generalize hL:o+2+(Ar k).length+1+(BP (c+1) (o+2+(Ar k).length+1) b).length+1=L at*;have J:c<v.loops.length:=by omega
  have g0:DJ p key code v {v with pc:=o+1,loops:=v.loops.set c n}:=DJ.step (by rw[A];exact U) (by simp only[EB];rw[Al J,A]);refine Il.reach g0 rfl (by simp) (λi hi=>by rw[BU (by omega)]) ?_;have lp:∀(m:Nat) (v:VS),v.pc=o+1->v.loops[c]?=some (m:Int)->c+(1+b.loops+r.loops)<=v.loops.length->v.stack=[]->v.r.gone.length+(m*b.bY+r.bY)<=Do->
    Il p key code c v L (Gt (λs=>BF p.decls key s k) (exec p key b) m v.r):=by
   intro m
   induction m with
   |zero=>
    intro v A hm M _ _;refine⟨{v with pc:=L},DJ.step (by rw[A];exact h1) ?_,rfl,rfl,rfl,rfl,λ_ _=>rfl⟩;simp only[EB,hm];rfl
   |succ m ih=>
    intro v A hm M g N;rw[Nat.succ_mul]at N;have a1:DJ p key code v {v with pc:=o+2,loops:=v.loops.set c m}:=by
     refine DJ.step (by rw[A];exact h1) ?_;simp only[EB,hm];rw[Ai (by omega),A];have:((m+1:Nat):Int)-1=m:=by omega
     rw[this]
    have J:c<v.loops.length:=by omega
    refine Il.reach a1 rfl (by simp) (λi hi=>by rw[BU (by omega)]) ?_;have a2:=QY (key:=key) k R G {v with pc:=o+2,loops:=v.loops.set c m} rfl g;refine Il.reach a2 rfl rfl (λ_ _=>rfl) ?_;have a3:DJ p key code {v with pc:=o+2+(Ar k).length,loops:=v.loops.set c m,yes:=BF p.decls key v.r.s k} _:=DJ.step D rfl;refine Il.reach a3 rfl rfl (λ_ _=>rfl) ?_;rw[Gt];generalize hq:BF p.decls key v.r.s k=y;cases y with
    |false=>
     simp only[Ap,A8];exact⟨_,DJ.refl _,rfl,rfl,rfl,rfl,λ_ _=>rfl⟩
    |true=>
     simp only[A7];have gb:=JI b (c+1) _ hB H {v with pc:=o+2+(Ar k).length+1,loops:=v.loops.set c m,yes:=true} rfl (by show c+1+b.loops<=(v.loops.set c m).length;simp;omega) g (by show v.r.gone.length+_<=_;omega);have:=Il.seq (f:=λr=>Gt (λs=>BF p.decls key s k) (exec p key b) m r) (c:=c) (o2:=L) (Cc c) gb ?_
     ·exact this
     ·intro l r' q j;have u:=EE b _ _ q;have w:=j.r;have g3:DJ p key code l {l with pc:=o+1}:=DJ.step (by rw[j.pc];exact I) rfl;refine Il.reach g3 rfl rfl (λ_ _=>rfl) ?_;rw[←j.r];refine ih {l with pc:=o+1} rfl ?_ ?_ (by show l.stack=[];rw[j.stack];exact g) (by show l.r.gone.length+_<=_;rw[w];(try simp at u);omega)
      ·show l.loops[c]?=_;rw[j.low c (by omega)];show(v.loops.set c (m:Int))[c]?=_;rw[CG J]
      ·have:=j.len;show _<=l.loops.length;simp at this;omega
  have V:=lp n.toNat {v with pc:=o+1,loops:=v.loops.set c n} rfl (by show(v.loops.set c n)[c]?=_;rw[CG J];congr 1;omega) (by show _<=(v.loops.set c n).length;simp;omega) g O;have z:o+(((Ar k).length+((BP (c+1) (o+2+(Ar k).length+1) b).length+((BP (c+1+b.loops) L r).length+1)+1))+1+1)=L+(BP (c+1+b.loops) L r).length:=by omega
  simp only[Ao,Af,z];refine Il.seq (Ab _) V ?_;intro l r' q j;have u:=QL (m:=b.bY) (λr r' W=>EE b r r' W) _ _ _ q;have w:=j.r;have gr:=JI r (c+1+b.loops) _ K Q l j.pc (by have:=j.len;simp at this;omega) (by rw[j.stack];exact g) (by rw[w];(try simp at u);omega);rw[←j.r];exact Il.dd (by omega) gr
theorem pe (b:Az) (c:Nat) (d:MN p.decls b) (s:St) (a:List Int) (l:c+b.loops<=a.length) (m:b.bY<=Do):
  ∃k,Ve p key (BP c 0 b++[.fin]) k ⟨0,[],false,a,⟨s,[]⟩⟩=some (exec p key b ⟨s,[]⟩):=by
 have h:iK (BP c 0 b++[.fin]) 0 (BP c 0 b++[.fin]):=⟨[],[],by simp,rfl⟩;have g:=JI (key:=key) b c 0 h.left d ⟨0,[],false,a,⟨s,[]⟩⟩ rfl l rfl (by simpa using m);have o:=h.right.head;cases i:exec p key b ⟨s,[]⟩with
 |error e=>
  rw[i]at g;exact g
 |ok r=>
  rw[i]at g;obtain⟨q,⟨n,t⟩,j⟩:=g;refine⟨n+1,?_⟩;rw[t];have f:q.pc=0+(BP c 0 b).length:=j.pc;simp only[Ve,f,o,EB,j.r]
end
end Go.Proofs.YtodkkholbjeioaaGreatDoor.Ev
namespace Go.Proofs.YtodkkholbjeioaaGreatDoor.Ev
open _root_.Go.Proofs.Tryz
open Go Go.RowKit
def Cz (i:Gm):List Value:=[.int .u8 i.op,.int .i64 i.a,.int .i64 i.b]
theorem qg:(prog.info? 172).map (λi=>(i.zero,i.size,i.bytes))=some (some (.agg #[.int .u8 0,.int .i64 0,.int .i64 0]),3,24):=by kernel_rfl
structure ON (S:Nat->Prop) (w:World) (gm gg gp bm:Nat) (vl:Value) (loops:Nat) (code:List Gm):Prop where
 row:AF w gm 206 [.pointer (some ⟨gg,0,none⟩),vl]
 prog:AF w gg 75 [.pointer (some ⟨gp,0,none⟩),.map (some bm),.int .i64 loops]
 l:Sl S w 172 3 vl code.length (code.flatMap Cz)
 sm:S gm
 sg:S gg
section
variable {S:Nat->Prop}{w:World}{gm gg gp bm loops:Nat}{vl:Value}{code:List Gm}
theorem vj (h:ON S w gm gg gp bm vl loops code) (O:Up S w) (hn:code.length<=1000000) (i:Gm):
  Calls prog 81 #[.pointer (some ⟨gm,0,none⟩),.agg (Cz i).toArray] w λe w'=>
   e= .returned (.int .i64 code.length)/\Ac S w w'/\∃vl,ON S w' gm gg gp bm vl loops (code++[i]):=by
 have c1:=h.row.cell 1;have bJ:=h.row.lt;have f:=λj=>h.row.frozen j;simp at c1;obtain⟨i0,B,C,D,E⟩:=Bg qg;obtain⟨x,y,rfl⟩:=h.l.shape;have P:=h.l.alloc (.cells (Cz i).toArray 172);obtain⟨H,F,G⟩:=zq3 h O P;have bL:¬gm=w.heap.size:=by omega
 have Q:∀u∈Cz i,u.oneCell'=true:=by intro u R;simp[Cz]at R;rcases R with rfl|rfl|rfl<;>rfl
 have Q3:=Aa Q;have q4:code.length+1<=maxLen:=by unfold maxLen;omega
 have q5:(code.length+1)*24<=140737488355328:=by omega
 clear h O P Q;unfold Cz at*;go_enter func81,ntmps81;go_wp2_with fail;have b0:(w.alloc (.cells #[.int .u8 i.op,.int .i64 i.a,.int .i64 i.b] 172)).cell? ⟨w.heap.size,0,none⟩=some (.int .u8 i.op):=by simp
 have b1:(w.alloc (.cells #[.int .u8 i.op,.int .i64 i.a,.int .i64 i.b] 172)).cell? ⟨w.heap.size,1,none⟩=some (.int .i64 i.a):=by simp
 have b2:(w.alloc (.cells #[.int .u8 i.op,.int .i64 i.a,.int .i64 i.b] 172)).cell? ⟨w.heap.size,2,none⟩=some (.int .i64 i.b):=by simp
 have b3:=(H.out.row.alloc (.cells #[.int .u8 i.op,.int .i64 i.a,.int .i64 i.b] 172)).cell 1;simp only[BM,AJ]at b3;have r1:=H.out.row.alloc (.cells #[.int .u8 i.op,.int .i64 i.a,.int .i64 i.b] 172);have T:=H.out.prog.alloc (.cells #[.int .u8 i.op,.int .i64 i.a,.int .i64 i.b] 172);have q:(w.alloc (.cells #[.int .u8 i.op,.int .i64 i.a,.int .i64 i.b] 172)).heap.size=w.heap.size+1:=by simp
 have U:Ac S w (w.alloc (.cells #[.int .u8 i.op,.int .i64 i.a,.int .i64 i.b] 172)):=(Ac.refl S w).alloc (F.out _ (Ab _)) _;have f1:=λj=>r1.frozen j;have o:∀b,(Value.slice x code.length y).ownBlock=some b->b<w.heap.size:=λb g=>H.out.l.lt g;generalize I:w.alloc (.cells #[.int .u8 i.op,.int .i64 i.a,.int .i64 i.b] 172)=w1 at*;have V:∀b,b=gm\/b=gg\/b=w.heap.size->¬((Value.slice x code.length y).ownBlock=some b\/((w1.alloc (.cells #[.int .u8 i.op,.int .i64 i.a,.int .i64 i.b] 172)).drew).heap.size<=b):=by
  intro b g;have W:=H.out.prog.lt;have e:((w1.alloc (.cells #[.int .u8 i.op,.int .i64 i.a,.int .i64 i.b] 172)).drew).heap.size=w1.heap.size+1:=by simp
  rw[e];rintro(z|z)
  ·rcases g with rfl|rfl|rfl
   ·exact H.out.l.bK H.out.row (by decide) z
   ·exact H.out.l.bK H.out.prog (by decide) z
   ·have:=o _ z;omega
  ·rcases g with rfl|rfl|rfl<;>omega
 have X:=(G.out.alloc (.cells #[.int .u8 i.op,.int .i64 i.a,.int .i64 i.b] 172)).of_heap (w':=(w1.alloc (.cells #[.int .u8 i.op,.int .i64 i.a,.int .i64 i.b] 172)).drew) rfl;have J:(w1.alloc (.cells #[.int .u8 i.op,.int .i64 i.a,.int .i64 i.b] 172)).drew.frozen? ⟨gm,1,none⟩=false:=(r1.alloc _).frozen 1;have b4:(w1.alloc (.cells #[.int .u8 i.op,.int .i64 i.a,.int .i64 i.b] 172)).drew.cell? ⟨gm,1,none⟩=some (.slice x code.length y):=(r1.alloc _).cell 1;obtain⟨S1,A,R1,R2⟩:=zq4 X V r1 T;have r:S ((w1.alloc (.cells #[.int .u8 i.op,.int .i64 i.a,.int .i64 i.b] 172)).drew).heap.size:=F.out _ (by simp;omega);have K:=Aa r;have Y:=C9 w1 [.int .u8 i.op,.int .i64 i.a,.int .i64 i.b] 172;obtain⟨Q2,HL,Z,bV⟩:=zq4 Y o U q;clear q X V r1 T r Y o U I;have n:∀(g2 c:Nat) (k:World),Sl S k 172 3 (.slice (some ⟨g2,0,none⟩) (code.length+1) c) (code.length+1) (code.flatMap Cz++Cz i)->
   Ac (λb=>(Value.slice x code.length y).ownBlock=some b\/((w1.alloc (.cells #[.int .u8 i.op,.int .i64 i.a,.int .i64 i.b] 172)).drew).heap.size<=b) ((w1.alloc (.cells #[.int .u8 i.op,.int .i64 i.a,.int .i64 i.b] 172)).drew) k->
   Ac S w (k.setCell ⟨gm,1,none⟩ (.slice (some ⟨g2,0,none⟩) (code.length+1) c))/\ON S (k.setCell ⟨gm,1,none⟩ (.slice (some ⟨g2,0,none⟩) (code.length+1) c)) gm gg gp bm (.slice (some ⟨g2,0,none⟩) (code.length+1) c) loops (code++[i]):=by
  intro g2 c k m d;have s:Up S w1:=F.out.kept Z.out;have k1:Ac S w ((w1.alloc (.cells #[.int .u8 i.op,.int .i64 i.a,.int .i64 i.b] 172)).drew):=(Z.out.alloc (s _ (Ab _)) _).drew;have k2:Ac S w k:=k1.trans (d.mono (λb g=>by
   rcases g with g|g
   ·exact H.out.l.2 b g
   ·exact s b (Ad (by simp) g)))
  have L:=((R1.out.alloc (.cells #[.int .u8 i.op,.int .i64 i.a,.int .i64 i.b] 172)).drew).kept d (A.out gm (.inl rfl));have rg:=((R2.out.alloc (.cells #[.int .u8 i.op,.int .i64 i.a,.int .i64 i.b] 172)).drew).kept d (A.out gg (.inr (.inl rfl)));have t:Ac (λb=>b=gm) k (k.setCell ⟨gm,1,none⟩ (.slice (some ⟨g2,0,none⟩) (code.length+1) c)):=Ac.one k ⟨gm,1,none⟩ _;have el:(code++[i]).length=code.length+1:=by simp
  have ex:(code++[i]).flatMap Cz=code.flatMap Cz++Cz i:=by simp
  refine⟨k2.setCell (p:=⟨gm,1,none⟩) H.out.sm _,L.bM 1 _,rg.kept t (λe=>rg.cZ L (by decide) e),?_,H.out.sm,H.out.sg⟩;rw[el,ex];exact m.kept t (λb g e=>m.bK L (by decide) (e▸g))
 have HF:=Aa n;clear n
 go_region_law (first
  |(refine EL underlying165 B C D E rfl (by decide) S1.out K.out rfl _ _ (by rfl) (by rfl) ⟨w1.heap.size,0,none⟩ 1 1 [.int .u8 i.op,.int .i64 i.a,.int .i64 i.b] (by rfl) (by rfl) Q2.out Q3.out q4 q5 (by omega) ?_;intro g2 c k m d v;have e1:=(d.cell (p:=⟨gm,1,none⟩) (A.out _ (.inl rfl))).trans b4;have e2:=(d.frozen (p:=⟨gm,1,none⟩) (A.out _ (.inl rfl))).trans J;have M:=Aa m;have N:=Aa d;clear m d v))
 all_goals
  go_wp2;go_ret;have hf:=HF.out g2 c k M.out N.out;exact⟨rfl,hf.1,_,hf.2⟩
end
end Go.Proofs.YtodkkholbjeioaaGreatDoor.Ev
