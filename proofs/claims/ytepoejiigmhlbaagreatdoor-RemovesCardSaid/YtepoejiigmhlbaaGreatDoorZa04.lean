/- Lemmas for a law's walk. Conditions: none. -/
import Derived.Test.YtepoejiigmhlbaaGreatDoorZa02
import Derived.Test.YtepoejiigmhlbaaGreatDoorZa03
set_option linter.all false
set_option maxRecDepth 100000
set_option maxHeartbeats 8000000
namespace Go.Proofs.YtepoejiigmhlbaaGreatDoor.Ev
open _root_.Go.Proofs.Tryz
open Go Go.RowKit
def Ff:Qw->Ah
 | .num _=>Bv
 | .var _=>Jo
 | .len _=>JK
 | .aD=>Cx
def C4:Qw->Int
 | .num n=>n
 | .var n=>n
 | .len n=>n
 | .aD=>0
def DB (v:Qw):List Value:=[vs (Ff v),.int .i64 (C4 v)]
abbrev IV:Ah:=[108,101,115,115]
def Cj:CK->Ah
 | .full _=>E4
 | .empty _=>DJ
 | .eU _=>E3
 | .less _ _=>IV
def Bs:CK->Int
 | .full n=>n
 | .empty n=>n
 | .eU n=>n
 | .less _ _=>0
def MN:CK->List Value
 | .less a b=>DB a++DB b
 |_=>[vs [],.int .i64 0,vs [],.int .i64 0]
def Dn (n:Nat):Bool:=n%2==1
def Bt (c:C3):List Value:=[vs (Cj c.k),.int .i64 (Bs c.k)]++MN c.k++[.bool (Dn c.bI)]
def ME:List Value:=[vs [],.int .i64 0,vs [],.int .i64 0,vs [],.int .i64 0,.bool false]
def CQ:D0->Ah
 | .put _ _=>Kx
 | .bx _=>Ep
 | .dz _=>Ig
 | .shift _ _ _=>Do
 | .inc _=>Mb
 | .dec _=>Mc
 | .drop=>IW
 | .bump=>IX
def G8:D0->Int
 | .put q _=>q
 | .bx q=>q
 | .dz q=>q
 | .shift q _ _=>q
 | .inc v=>v
 | .dec v=>v
 |_=>0
def G9:D0->Int
 | .shift _ p _=>p
 |_=>0
def C1:D0->Bool
 | .put _ t=>t
 | .shift _ _ t=>t
 |_=>false
def A4:Value:=.slice none 0 0
def Lf (p:D0):List Value:=[vs (CQ p),.int .i64 (G8 p),.int .i64 (G9 p),.bool (C1 p)]++ME++[A4,A4]
def LT (c:C3) (a ve:Value):List Value:=[vs Ja,.int .i64 0,.int .i64 0,.bool false]++Bt c++[a,ve]
def IL (n:Int) (c:C3) (a:Value):List Value:=[vs Bf,.int .i64 n,.int .i64 0,.bool false]++Bt c++[a,A4]
theorem fN (c:CK):(MN c).length=4:=by cases c<;>rfl
theorem bT (c:C3):(Bt c).length=7:=by simp[Bt,fN]
def Sn (N:Nat->Prop) (w:World) (v:Value) (n:Nat) (cs:List Value):Prop:=
 Sl N w 203 13 v n cs/\∃g c,v= .slice (some ⟨g,0,none⟩) n c
def A1 (N:Nat->Prop) (w:World):Az->List Value->Prop
 | .nil,cs=>cs=[]
 | .bG p r,cs=>∃rest,cs=Lf p++rest/\A1 N w r rest
 | .ite c t o e r,cs=>∃a ve rest,cs=LT c a ve++rest/\(∃d,Sn N w a t.length d/\A1 N w t d)/\
   (if o then∃f,Sn N w ve e.length f/\A1 N w e f else ve=A4/\e= .nil)/\A1 N w r rest
 | .rep n c b r,cs=>∃a rest,cs=IL n c a++rest/\(∃d,Sn N w a b.length d/\A1 N w b d)/\A1 N w r rest
def DD (N:Nat->Prop) (w:World) (v:Value) (b:Az):Prop:=∃cs,Sn N w v b.length cs/\A1 N w b cs
section
variable {N N':Nat->Prop}{w w':World}
theorem Sn.kept {v:Value}{n:Nat}{cs:List Value}(h:Sn N w v n cs) (f:∀k cs,N k->AE w k 203 cs->w'.heap[k]?=w.heap[k]?):Sn N w' v n cs:=by
 obtain⟨⟨⟨i,b⟩,d⟩,j⟩:=h;refine⟨⟨⟨i,?_⟩,d⟩,j⟩;rcases b with b|⟨g,c,a,rfl,l,e,m⟩
 ·exact .inl b
 ·exact .inr ⟨g,c,a,rfl,l,(f g a.toList (d g rfl) (by unfold AE;simpa using e)).trans e,m⟩
theorem Sn.mono {v:Value}{n:Nat}{cs:List Value}(h:Sn N w v n cs) (b:∀k,k<w.heap.size->N k->N' k):Sn N' w v n cs:=
 ⟨⟨h.1.1,λg a=>b g (h.1.lt a) (h.1.2 g a)⟩,h.2⟩
theorem A1.kept (a:∀k cs,N k->AE w k 203 cs->w'.heap[k]?=w.heap[k]?):∀(b:Az) (cs:List Value),A1 N w b cs->A1 N w' b cs
 | .nil,_,h=>h
 | .bG p r,cs,⟨rest,d,f⟩=>⟨rest,d,A1.kept a r rest f⟩
 | .ite c t o e r,cs,⟨i,ve,rest,d,⟨g,f,j⟩,m,l⟩=>⟨i,ve,rest,d,⟨g,f.kept a,A1.kept a t g j⟩,by
   cases o with
   |false=>exact m
   |true=>
    obtain⟨q,s,u⟩:=m;exact⟨q,s.kept a,A1.kept a e q u⟩,A1.kept a r rest l⟩
 | .rep n c b r,cs,⟨i,rest,d,⟨g,f,j⟩,l⟩=>⟨i,rest,d,⟨g,f.kept a,A1.kept a b g j⟩,A1.kept a r rest l⟩
theorem A1.mono (a:∀k,k<w.heap.size->N k->N' k):∀(b:Az) (cs:List Value),A1 N w b cs->A1 N' w b cs
 | .nil,_,h=>h
 | .bG p r,cs,⟨rest,d,f⟩=>⟨rest,d,A1.mono a r rest f⟩
 | .ite c t o e r,cs,⟨i,ve,rest,d,⟨g,f,j⟩,m,l⟩=>⟨i,ve,rest,d,⟨g,f.mono a,A1.mono a t g j⟩,by
   cases o with
   |false=>exact m
   |true=>
    obtain⟨q,s,u⟩:=m;exact⟨q,s.mono a,A1.mono a e q u⟩,A1.mono a r rest l⟩
 | .rep n c b r,cs,⟨i,rest,d,⟨g,f,j⟩,l⟩=>⟨i,rest,d,⟨g,f.mono a,A1.mono a b g j⟩,A1.mono a r rest l⟩
theorem A1.app:∀(b:Az) (cs:List Value) (r:Az) (a:List Value),A1 N w b cs->A1 N w r a->A1 N w (b.app r) (cs++a)
 | .nil,_,r,a,h,d=>by rw[show _=[]from h];exact d
 | .bG p x,cs,r,a,⟨rest,f,g⟩,d=>⟨rest++a,by rw[f,AK],A1.app x rest r a g d⟩
 | .ite c t o e x,cs,r,a,⟨i,ve,rest,f,g,k,j⟩,d=>⟨i,ve,rest++a,by rw[f,AK],g,k,A1.app x rest r a j d⟩
 | .rep n c b x,cs,r,a,⟨i,rest,f,g,j⟩,d=>⟨i,rest++a,by rw[f,AK],g,A1.app x rest r a j d⟩
theorem DD.kept {v:Value}{b:Az}(h:DD N w v b) (a:∀k cs,N k->AE w k 203 cs->w'.heap[k]?=w.heap[k]?):DD N w' v b:=by obtain⟨cs,c,d⟩:=h;exact⟨cs,c.kept a,A1.kept a b cs d⟩
theorem DD.mono {v:Value}{b:Az}(h:DD N w v b) (a:∀k,k<w.heap.size->N k->N' k):DD N' w v b:=by obtain⟨cs,c,d⟩:=h;exact⟨cs,c.mono a,A1.mono a b cs d⟩
end
theorem Az.fh:∀(b r:Az),(b.app r).length=b.length+r.length
 | .nil,r=>by simp[Az.app,Az.length]
 | .bG p x,r=>by simp[Az.app,Az.length,Az.fh x r];omega
 | .ite c t o e x,r=>by simp[Az.app,Az.length,Az.fh x r];omega
 | .rep n c b x,r=>by simp[Az.app,Az.length,Az.fh x r];omega
end Go.Proofs.YtepoejiigmhlbaaGreatDoor.Ev
namespace Go.Proofs.YtepoejiigmhlbaaGreatDoor.Ev
open _root_.Go.Proofs.Tryz
def EP (n:Nat):Ah:=
 if n<10 then [UInt8.ofNat (48+n)]else EP (n/10)++[UInt8.ofNat (48+n%10)]
termination_by n
decreasing_by omega
def Ci (n:Int):Ah:=EP n.toNat
def Cb:Ah:=[32]
def Bu (l:List Bi) (k:Int):Ah:=(Aq l k).name
def Ef (l:List Bi):Qw->Ah
 | .num n=>Ci n
 | .var k=>Bu l k
 | .len k=>JK++Cb++Bu l k
 | .aD=>Cx
def Jg (l:List Bi):CK->Ah
 | .full k=>E4++Cb++Bu l k
 | .empty k=>DJ++Cb++Bu l k
 | .eU k=>E3++Cb++Bu l k
 | .less a b=>Ef l a++[32,60,32]++Ef l b
def DE (l:List Bi) (c:C3):Ah:=(if c.bI%2=1 then KU++Cb else [])++Jg l c.k
def Jf (t:Bool):Ah:=if t then Cb++CI else []
def CA (l:List Bi):D0->Ah
 | .put q t=>Kx++Cb++Bu l q++Jf t++AN
 | .bx q=>Ep++Cb++Bu l q++AN
 | .dz q=>Ig++Cb++Bu l q++AN
 | .shift q p t=>Do++Cb++Bu l q++Cb++Bu l p++Jf t++AN
 | .inc v=>Mb++Cb++Bu l v++AN
 | .dec v=>Mc++Cb++Bu l v++AN
 | .drop=>IW++AN
 | .bump=>IX++AN
def AT (l:List Bi):Az->Ah
 | .nil=>[]
 | .bG p r=>Cb++CA l p++AT l r
 | .ite c t o e r=>Cb++(Ja++Cb++DE l c++Cb++(Cw++AT l t++Cb++DA)++
   (if o then Cb++Dl++Cb++(Cw++AT l e++Cb++DA)else []))++AT l r
 | .rep n c b r=>Cb++(Bf++Cb++Ci n++Cb++Cu++Cb++DE l c++Cb++(Cw++AT l b++Cb++DA))++AT l r
def BU (l:List Bi) (b:Az):Ah:=Cw++AT l b++Cb++DA
def Ip (k:Nat):Ah:=if k=0 then EK else if k=1 then Ge else Jo
def Kj (d:Bi):Ah:=Ip d.kind++Cb++d.name++Cb++Ci d.max++[59,10]
def DQ (f:Int):Ah:=if 0<f then Cx++Cb++Ci f++[59,10]else []
def FG (p:Ax) (k:Nat):Ah:=
 match Bj p.rules (k:Int)with
 |some b=>TF++Cb++Bu p.decls (k:Int)++Cb++BU p.decls b++[10]
 |none=>[]
def Bz (p:Ax):Nat->Ah
 |0=>[]
 |k+1=>Bz p k++FG p k
def Rh (p:Ax):Ah:=TF++Cb++Fi++Cb++BU p.decls ((Eo p.rules).getD .nil)++[10]
def text (p:Ax):Ah:=(p.decls.map Kj).flatten++DQ p.aD++Bz p p.decls.length++Rh p
structure Gm where
 key:Int
 aD:Int
structure St where
 q:List (List Gm)
 vars:List Int
def St.queue (s:St) (k:Int):List Gm:=(s.q[k.toNat]?).getD []
def St.bf (s:St) (k:Int) (l:List Gm):St:={s with q:=s.q.set k.toNat l}
def St.var (s:St) (k:Int):Int:=(s.vars[k.toNat]?).getD 0
def C5 (key:Int):List Gm->Nat->Option Nat
 | [],_=>none
 |e::l,i=>if e.key=key then some i else C5 key l (i+1)
def DV (key:Int):List (List Gm)->Nat->Option (Nat×Nat)
 | [],_=>none
 |l::r,k=>match C5 key l 0 with
  |some i=>some (k,i)
  |none=>DV key r (k+1)
def St.find (s:St) (key:Int):Option (Nat×Nat):=DV key s.q 0
def AW (l:List Bi) (k:Int):Bool:=decide (0<=k)&&(Aq l k).kind==0
def Bm (l:List Gm) (i:Nat):Gm:=(l[i]?).getD ⟨0,0⟩
structure DN where
 s:St
 gone:List Int
def DN.leaves (l:List Bi) (from_:Int) (key:Int) (r:DN):DN:=
 if AW l from_ then {r with gone:=r.gone++[key]}else r
def JA (l:List Bi) (e:Gm) (from_ a:Int) (b:Bool) (r:DN):Except Nat DN:=
 if(Aq l a).max<=((r.s.queue a).length:Int)then .error TW
 else
  let s:=r.s.bf a (if b then r.s.queue a++[e]else e::r.s.queue a)
  .ok (if AW l a then {r with s:=s}else DN.leaves l from_ e.key {r with s:=s})
def St.out (s:St) (q:Nat) (i:Nat):St:={s with q:=s.q.set q (((s.q[q]?).getD []).eraseIdx i)}
def Br (l:List Gm):Gm:=Bm l (l.length-1)
def gY (l:List Gm) (i:Nat) (f:Int):List Gm:=l.set i {(Bm l i)with aD:=f}
def bG (p:Ax) (key:Int) (x:D0) (r:DN):Except Nat DN:=
 match x with
 | .put q t=>match r.s.find key with
  |some (k,i)=>JA p.decls (Bm (r.s.queue k) i) k q t {r with s:=r.s.out k i}
  |none=>JA p.decls ⟨key,0⟩ (-1) q t r
 | .drop=>match r.s.find key with
  |some (k,i)=>.ok (DN.leaves p.decls k key {r with s:=r.s.out k i})
  |none=>.ok r
 | .inc v=>.ok (if r.s.var v<(Aq p.decls v).max then {r with s:={r.s with vars:=r.s.vars.set v.toNat (r.s.var v+1)}}else r)
 | .dec v=>.ok (if 0<r.s.var v then {r with s:={r.s with vars:=r.s.vars.set v.toNat (r.s.var v-1)}}else r)
 | .bump=>match r.s.find key with
  |some (k,i)=>.ok (if(Bm (r.s.queue k) i).aD<p.aD then
    {r with s:=r.s.bf k (gY (r.s.queue k) i ((Bm (r.s.queue k) i).aD+1))}else r)
  |none=>.ok r
 | .dz q=>
  if r.s.queue q=[]then .error LU
  else .ok (if 0<(Br (r.s.queue q)).aD then
   {r with s:=r.s.bf q (gY (r.s.queue q) ((r.s.queue q).length-1) ((Br (r.s.queue q)).aD-1))}else r)
 | .bx q=>
  if r.s.queue q=[]then .error LU
  else .ok (DN.leaves p.decls q (Br (r.s.queue q)).key {r with s:=r.s.bf q (r.s.queue q).dropLast})
 | .shift q t tl=>
  if r.s.queue q=[]then .error LU
  else JA p.decls (Br (r.s.queue q)) q t tl {r with s:=r.s.bf q (r.s.queue q).dropLast}
def eF (s:St) (key:Int):Int:=
 match s.find key with
 |some (k,i)=>(Bm (s.queue k) i).aD
 |none=>0
def Jt (key:Int) (s:St):Qw->Int
 | .num n=>n
 | .var k=>s.var k
 | .len k=>(s.queue k).length
 | .aD=>eF s key
def NR (l:List Bi) (key:Int) (s:St):CK->Bool
 | .full k=>decide ((Aq l k).max<=((s.queue k).length:Int))
 | .empty k=>decide ((s.queue k).length=0)
 | .eU k=>decide (0<(s.queue k).length)&&decide (0<(Br (s.queue k)).aD)
 | .less a b=>decide (Jt key s a<Jt key s b)
def BD (l:List Bi) (key:Int) (s:St) (c:C3):Bool:=NR l key s c.k !=(c.bI%2==1)
def Gr (c:St->Bool) (f:DN->Except Nat DN):Nat->DN->Except Nat DN
 |0,r=>.ok r
 |n+1,r=>if c r.s then(match f r with
   | .ok r=>Gr c f n r
   | .error e=>.error e)else .ok r
def exec (p:Ax) (key:Int):Az->DN->Except Nat DN
 | .nil,r=>.ok r
 | .bG x b,r=>match bG p key x r with
  | .ok r=>exec p key b r
  | .error e=>.error e
 | .ite c t o e b,r=>match(if BD p.decls key r.s c then exec p key t r else if o then exec p key e r else .ok r)with
  | .ok r=>exec p key b r
  | .error e=>.error e
 | .rep n c x b,r=>match Gr (λs=>BD p.decls key s c) (exec p key x) n.toNat r with
  | .ok r=>exec p key b r
  | .error e=>.error e
structure J9 where
 ft:Int
 dA:Int
 cD:Int
structure EX where
 p:Ax
 s:St
 n:J9
def EX.new (p:Ax):EX:=⟨p,⟨List.replicate p.decls.length [],List.replicate p.decls.length 0⟩,⟨0,0,0⟩⟩
def Ek (s:St) (key:Int):Int:=
 match s.find key with
 |some (k,_)=>k
 |none=> -1
def CZ (p:Ax) (q:Int):Az:=(Bj p.rules q).getD .nil
inductive Ans where
 |ok (hit:Bool) (gone:List Int) (e:EX)
 |err (n:Nat)
def EX.access (e:EX) (key:Int):Ans:=
 let q:=Ek e.s key
 match exec e.p key (CZ e.p q) ⟨e.s,[]⟩with
 | .error n=>.err n
 | .ok r=>
  let hit:=AW e.p.decls q
  .ok hit r.gone {e with s:=r.s,n:=⟨e.n.ft+(if hit then 1 else 0),e.n.dA+(if hit then 0 else 1),e.n.cD+r.gone.length⟩}
def EX.remove (e:EX) (key:Int):Bool×EX:=
 match e.s.find key with
 |some (k,i)=>(true,{e with s:=e.s.out k i})
 |none=>(false,e)
def EX.keys (e:EX) (nm:Ah):Option (List Int):=
 let k:=find e.p.decls nm
 if k<0\/(Aq e.p.decls k).kind=2 then none else some ((e.s.queue k).map (·.key))
def EX.value (e:EX) (nm:Ah):Option Int:=
 let k:=find e.p.decls nm
 if k<0\/(Aq e.p.decls k).kind≠2 then none else some (e.s.var k)
inductive Gk where
 |bG (x:D0)
 |num (n:Int)
 |var (n:Int)
 |len (n:Int)
 |aD
 |less
 |full (n:Int)
 |eU (n:Int)
 |not
 |jump (a:Nat)
 |skip (a:Nat)
 |count (c:Nat) (n:Int)
 |again (c a:Nat)
 |fin
def D0.op:D0->Nat
 | .put _ false=>0
 | .put _ true=>1
 | .bx _=>2
 | .shift _ _ false=>3
 | .shift _ _ true=>4
 | .drop=>5
 | .inc _=>6
 | .dec _=>6
 | .bump=>7
 | .dz _=>8
def D0.a:D0->Int
 | .put q _=>q
 | .bx q=>q
 | .shift q _ _=>q
 | .inc v=>v
 | .dec v=>v
 | .dz q=>q
 |_=>0
def D0.b:D0->Int
 | .shift _ p _=>p
 | .inc _=>1
 | .dec _=> -1
 |_=>0
def Gk.op:Gk->Nat
 | .bG x=>x.op
 | .num _=>9
 | .var _=>10
 | .len _=>11
 | .aD=>12
 | .less=>13
 | .full _=>14
 | .eU _=>15
 | .not=>16
 | .jump _=>17
 | .skip _=>18
 | .count _ _=>19
 | .again _ _=>20
 | .fin=>21
def Gk.a:Gk->Int
 | .bG x=>x.a
 | .num n=>n
 | .var n=>n
 | .len n=>n
 | .full n=>n
 | .eU n=>n
 | .jump a=>a
 | .skip a=>a
 | .count c _=>c
 | .again c _=>c
 |_=>0
def Gk.b:Gk->Int
 | .bG x=>x.b
 | .count _ n=>n
 | .again _ a=>a
 |_=>0
def Gi:Qw->Gk
 | .num n=>.num n
 | .var n=>.var n
 | .len n=>.len n
 | .aD=>.aD
def Jz:CK->List Gk
 | .full n=>[.full n]
 | .empty n=>[.len n,.num 1,.less]
 | .eU n=>[.eU n]
 | .less a b=>[Gi a,Gi b,.less]
def Ar (c:C3):List Gk:=Jz c.k++if c.bI%2==1 then [.not]else []
def Az.loops:Az->Nat
 | .nil=>0
 | .bG _ r=>r.loops
 | .ite _ t _ e r=>t.loops+e.loops+r.loops
 | .rep _ _ b r=>1+b.loops+r.loops
def BO:Nat->Nat->Az->List Gk
 |_,_,.nil=>[]
 |c,o,.bG p r=>.bG p::BO c (o+1) r
 |c,o,.ite k t a e r=>
  let n1:=o+(Ar k).length+1
  let T:=BO c n1 t
  if a then
   let E:=BO (c+t.loops) (n1+T.length+1) e
   Ar k++ .skip (n1+T.length+1)::(T++ .jump (n1+T.length+1+E.length)::(E++BO (c+t.loops+e.loops) (n1+T.length+1+E.length) r))
  else Ar k++ .skip (n1+T.length)::(T++BO (c+t.loops) (n1+T.length) r)
 |c,o,.rep n k b r=>
  let n1:=o+2+(Ar k).length+1
  let B:=BO (c+1) n1 b
  .count c n:: .again c (n1+B.length+1)::(Ar k++ .skip (n1+B.length+1)::(B++ .jump (o+1)::BO (c+1+b.loops) (n1+B.length+1) r))
def Ix (m:Nat) (n:Int):Prop:=0<=n/\n<m
instance (m:Nat) (n:Int):Decidable (Ix m n):=by unfold Ix;exact inferInstance
def J5 (l:List Bi):D0->Prop
 | .put q _=>Ix l.length q/\(Aq l q).kind≠2
 | .bx q=>Ix l.length q
 | .dz q=>Ix l.length q
 | .shift q p _=>Ix l.length q/\Ix l.length p/\(Aq l p).kind≠2
 | .inc v=>Ix l.length v
 | .dec v=>Ix l.length v
 |_=>True
instance (l:List Bi) (x:D0):Decidable (J5 l x):=by cases x<;>unfold J5<;>exact inferInstance
def ry (m:Nat):Qw->Prop
 | .num _=>True
 | .var n=>Ix m n
 | .len n=>Ix m n
 | .aD=>True
def Abc (m:Nat):CK->Prop
 | .full n=>Ix m n
 | .empty n=>Ix m n
 | .eU n=>Ix m n
 | .less a b=>ry m a/\ry m b
def Mz (l:List Bi):Az->Prop
 | .nil=>True
 | .bG p r=>J5 l p/\Mz l r
 | .ite c t o e r=>Abc l.length c.k/\Mz l t/\Mz l e/\Mz l r/\(o=false->e= .nil)
 | .rep n c b r=>Abc l.length c.k/\Mz l b/\Mz l r/\0<=n
def Az.bq:Az->Nat
 | .nil=>0
 | .bG _ r=>1+r.bq
 | .ite _ t _ e r=>t.bq+e.bq+r.bq
 | .rep n _ b r=>n.toNat*b.bq+r.bq
def Dm:Nat:=100000000
structure VS where
 pc:Nat
 stack:List Int
 yes:Bool
 loops:List Int
 r:DN
section
variable (p:Ax) (key:Int)
def Ey (v:VS):Gk->Option (VS ⊕ Except Nat DN)
 | .bG x=>if J5 p.decls x/\v.r.gone.length<Dm then
   match bG p key x v.r with
   | .ok r=>some (.inl {v with pc:=v.pc+1,r:=r})
   | .error e=>some (.inr (.error e))
  else none
 | .num n=>if v.stack.length<=1 then some (.inl {v with pc:=v.pc+1,stack:=n::v.stack})else none
 | .var n=>if Ix p.decls.length n/\v.stack.length<=1 then some (.inl {v with pc:=v.pc+1,stack:=v.r.s.var n::v.stack})else none
 | .len n=>if Ix p.decls.length n/\v.stack.length<=1 then some (.inl {v with pc:=v.pc+1,stack:=((v.r.s.queue n).length:Int)::v.stack})else none
 | .aD=>if v.stack.length<=1 then some (.inl {v with pc:=v.pc+1,stack:=eF v.r.s key::v.stack})else none
 | .less=>match v.stack with
  |b::a::st=>some (.inl {v with pc:=v.pc+1,stack:=st,yes:=decide (a<b)})
  |_=>none
 | .full n=>if Ix p.decls.length n then some (.inl {v with pc:=v.pc+1,yes:=decide ((Aq p.decls n).max<=((v.r.s.queue n).length:Int))})else none
 | .eU n=>if Ix p.decls.length n then some (.inl {v with pc:=v.pc+1,yes:=decide (0<(v.r.s.queue n).length)&&decide (0<(Br (v.r.s.queue n)).aD)})else none
 | .not=>some (.inl {v with pc:=v.pc+1,yes:=!v.yes})
 | .jump a=>some (.inl {v with pc:=a})
 | .skip a=>some (.inl {v with pc:=if v.yes then v.pc+1 else a})
 | .count c n=>if c<v.loops.length then some (.inl {v with pc:=v.pc+1,loops:=v.loops.set c n})else none
 | .again c a=>match v.loops[c]? with
  |none=>none
  |some n=>if n=0 then some (.inl {v with pc:=a})else some (.inl {v with pc:=v.pc+1,loops:=v.loops.set c (n-1)})
 | .fin=>some (.inr (.ok v.r))
def UN (code:List Gk):Nat->VS->Option (Except Nat DN)
 |0,_=>none
 |k+1,v=>match code[v.pc]? with
  |none=>none
  |some i=>match Ey p key v i with
   |none=>none
   |some (.inr r)=>some r
   |some (.inl a)=>UN code k a
def ik (code:List Gk) (o:Nat) (l:List Gk):Prop:=∃a b,code=a++(l++b)/\a.length=o
variable {p key}
theorem ik.left {code:List Gk}{o:Nat}{a b:List Gk}(h:ik code o (a++b)):ik code o a:=by obtain⟨x,y,c,d⟩:=h;exact⟨x,b++y,by rw[c];simp,d⟩
theorem ik.right {code:List Gk}{o:Nat}{a b:List Gk}(h:ik code o (a++b)):ik code (o+a.length) b:=by obtain⟨x,y,c,d⟩:=h;exact⟨x++a,y,by rw[c];simp,by simp[d]⟩
theorem ik.head {code:List Gk}{o:Nat}{i:Gk}{b:List Gk}(h:ik code o (i::b)):code[o]?=some i:=by obtain⟨x,y,a,c⟩:=h;rw[a,←c];simp
theorem ik.tail {code:List Gk}{o:Nat}{i:Gk}{b:List Gk}(h:ik code o (i::b)):ik code (o+1) b:=ik.right (a:=[i]) h
def DG (p:Ax) (key:Int) (code:List Gk) (v a:VS):Prop:=∃n,∀k,UN p key code (n+k) v=UN p key code k a
def mL (p:Ax) (key:Int) (code:List Gk) (v:VS) (e:Nat):Prop:=∃n,UN p key code n v=some (.error e)
variable {code:List Gk}
theorem DG.refl (v:VS):DG p key code v v:=⟨0,λk=>by rw[DH]⟩
theorem DG.trans {a b c:VS}(h:DG p key code a b) (d:DG p key code b c):DG p key code a c:=by obtain⟨n,e⟩:=h;obtain⟨m,f⟩:=d;exact⟨n+m,λk=>by rw[EU,e,f]⟩
theorem DG.dies {a b:VS}{e:Nat}(h:DG p key code a b) (c:mL p key code b e):mL p key code a e:=by obtain⟨n,d⟩:=h;obtain⟨m,f⟩:=c;exact⟨n+m,by rw[d,f]⟩
theorem DG.step {v a:VS}{i:Gk}(h:code[v.pc]?=some i) (b:Ey p key v i=some (.inl a)):DG p key code v a:=
 ⟨1,λk=>by rw[FA];simp only[UN,h,b]⟩
theorem mL.step {v:VS}{i:Gk}{e:Nat}(h:code[v.pc]?=some i) (a:Ey p key v i=some (.inr (.error e))):mL p key code v e:=
 ⟨1,by simp only[UN,h,a]⟩
theorem Pk {o:Nat}(x:Qw) (h:code[o]?=some (Gi x)) (b:ry p.decls.length x) (v:VS) (c:v.pc=o) (a:v.stack.length<=1):
  DG p key code v {v with pc:=o+1,stack:=Jt key v.r.s x::v.stack}:=by
 subst c;refine DG.step h ?_;cases x with
 |num n=>simp only[Gi,Ey];rw[Al a];rfl
 |var n=>simp only[Gi,Ey];rw[Al ⟨show Ix p.decls.length n from b,a⟩];rfl
 |len n=>simp only[Gi,Ey];rw[Al ⟨show Ix p.decls.length n from b,a⟩];rfl
 |aD=>simp only[Gi,Ey];rw[Al a];rfl
theorem Qu {o:Nat}(c:C3) (h:ik code o (Ar c)) (f:Abc p.decls.length c.k) (v:VS) (u:v.pc=o) (g:v.stack=[]):
  DG p key code v {v with pc:=o+(Ar c).length,yes:=BD p.decls key v.r.s c}:=by
 have d:=h.left;have w:DG p key code v {v with pc:=o+(Jz c.k).length,yes:=NR p.decls key v.r.s c.k}:=by
  subst u;cases j:c.k with
  |full n=>
   rw[j]at d f;refine DG.step d.head ?_;simp only[Ey];rw[Al (show Ix p.decls.length n from f)];rfl
  |eU n=>
   rw[j]at d f;refine DG.step d.head ?_;simp only[Ey];rw[Al (show Ix p.decls.length n from f)];rfl
  |empty n=>
   rw[j]at d f;have l:=Pk (key:=key) (.len n) d.head f v rfl (by rw[g];exact AQ _);have m:=Pk (p:=p) (key:=key) (.num 1) d.tail.head trivial {v with pc:=v.pc+1,stack:=Jt key v.r.s (.len n)::v.stack} rfl (by simp[g]);refine l.trans (m.trans ?_);refine DG.step (i:=.less) d.tail.tail.head ?_;have e:decide (((v.r.s.queue n).length:Int)<1)=decide ((v.r.s.queue n).length=0):=by rw[decide_eq_decide];omega
   show some (Sum.inl {v with pc:=v.pc+1+1+1,yes:=decide (((v.r.s.queue n).length:Int)<1)})=_;rw[e];rfl
  |less a b=>
   rw[j]at d f;have l:=Pk (key:=key) a d.head f.1 v rfl (by rw[g];exact AQ _);have m:=Pk (key:=key) b d.tail.head f.2 {v with pc:=v.pc+1,stack:=Jt key v.r.s a::v.stack} rfl (by simp[g]);refine l.trans (m.trans ?_);exact DG.step (i:=.less) d.tail.tail.head rfl
 refine w.trans ?_;have q:=h.right;unfold BD Ar at*;cases t:(c.bI%2==1)with
 |false=>rw[t]at q;simp;exact DG.refl _
 |true=>
  rw[t]at q;refine DG.step (i:=.not) q.head ?_;simp[Ey];omega
structure Agl (c:Nat) (v v':VS) (o':Nat) (r':DN):Prop where
 pc:v'.pc=o'
 r:v'.r=r'
 stack:v'.stack=v.stack
 len:v'.loops.length=v.loops.length
 low:∀i,i<c->v'.loops[i]?=v.loops[i]?
def Id (p:Ax) (key:Int) (code:List Gk) (c:Nat) (v:VS) (o':Nat):Except Nat DN->Prop
 | .ok r'=>∃a,DG p key code v a/\Agl c v a o' r'
 | .error e=>mL p key code v e
theorem Id.reach {c o':Nat}{v d:VS}{x:Except Nat DN}(h:DG p key code v d) (k:d.stack=v.stack) (l:d.loops.length=v.loops.length) (f:∀i,i<c->d.loops[i]?=v.loops[i]?)
  (g:Id p key code c d o' x):Id p key code c v o' x:=by
 cases x with
 |ok r=>
  obtain⟨m,a,b⟩:=g;exact⟨m,h.trans a,b.pc,b.r,b.stack.trans k,b.len.trans l,λi j=>(b.low i j).trans (f i j)⟩
 |error e=>exact h.dies g
def qM (x:Except Nat DN) (f:DN->Except Nat DN):Except Nat DN:=
 match x with
 | .ok r=>f r
 | .error e=>.error e
theorem Id.eS {c d o':Nat}{v:VS}{x:Except Nat DN}(h:c<=d) (g:Id p key code d v o' x):Id p key code c v o' x:=by
 cases x with
 |error e=>exact g
 |ok r=>
  obtain⟨f,a,b⟩:=g;exact⟨f,a,b.pc,b.r,b.stack,b.len,λi j=>b.low i (by omega)⟩
theorem Id.seq {c g j o2:Nat}{v:VS}{x:Except Nat DN}{f:DN->Except Nat DN}(l:c<=g) (h:Id p key code g v j x)
  (k:∀d r,x= .ok r->Agl g v d j r->Id p key code c d o2 (f r)):
  Id p key code c v o2 (qM x f):=by
 cases x with
 |error e=>exact h
 |ok r=>
  obtain⟨d,a,b⟩:=h;exact Id.reach a b.stack b.len (λi m=>b.low i (by omega)) (k d r rfl b)
theorem OT (l:List Bi) (f k:Int) (r:DN):(DN.leaves l f k r).gone.length<=r.gone.length+1:=by
 unfold DN.leaves;split
 ·simp
 ·omega
theorem Qv {l:List Bi}{e:Gm}{f t:Int}{tl:Bool}{r r':DN}(h:JA l e f t tl r= .ok r'):r'.gone.length<=r.gone.length+1:=by
 unfold JA at h;split at h
 ·cases h
 ·injection h with h;subst h;split
  ·exact Ca _
  ·exact OT _ _ _ _
theorem Xy {x:D0}{r r':DN}(h:bG p key x r= .ok r'):r'.gone.length<=r.gone.length+1:=by
 cases x with
 |put q t=>
  simp only[bG]at h;split at h
  ·have a:=Qv h;exact a
  ·have a:=Qv h;exact a
 |bx q=>
  simp only[bG]at h;split at h
  ·cases h
  ·injection h with h;subst h;exact OT _ _ _ _
 |dz q=>
  simp only[bG]at h;split at h
  ·cases h
  ·injection h with h;subst h;split<;>exact Ca _
 |shift q t tl=>
  simp only[bG]at h;split at h
  ·cases h
  ·have a:=Qv h;exact a
 |inc v=>simp only[bG]at h;injection h with h;subst h;split<;>exact Ca _
 |dec v=>simp only[bG]at h;injection h with h;subst h;split<;>exact Ca _
 |drop=>
  simp only[bG]at h;split at h
  ·injection h with h;subst h;exact OT _ _ _ _
  ·injection h with h;subst h;exact Ca _
 |bump=>
  simp only[bG]at h;split at h
  ·injection h with h;subst h;split<;>exact Ca _
  ·injection h with h;subst h;exact Ca _
theorem Qk {c:St->Bool}{f:DN->Except Nat DN}{m:Nat}(a:∀r r',f r= .ok r'->r'.gone.length<=r.gone.length+m):∀(n:Nat) (r r':DN),Gr c f n r= .ok r'->r'.gone.length<=r.gone.length+n*m
 |0,r,r',h=>by rw[Gr]at h;injection h with h;subst h;omega
 |n+1,r,r',h=>by
  rw[Gr]at h;split at h
  ·split at h
   ·rename_i r1 e;have b:=a _ _ e;have d:=Qk a n r1 r' h;rw[Nat.succ_mul];omega
   ·cases h
  ·injection h with h;subst h;exact Da _ _
theorem EA:∀(b:Az) (r r':DN),exec p key b r= .ok r'->r'.gone.length<=r.gone.length+b.bq
 | .nil,r,r',h=>by rw[exec]at h;injection h with h;subst h;exact Da _ _
 | .bG x b,r,r',h=>by
  rw[exec]at h;split at h
  ·rename_i r1 e;have a:=Xy e;have d:=EA b r1 r' h;simp only[Az.bq];omega
  ·cases h
 | .ite c t o e b,r,r',h=>by
  rw[exec]at h;split at h
  ·rename_i r1 e1;have d:=EA b r1 r' h;have a:r1.gone.length<=r.gone.length+(t.bq+e.bq):=by
    split at e1
    ·have:=EA t r r1 e1;omega
    ·split at e1
     ·have:=EA e r r1 e1;omega
     ·injection e1 with e1;subst e1;omega
   simp only[Az.bq];omega
  ·cases h
 | .rep n c x b,r,r',h=>by
  rw[exec]at h;split at h
  ·rename_i r1 e1;have d:=EA b r1 r' h;have a:=Qk (m:=x.bq) (λr r' f=>EA x r r' f) n.toNat r r1 e1;simp only[Az.bq];omega
  ·cases h
theorem Jy:∀(b:Az) (c o:Nat),ik code o (BO c o b)->Mz p.decls b->∀v:VS,v.pc=o->c+b.loops<=v.loops.length->v.stack=[]->v.r.gone.length+b.bq<=Dm->Id p key code c v (o+(BO c o b).length) (exec p key b v.r)
 | .nil,c,o,_,_,v,A,_,_,_=>⟨v,DG.refl v,A,rfl,rfl,rfl,λ_ _=>rfl⟩
 | .bG x r,c,o,h,B,v,A,M,g,N=>by
  have O:v.r.gone.length+(1+r.bq)<=Dm:=N;have T:v.r.gone.length<Dm:=by omega
  have U:=h.head;have ht:=h.tail;rw[exec];rw[←A]at U;cases P:bG p key x v.r with
  |error e=>
   refine mL.step U ?_;simp only[Ey];rw[Al ⟨B.1,T⟩,P]
  |ok r1=>
   have W:DG p key code v {v with pc:=v.pc+1,r:=r1}:=DG.step U (by simp only[Ey];rw[Al ⟨B.1,T⟩,P]);refine Id.reach W rfl rfl (λ_ _=>rfl) ?_;have:=Jy r c (o+1) ht B.2 {v with pc:=v.pc+1,r:=r1} (by simp[A]) M g (by have:=Xy P;show r1.gone.length+_<=_;omega);simpa[BO,EU,FA 1]using this
 | .ite k t C e r,c,o,h,B,v,A,M,g,N=>by
  have O:v.r.gone.length+(t.bq+e.bq+r.bq)<=Dm:=N;obtain⟨G,H,Q,E,X⟩:=B;have Y:c+(t.loops+e.loops+r.loops)<=v.loops.length:=M;have P:exec p key (.ite k t C e r) v.r=qM (if BD p.decls key v.r.s k then exec p key t v.r else if C then exec p key e v.r else .ok v.r) (exec p key r):=rfl;rw[P];cases C with
  |true=>
   simp only[BO,A6]at h ⊢;have R:=h.left;have F:=h.right;obtain⟨D,Z,S⟩:=zp3 F.head F.tail.left F.tail.right;obtain⟨I,hE,K,V⟩:=zp4 S.head S.tail.left S.tail.right (Qu (key:=key) k R G v A g);refine Id.reach V rfl rfl (λ_ _=>rfl) ?_;have g2:DG p key code {v with pc:=o+(Ar k).length,yes:=BD p.decls key v.r.s k} _:=DG.step D rfl;refine Id.reach g2 rfl rfl (λ_ _=>rfl) ?_;have z:∀a b c d e:Nat,a+(b+(c+(d+e+1)+1))=a+b+1+c+1+d+e:=by intros;omega
   simp only[Ao,Af,z];generalize hq:BD p.decls key v.r.s k=y;cases y with
   |true=>
    simp only[A6];have gt:=Jy t c (o+(Ar k).length+1) Z H {v with pc:=o+(Ar k).length+1,yes:=true} rfl (by show c+t.loops<=v.loops.length;omega) g (by show v.r.gone.length+_<=_;omega);refine Id.seq (Ab _) gt ?_;intro l r' q j;have u:=EA t _ _ q;have w:=j.r;have g3:DG p key code l _:=DG.step (by rw[j.pc];exact I) rfl;refine Id.reach g3 rfl rfl (λ_ _=>rfl) ?_;have gr:=Jy r (c+t.loops+e.loops) _ K E {l with pc:=o+(Ar k).length+1+(BO c (o+(Ar k).length+1) t).length+1+(BO (c+t.loops) (o+(Ar k).length+1+(BO c (o+(Ar k).length+1) t).length+1) e).length} rfl
     (by have:=j.len;show _<=l.loops.length;simp at this;omega) (by show l.stack=[];rw[j.stack];exact g) (by show l.r.gone.length+_<=_;rw[w];(try simp at u);omega)
    rw[←j.r];exact Id.eS (Ad (Da c _) (Da _ _)) gr
   |false=>
    simp only[A6,Ap,A8];have ge:=Jy e (c+t.loops) _ hE Q {v with pc:=o+(Ar k).length+1+(BO c (o+(Ar k).length+1) t).length+1,yes:=false} rfl (by show c+t.loops+e.loops<=v.loops.length;omega) g (by show v.r.gone.length+_<=_;omega);refine Id.seq (Da _ _) ge ?_;intro l r' q j;have u:=EA e _ _ q;have w:=j.r;have gr:=Jy r (c+t.loops+e.loops) _ K E l j.pc (by have:=j.len;simp at this;omega) (by rw[j.stack];exact g) (by rw[w];(try simp at u);omega);rw[←j.r];exact Id.eS (Ad (Da c _) (Da _ _)) gr
  |false=>
   simp only[BO,Ap,A8]at h ⊢;obtain⟨he,R,F⟩:=zp3 (X rfl) h.left h.right;obtain⟨D,Z,K,V⟩:=zp4 F.head F.tail.left F.tail.right (Qu (key:=key) k R G v A g);refine Id.reach V rfl rfl (λ_ _=>rfl) ?_;have g2:DG p key code {v with pc:=o+(Ar k).length,yes:=BD p.decls key v.r.s k} _:=DG.step D rfl;refine Id.reach g2 rfl rfl (λ_ _=>rfl) ?_;have z:∀a b c e:Nat,a+(b+(c+e+1))=a+b+1+c+e:=by intros;omega
   simp only[Ao,Af,z];generalize hq:BD p.decls key v.r.s k=y;cases y with
   |true=>
    simp only[A6];have gt:=Jy t c (o+(Ar k).length+1) Z H {v with pc:=o+(Ar k).length+1,yes:=true} rfl (by show c+t.loops<=v.loops.length;omega) g (by show v.r.gone.length+_<=_;omega);refine Id.seq (Ab _) gt ?_;intro l r' q j;have u:=EA t _ _ q;have w:=j.r;have gr:=Jy r (c+t.loops) _ K E l j.pc (by have:=j.len;simp at this;omega) (by rw[j.stack];exact g) (by rw[w];(try simp at u);omega);rw[←j.r];exact Id.eS (Da c _) gr
   |false=>
    simp only[Ap,A8];have gr:=Jy r (c+t.loops) _ K E {v with pc:=o+(Ar k).length+1+(BO c (o+(Ar k).length+1) t).length,yes:=false} rfl (by show _<=v.loops.length;omega) g (by show v.r.gone.length+_<=_;omega);exact Id.eS (Da c _) gr
 | .rep n k b r,c,o,h,B,v,A,M,g,N=>by
  have O:v.r.gone.length+(n.toNat*b.bq+r.bq)<=Dm:=N;obtain⟨G,H,Q,E⟩:=B;have Y:c+(1+b.loops+r.loops)<=v.loops.length:=M;have P:exec p key (.rep n k b r) v.r=qM (Gr (λs=>BD p.decls key s k) (exec p key b) n.toNat v.r) (exec p key r):=rfl;rw[P];simp only[BO]at h ⊢;obtain⟨U,h1,R,F⟩:=zp4 h.head h.tail.head h.tail.tail.left h.tail.tail.right;obtain⟨D,hB,S⟩:=zp3 F.head F.tail.left F.tail.right;have I:=S.head;have K:=S.tail;have e1:o+1+1=o+2:=rfl;rw[e1]at R D hB I K;generalize hL:o+2+(Ar k).length+1+(BO (c+1) (o+2+(Ar k).length+1) b).length+1=L at*;have J:c<v.loops.length:=by omega
  have g0:DG p key code v {v with pc:=o+1,loops:=v.loops.set c n}:=DG.step (by rw[A];exact U) (by simp only[Ey];rw[Al J,A]);refine Id.reach g0 rfl (by simp) (λi hi=>by rw[BT (by omega)]) ?_;have lp:∀(m:Nat) (v:VS),v.pc=o+1->v.loops[c]?=some (m:Int)->c+(1+b.loops+r.loops)<=v.loops.length->v.stack=[]->v.r.gone.length+(m*b.bq+r.bq)<=Dm->
    Id p key code c v L (Gr (λs=>BD p.decls key s k) (exec p key b) m v.r):=by
   intro m
   induction m with
   |zero=>
    intro v A hm M _ _;refine⟨{v with pc:=L},DG.step (by rw[A];exact h1) ?_,rfl,rfl,rfl,rfl,λ_ _=>rfl⟩;simp only[Ey,hm];rfl
   |succ m ih=>
    intro v A hm M g N;rw[Nat.succ_mul]at N;have a1:DG p key code v {v with pc:=o+2,loops:=v.loops.set c m}:=by
     refine DG.step (by rw[A];exact h1) ?_;simp only[Ey,hm];rw[Ai (by omega),A];have:((m+1:Nat):Int)-1=m:=by omega
     rw[this]
    have J:c<v.loops.length:=by omega
    refine Id.reach a1 rfl (by simp) (λi hi=>by rw[BT (by omega)]) ?_;have a2:=Qu (key:=key) k R G {v with pc:=o+2,loops:=v.loops.set c m} rfl g;refine Id.reach a2 rfl rfl (λ_ _=>rfl) ?_;have a3:DG p key code {v with pc:=o+2+(Ar k).length,loops:=v.loops.set c m,yes:=BD p.decls key v.r.s k} _:=DG.step D rfl;refine Id.reach a3 rfl rfl (λ_ _=>rfl) ?_;rw[Gr];generalize hq:BD p.decls key v.r.s k=y;cases y with
    |false=>
     simp only[Ap,A8];exact⟨_,DG.refl _,rfl,rfl,rfl,rfl,λ_ _=>rfl⟩
    |true=>
     simp only[A6];have gb:=Jy b (c+1) _ hB H {v with pc:=o+2+(Ar k).length+1,loops:=v.loops.set c m,yes:=true} rfl (by show c+1+b.loops<=(v.loops.set c m).length;simp;omega) g (by show v.r.gone.length+_<=_;omega);have:=Id.seq (f:=λr=>Gr (λs=>BD p.decls key s k) (exec p key b) m r) (c:=c) (o2:=L) (Ca c) gb ?_
     ·exact this
     ·intro l r' q j;have u:=EA b _ _ q;have w:=j.r;have g3:DG p key code l {l with pc:=o+1}:=DG.step (by rw[j.pc];exact I) rfl;refine Id.reach g3 rfl rfl (λ_ _=>rfl) ?_;rw[←j.r];refine ih {l with pc:=o+1} rfl ?_ ?_ (by show l.stack=[];rw[j.stack];exact g) (by show l.r.gone.length+_<=_;rw[w];(try simp at u);omega)
      ·show l.loops[c]?=_;rw[j.low c (by omega)];show(v.loops.set c (m:Int))[c]?=_;rw[CF J]
      ·have:=j.len;show _<=l.loops.length;simp at this;omega
  have V:=lp n.toNat {v with pc:=o+1,loops:=v.loops.set c n} rfl (by show(v.loops.set c n)[c]?=_;rw[CF J];congr 1;omega) (by show _<=(v.loops.set c n).length;simp;omega) g O;have z:o+(((Ar k).length+((BO (c+1) (o+2+(Ar k).length+1) b).length+((BO (c+1+b.loops) L r).length+1)+1))+1+1)=L+(BO (c+1+b.loops) L r).length:=by omega
  simp only[Ao,Af,z];refine Id.seq (Ab _) V ?_;intro l r' q j;have u:=Qk (m:=b.bq) (λr r' W=>EA b r r' W) _ _ _ q;have w:=j.r;have gr:=Jy r (c+1+b.loops) _ K Q l j.pc (by have:=j.len;simp at this;omega) (by rw[j.stack];exact g) (by rw[w];(try simp at u);omega);rw[←j.r];exact Id.eS (by omega) gr
theorem oC (b:Az) (c:Nat) (d:Mz p.decls b) (s:St) (a:List Int) (l:c+b.loops<=a.length) (m:b.bq<=Dm):
  ∃k,UN p key (BO c 0 b++[.fin]) k ⟨0,[],false,a,⟨s,[]⟩⟩=some (exec p key b ⟨s,[]⟩):=by
 have h:ik (BO c 0 b++[.fin]) 0 (BO c 0 b++[.fin]):=⟨[],[],by simp,rfl⟩;have g:=Jy (key:=key) b c 0 h.left d ⟨0,[],false,a,⟨s,[]⟩⟩ rfl l rfl (by simpa using m);have o:=h.right.head;cases i:exec p key b ⟨s,[]⟩with
 |error e=>
  rw[i]at g;exact g
 |ok r=>
  rw[i]at g;obtain⟨q,⟨n,t⟩,j⟩:=g;refine⟨n+1,?_⟩;rw[t];have f:q.pc=0+(BO c 0 b).length:=j.pc;simp only[UN,f,o,Ey,j.r]
end
end Go.Proofs.YtepoejiigmhlbaaGreatDoor.Ev
namespace Go.Proofs.YtepoejiigmhlbaaGreatDoor.Ev
open _root_.Go.Proofs.Tryz
open Go Go.RowKit
def Cy (i:Gk):List Value:=[.int .u8 i.op,.int .i64 i.a,.int .i64 i.b]
theorem pF:(prog.info? 131).map (λi=>(i.zero,i.size,i.bytes))=some (some (.agg #[.int .u8 0,.int .i64 0,.int .i64 0]),3,24):=by kernel_rfl
structure Ot (S:Nat->Prop) (w:World) (gm gg gp bm:Nat) (vl:Value) (loops:Nat) (code:List Gk):Prop where
 row:AE w gm 126 [.pointer (some ⟨gg,0,none⟩),vl]
 prog:AE w gg 76 [.pointer (some ⟨gp,0,none⟩),.map (some bm),.int .i64 loops]
 l:Sl S w 131 3 vl code.length (code.flatMap Cy)
 sm:S gm
 sg:S gg
section
variable {S:Nat->Prop}{w:World}{gm gg gp bm loops:Nat}{vl:Value}{code:List Gk}
theorem uz (h:Ot S w gm gg gp bm vl loops code) (O:Up S w) (hn:code.length<=1000000) (i:Gk):
  Calls prog 47 #[.pointer (some ⟨gm,0,none⟩),.agg (Cy i).toArray] w λe w'=>
   e= .returned (.int .i64 code.length)/\Ac S w w'/\∃vl,Ot S w' gm gg gp bm vl loops (code++[i]):=by
 have c1:=h.row.cell 1;have be:=h.row.lt;have f:=λj=>h.row.frozen j;simp at c1;obtain⟨i0,B,C,D,E⟩:=Bg pF;obtain⟨x,y,rfl⟩:=h.l.shape;have P:=h.l.alloc (.cells (Cy i).toArray 131);obtain⟨H,F,G⟩:=zq3 h O P;have bf:¬gm=w.heap.size:=by omega
 have Q:∀u∈Cy i,u.oneCell'=true:=by intro u R;simp[Cy]at R;rcases R with rfl|rfl|rfl<;>rfl
 have Q3:=Aa Q;have q4:code.length+1<=maxLen:=by unfold maxLen;omega
 have q5:(code.length+1)*24<=140737488355328:=by omega
 clear h O P Q;unfold Cy at*;go_enter func47,ntmps47;go_wp2_with fail;have b0:(w.alloc (.cells #[.int .u8 i.op,.int .i64 i.a,.int .i64 i.b] 131)).cell? ⟨w.heap.size,0,none⟩=some (.int .u8 i.op):=by simp
 have b1:(w.alloc (.cells #[.int .u8 i.op,.int .i64 i.a,.int .i64 i.b] 131)).cell? ⟨w.heap.size,1,none⟩=some (.int .i64 i.a):=by simp
 have b2:(w.alloc (.cells #[.int .u8 i.op,.int .i64 i.a,.int .i64 i.b] 131)).cell? ⟨w.heap.size,2,none⟩=some (.int .i64 i.b):=by simp
 have b3:=(H.out.row.alloc (.cells #[.int .u8 i.op,.int .i64 i.a,.int .i64 i.b] 131)).cell 1;simp only[BL,AI]at b3;have r1:=H.out.row.alloc (.cells #[.int .u8 i.op,.int .i64 i.a,.int .i64 i.b] 131);have T:=H.out.prog.alloc (.cells #[.int .u8 i.op,.int .i64 i.a,.int .i64 i.b] 131);have q:(w.alloc (.cells #[.int .u8 i.op,.int .i64 i.a,.int .i64 i.b] 131)).heap.size=w.heap.size+1:=by simp
 have U:Ac S w (w.alloc (.cells #[.int .u8 i.op,.int .i64 i.a,.int .i64 i.b] 131)):=(Ac.refl S w).alloc (F.out _ (Ab _)) _;have f1:=λj=>r1.frozen j;have o:∀b,(Value.slice x code.length y).ownBlock=some b->b<w.heap.size:=λb g=>H.out.l.lt g;generalize I:w.alloc (.cells #[.int .u8 i.op,.int .i64 i.a,.int .i64 i.b] 131)=w1 at*;have V:∀b,b=gm\/b=gg\/b=w.heap.size->¬((Value.slice x code.length y).ownBlock=some b\/((w1.alloc (.cells #[.int .u8 i.op,.int .i64 i.a,.int .i64 i.b] 131)).drew).heap.size<=b):=by
  intro b g;have W:=H.out.prog.lt;have e:((w1.alloc (.cells #[.int .u8 i.op,.int .i64 i.a,.int .i64 i.b] 131)).drew).heap.size=w1.heap.size+1:=by simp
  rw[e];rintro(z|z)
  ·rcases g with rfl|rfl|rfl
   ·exact H.out.l.bD H.out.row (by decide) z
   ·exact H.out.l.bD H.out.prog (by decide) z
   ·have:=o _ z;omega
  ·rcases g with rfl|rfl|rfl<;>omega
 have X:=(G.out.alloc (.cells #[.int .u8 i.op,.int .i64 i.a,.int .i64 i.b] 131)).of_heap (w':=(w1.alloc (.cells #[.int .u8 i.op,.int .i64 i.a,.int .i64 i.b] 131)).drew) rfl;have J:(w1.alloc (.cells #[.int .u8 i.op,.int .i64 i.a,.int .i64 i.b] 131)).drew.frozen? ⟨gm,1,none⟩=false:=(r1.alloc _).frozen 1;have b4:(w1.alloc (.cells #[.int .u8 i.op,.int .i64 i.a,.int .i64 i.b] 131)).drew.cell? ⟨gm,1,none⟩=some (.slice x code.length y):=(r1.alloc _).cell 1;obtain⟨S1,A,R1,R2⟩:=zq4 X V r1 T;have r:S ((w1.alloc (.cells #[.int .u8 i.op,.int .i64 i.a,.int .i64 i.b] 131)).drew).heap.size:=F.out _ (by simp;omega);have K:=Aa r;have Y:=C7 w1 [.int .u8 i.op,.int .i64 i.a,.int .i64 i.b] 131;obtain⟨Q2,HL,Z,br⟩:=zq4 Y o U q;clear q X V r1 T r Y o U I;have n:∀(g2 c:Nat) (k:World),Sl S k 131 3 (.slice (some ⟨g2,0,none⟩) (code.length+1) c) (code.length+1) (code.flatMap Cy++Cy i)->
   Ac (λb=>(Value.slice x code.length y).ownBlock=some b\/((w1.alloc (.cells #[.int .u8 i.op,.int .i64 i.a,.int .i64 i.b] 131)).drew).heap.size<=b) ((w1.alloc (.cells #[.int .u8 i.op,.int .i64 i.a,.int .i64 i.b] 131)).drew) k->
   Ac S w (k.setCell ⟨gm,1,none⟩ (.slice (some ⟨g2,0,none⟩) (code.length+1) c))/\Ot S (k.setCell ⟨gm,1,none⟩ (.slice (some ⟨g2,0,none⟩) (code.length+1) c)) gm gg gp bm (.slice (some ⟨g2,0,none⟩) (code.length+1) c) loops (code++[i]):=by
  intro g2 c k m d;have s:Up S w1:=F.out.kept Z.out;have k1:Ac S w ((w1.alloc (.cells #[.int .u8 i.op,.int .i64 i.a,.int .i64 i.b] 131)).drew):=(Z.out.alloc (s _ (Ab _)) _).drew;have k2:Ac S w k:=k1.trans (d.mono (λb g=>by
   rcases g with g|g
   ·exact H.out.l.2 b g
   ·exact s b (Ad (by simp) g)))
  have L:=((R1.out.alloc (.cells #[.int .u8 i.op,.int .i64 i.a,.int .i64 i.b] 131)).drew).kept d (A.out gm (.inl rfl));have rg:=((R2.out.alloc (.cells #[.int .u8 i.op,.int .i64 i.a,.int .i64 i.b] 131)).drew).kept d (A.out gg (.inr (.inl rfl)));have t:Ac (λb=>b=gm) k (k.setCell ⟨gm,1,none⟩ (.slice (some ⟨g2,0,none⟩) (code.length+1) c)):=Ac.one k ⟨gm,1,none⟩ _;have el:(code++[i]).length=code.length+1:=by simp
  have ex:(code++[i]).flatMap Cy=code.flatMap Cy++Cy i:=by simp
  refine⟨k2.setCell (p:=⟨gm,1,none⟩) H.out.sm _,L.bF 1 _,rg.kept t (λe=>rg.bt L (by decide) e),?_,H.out.sm,H.out.sg⟩;rw[el,ex];exact m.kept t (λb g e=>m.bD L (by decide) (e▸g))
 have HF:=Aa n;clear n
 go_region_law (first
  |(refine EI underlying124 B C D E rfl (by decide) S1.out K.out rfl _ _ (by rfl) (by rfl) ⟨w1.heap.size,0,none⟩ 1 1 [.int .u8 i.op,.int .i64 i.a,.int .i64 i.b] (by rfl) (by rfl) Q2.out Q3.out q4 q5 (by omega) ?_;intro g2 c k m d v;have e1:=(d.cell (p:=⟨gm,1,none⟩) (A.out _ (.inl rfl))).trans b4;have e2:=(d.frozen (p:=⟨gm,1,none⟩) (A.out _ (.inl rfl))).trans J;have M:=Aa m;have N:=Aa d;clear m d v))
 all_goals
  go_wp2;go_ret;have hf:=HF.out g2 c k M.out N.out;exact⟨rfl,hf.1,_,hf.2⟩
end
end Go.Proofs.YtepoejiigmhlbaaGreatDoor.Ev
