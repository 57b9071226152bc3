/- Parts of a proof that a law's walk returns true. Conditions: none. -/
import Derived.Test.YtemppijblfflgaaGreatDoorZa00
import Derived.Test.YtemppijblfflgaaGreatDoorZa01
set_option linter.all false
set_option maxRecDepth 100000
set_option maxHeartbeats 8000000
namespace Go.Proofs.YtemppijblfflgaaGreatDoor.Ev
inductive Gl where
 |prim (x:D9)
 |num (n:Int)
 |var (n:Int)
 |len (n:Int)
 |freq
 |less
 |full (n:Int)
 |warm (n:Int)
 |not
 |jump (a:Nat)
 |skip (a:Nat)
 |count (c:Nat) (n:Int)
 |again (c a:Nat)
 |fin
def D9.op:D9→Nat
 | .put _ false=>0
 | .put _ true=>1
 | .evict _=>2
 | .shift _ _ false=>3
 | .shift _ _ true=>4
 | .drop=>5
 | .inc _=>6
 | .dec _=>6
 | .bump=>7
 | .cool _=>8
def D9.a:D9→Int
 | .put q _=>q
 | .evict q=>q
 | .shift q _ _=>q
 | .inc v=>v
 | .dec v=>v
 | .cool q=>q
 |_=>0
def D9.b:D9→Int
 | .shift _ p _=>p
 | .inc _=>1
 | .dec _=> -1
 |_=>0
def Gl.op:Gl→Nat
 | .prim x=>x.op
 | .num _=>9
 | .var _=>10
 | .len _=>11
 | .freq=>12
 | .less=>13
 | .full _=>14
 | .warm _=>15
 | .not=>16
 | .jump _=>17
 | .skip _=>18
 | .count _ _=>19
 | .again _ _=>20
 | .fin=>21
def Gl.a:Gl→Int
 | .prim x=>x.a
 | .num n=>n
 | .var n=>n
 | .len n=>n
 | .full n=>n
 | .warm n=>n
 | .jump a=>a
 | .skip a=>a
 | .count c _=>c
 | .again c _=>c
 |_=>0
def Gl.b:Gl→Int
 | .prim x=>x.b
 | .count _ n=>n
 | .again _ a=>a
 |_=>0
def Gk:O0→Gl
 | .num n=>.num n
 | .var n=>.var n
 | .len n=>.len n
 | .freq=>.freq
def Ja:CK→List Gl
 | .full n=>[.full n]
 | .empty n=>[.len n,.num 1,.less]
 | .warm n=>[.warm n]
 | .less a b=>[Gk a,Gk b,.less]
def Aq (c:Da):List Gl:=Ja c.k++if c.nots%2==1 then [.not]else []
def AC.loops:AC→Nat
 | .nil=>0
 | .prim _ r=>r.loops
 | .ite _ t _ e r=>t.loops+e.loops+r.loops
 | .rep _ _ b r=>1+b.loops+r.loops
def BR:Nat→Nat→AC→List Gl
 |_,_,.nil=>[]
 |c,o,.prim p r=>.prim p::BR c (o+1) r
 |c,o,.ite k t other e r=>
  let n1:=o+(Aq k).length+1
  let T:=BR c n1 t
  if other then
   let E:=BR (c+t.loops) (n1+T.length+1) e
   Aq k++ .skip (n1+T.length+1)::(T++ .jump (n1+T.length+1+E.length)::(E++BR (c+t.loops+e.loops) (n1+T.length+1+E.length) r))
  else Aq k++ .skip (n1+T.length)::(T++BR (c+t.loops) (n1+T.length) r)
 |c,o,.rep n k b r=>
  let n1:=o+2+(Aq k).length+1
  let B:=BR (c+1) n1 b
  .count c n:: .again c (n1+B.length+1)::(Aq k++ .skip (n1+B.length+1)::(B++ .jump (o+1)::BR (c+1+b.loops) (n1+B.length+1) r))
def Ix (m:Nat) (n:Int):Prop:=0≤n∧n<m
instance (m:Nat) (n:Int):Decidable (Ix m n):=by unfold Ix;exact inferInstance
def J2 (l:List Bf):D9→Prop
 | .put q _=>Ix l.length q∧(Au l q).kind≠2
 | .evict q=>Ix l.length q
 | .cool q=>Ix l.length q
 | .shift q p _=>Ix l.length q∧Ix l.length p∧(Au l p).kind≠2
 | .inc v=>Ix l.length v
 | .dec v=>Ix l.length v
 |_=>True
instance (l:List Bf) (x:D9):Decidable (J2 l x):=by cases x<;>unfold J2<;>exact inferInstance
def nJ (m:Nat):O0→Prop
 | .num _=>True
 | .var n=>Ix m n
 | .len n=>Ix m n
 | .freq=>True
def xj (m:Nat):CK→Prop
 | .full n=>Ix m n
 | .empty n=>Ix m n
 | .warm n=>Ix m n
 | .less a b=>nJ m a∧nJ m b
def ME (l:List Bf):AC→Prop
 | .nil=>True
 | .prim p r=>J2 l p∧ME l r
 | .ite c t o e r=>xj l.length c.k∧ME l t∧ME l e∧ME l r∧(o=false→e= .nil)
 | .rep n c b r=>xj l.length c.k∧ME l b∧ME l r∧0≤n
def AC.most:AC→Nat
 | .nil=>0
 | .prim _ r=>1+r.most
 | .ite _ t _ e r=>t.most+e.most+r.most
 | .rep n _ b r=>n.toNat*b.most+r.most
def Df:Nat:=100000000
structure VS where
 pc:Nat
 stack:List Int
 yes:Bool
 loops:List Int
 r:GK
section
variable (p:AF) (key:Int)
def El (v:VS):Gl→Option (VS ⊕ Except Nat GK)
 | .prim x=>if J2 p.decls x∧v.r.gone.length<Df then
   match prim p key x v.r with
   | .ok r=>some (.inl {v with pc:=v.pc+1,r:=r})
   | .error e=>some (.inr (.error e))
  else none
 | .num n=>if v.stack.length≤1 then some (.inl {v with pc:=v.pc+1,stack:=n::v.stack})else none
 | .var n=>if Ix p.decls.length n∧v.stack.length≤1 then some (.inl {v with pc:=v.pc+1,stack:=v.r.s.var n::v.stack})else none
 | .len n=>if Ix p.decls.length n∧v.stack.length≤1 then some (.inl {v with pc:=v.pc+1,stack:=((v.r.s.queue n).length:Int)::v.stack})else none
 | .freq=>if v.stack.length≤1 then some (.inl {v with pc:=v.pc+1,stack:=freqOf v.r.s key::v.stack})else none
 | .less=>match v.stack with
  |b::a::st=>some (.inl {v with pc:=v.pc+1,stack:=st,yes:=decide (a<b)})
  |_=>none
 | .full n=>if Ix p.decls.length n then some (.inl {v with pc:=v.pc+1,yes:=decide ((Au p.decls n).max≤((v.r.s.queue n).length:Int))})else none
 | .warm n=>if Ix p.decls.length n then some (.inl {v with pc:=v.pc+1,yes:=decide (0<(v.r.s.queue n).length)&&decide (0<(CA (v.r.s.queue n)).freq)})else none
 | .not=>some (.inl {v with pc:=v.pc+1,yes:=!v.yes})
 | .jump a=>some (.inl {v with pc:=a})
 | .skip a=>some (.inl {v with pc:=if v.yes then v.pc+1 else a})
 | .count c n=>if c<v.loops.length then some (.inl {v with pc:=v.pc+1,loops:=v.loops.set c n})else none
 | .again c a=>match v.loops[c]? with
  |none=>none
  |some n=>if n=0 then some (.inl {v with pc:=a})else some (.inl {v with pc:=v.pc+1,loops:=v.loops.set c (n-1)})
 | .fin=>some (.inr (.ok v.r))
def TC (code:List Gl):Nat→VS→Option (Except Nat GK)
 |0,_=>none
 |k+1,v=>match code[v.pc]? with
  |none=>none
  |some i=>match El p key v i with
   |none=>none
   |some (.inr r)=>some r
   |some (.inl v')=>TC code k v'
def dQ (code:List Gl) (o:Nat) (l:List Gl):Prop:=∃pre post,code=pre++(l++post)∧pre.length=o
variable {p key}
theorem dQ.left {code:List Gl} {o:Nat} {a b:List Gl} (h:dQ code o (a++b)):dQ code o a:=by
 obtain⟨x,y,h1,h2⟩:=h
 exact⟨x,b++y,by rw[h1];simp,h2⟩
theorem dQ.right {code:List Gl} {o:Nat} {a b:List Gl} (h:dQ code o (a++b)):dQ code (o+a.length) b:=by
 obtain⟨x,y,h1,h2⟩:=h
 exact⟨x++a,y,by rw[h1];simp,by simp[h2]⟩
theorem dQ.head {code:List Gl} {o:Nat} {i:Gl} {b:List Gl} (h:dQ code o (i::b)):code[o]?=some i:=by
 obtain⟨x,y,h1,h2⟩:=h
 rw[h1,←h2];simp
theorem dQ.tail {code:List Gl} {o:Nat} {i:Gl} {b:List Gl} (h:dQ code o (i::b)):dQ code (o+1) b:=dQ.right (a:=[i]) h
def DC (p:AF) (key:Int) (code:List Gl) (v v':VS):Prop:=∃n,∀k,TC p key code (n+k) v=TC p key code k v'
def jx (p:AF) (key:Int) (code:List Gl) (v:VS) (e:Nat):Prop:=∃n,TC p key code n v=some (.error e)
variable {code:List Gl}
theorem DC.refl (v:VS):DC p key code v v:=⟨0,fun k=>by rw[FA]⟩
theorem DC.trans {a b c:VS} (h:DC p key code a b) (h':DC p key code b c):DC p key code a c:=by
 obtain⟨n,hn⟩:=h
 obtain⟨m,hm⟩:=h'
 exact⟨n+m,fun k=>by rw[E3,hn,hm]⟩
theorem DC.dies {a b:VS} {e:Nat} (h:DC p key code a b) (h':jx p key code b e):jx p key code a e:=by
 obtain⟨n,hn⟩:=h
 obtain⟨m,hm⟩:=h'
 exact⟨n+m,by rw[hn,hm]⟩
theorem DC.step {v v':VS} {i:Gl} (h:code[v.pc]?=some i) (hs:El p key v i=some (.inl v')):DC p key code v v':=
 ⟨1,fun k=>by rw[FC];simp only[TC,h,hs]⟩
theorem jx.step {v:VS} {i:Gl} {e:Nat} (h:code[v.pc]?=some i) (hs:El p key v i=some (.inr (.error e))):jx p key code v e:=
 ⟨1,by simp only[TC,h,hs]⟩
theorem Ou {o:Nat} (x:O0) (h:code[o]?=some (Gk x)) (hx:nJ p.decls.length x) (v:VS) (hv:v.pc=o) (hs:v.stack.length≤1):
  DC p key code v {v with pc:=o+1,stack:=QL key v.r.s x::v.stack}:=by
 subst hv
 refine DC.step h ?_
 cases x with
 |num n=>simp only[Gk,El];rw[Ak hs];rfl
 |var n=>simp only[Gk,El];rw[Ak ⟨show Ix p.decls.length n from hx,hs⟩];rfl
 |len n=>simp only[Gk,El];rw[Ak ⟨show Ix p.decls.length n from hx,hs⟩];rfl
 |freq=>simp only[Gk,El];rw[Ak hs];rfl
theorem PE {o:Nat} (c:Da) (h:dQ code o (Aq c)) (hc:xj p.decls.length c.k) (v:VS) (hv:v.pc=o) (CP:v.stack=[]):
  DC p key code v {v with pc:=o+(Aq c).length,yes:=CW p.decls key v.r.s c}:=by
 have hk:=h.left
 have h1:DC p key code v {v with pc:=o+(Ja c.k).length,yes:=mZ p.decls key v.r.s c.k}:=by
  subst hv
  cases XW:c.k with
  |full n=>
   rw[XW]at hk hc
   refine DC.step hk.head ?_
   simp only[El];rw[Ak (show Ix p.decls.length n from hc)];rfl
  |warm n=>
   rw[XW]at hk hc
   refine DC.step hk.head ?_
   simp only[El];rw[Ak (show Ix p.decls.length n from hc)];rfl
  |empty n=>
   rw[XW]at hk hc
   have a1:=Ou (key:=key) (.len n) hk.head hc v rfl (by rw[CP];exact Bn _)
   have a2:=Ou (p:=p) (key:=key) (.num 1) hk.tail.head trivial {v with pc:=v.pc+1,stack:=QL key v.r.s (.len n)::v.stack} rfl (by simp[CP])
   refine a1.trans (a2.trans ?_)
   refine DC.step (i:=.less) hk.tail.tail.head ?_
   have e:decide (((v.r.s.queue n).length:Int)<1)=decide ((v.r.s.queue n).length=0):=by
    rw[decide_eq_decide];omega
   show some (Sum.inl {v with pc:=v.pc+1+1+1,yes:=decide (((v.r.s.queue n).length:Int)<1)})=_
   rw[e]
   rfl
  |less a b=>
   rw[XW]at hk hc
   have a1:=Ou (key:=key) a hk.head hc.1 v rfl (by rw[CP];exact Bn _)
   have a2:=Ou (key:=key) b hk.tail.head hc.2 {v with pc:=v.pc+1,stack:=QL key v.r.s a::v.stack} rfl (by simp[CP])
   refine a1.trans (a2.trans ?_)
   exact DC.step (i:=.less) hk.tail.tail.head rfl
 refine h1.trans ?_
 have hr:=h.right
 unfold CW Aq at*
 cases hn:(c.nots%2==1)with
 |false=>rw[hn]at hr;simp;exact DC.refl _
 |true=>
  rw[hn]at hr
  refine DC.step (i:=.not) hr.head ?_
  simp[El];omega
structure zW5 (c:Nat) (v v':VS) (o':Nat) (r':GK):Prop where
 pc:v'.pc=o'
 r:v'.r=r'
 stack:v'.stack=v.stack
 len:v'.loops.length=v.loops.length
 low:∀i,i<c→v'.loops[i]?=v.loops[i]?
def Hu (p:AF) (key:Int) (code:List Gl) (c:Nat) (v:VS) (o':Nat):Except Nat GK→Prop
 | .ok r'=>∃v',DC p key code v v'∧zW5 c v v' o' r'
 | .error e=>jx p key code v e
theorem Hu.reach {c o':Nat} {v v1:VS} {x:Except Nat GK} (h:DC p key code v v1) (hs:v1.stack=v.stack) (hl:v1.loops.length=v.loops.length) (K8:∀i,i<c→v1.loops[i]?=v.loops[i]?)
  (g:Hu p key code c v1 o' x):Hu p key code c v o' x:=by
 cases x with
 |ok r=>
  obtain⟨v',a,b⟩:=g
  exact⟨v',h.trans a,b.pc,b.r,b.stack.trans hs,b.len.trans hl,fun i hi=>(b.low i hi).trans (K8 i hi)⟩
 |error e=>exact h.dies g
def na (x:Except Nat GK) (f:GK→Except Nat GK):Except Nat GK:=
 match x with
 | .ok r=>f r
 | .error e=>.error e
theorem Hu.mono_ {c c1 o':Nat} {v:VS} {x:Except Nat GK} (hc:c≤c1) (g:Hu p key code c1 v o' x):Hu p key code c v o' x:=by
 cases x with
 |error e=>exact g
 |ok r=>
  obtain⟨v',a,b⟩:=g
  exact⟨v',a,b.pc,b.r,b.stack,b.len,fun i hi=>b.low i (by omega)⟩
theorem Hu.seq {c c1 o1 o2:Nat} {v:VS} {x:Except Nat GK} {f:GK→Except Nat GK} (hc:c≤c1) (h:Hu p key code c1 v o1 x)
  (hf:∀v' r,x= .ok r→zW5 c1 v v' o1 r→Hu p key code c v' o2 (f r)):
  Hu p key code c v o2 (na x f):=by
 cases x with
 |error e=>exact h
 |ok r=>
  obtain⟨v',a,b⟩:=h
  exact Hu.reach a b.stack b.len (fun i hi=>b.low i (by omega)) (hf v' r rfl b)
theorem NV (l:List Bf) (f k:Int) (r:GK):(GK.leaves l f k r).gone.length≤r.gone.length+1:=by
 unfold GK.leaves
 split
 ·simp
 ·omega
theorem PF {l:List Bf} {e:Lo} {f t:Int} {tl:Bool} {r r':GK} (h:Nm l e f t tl r= .ok r'):r'.gone.length≤r.gone.length+1:=by
 unfold Nm at h
 split at h
 ·cases h
 ·injection h with h
  subst h
  split
  ·exact Es _
  ·exact NV _ _ _ _
theorem Wg {x:D9} {r r':GK} (h:prim p key x r= .ok r'):r'.gone.length≤r.gone.length+1:=by
 cases x with
 |put q t=>
  simp only[prim]at h
  split at h
  ·have h2:=PF h;exact h2
  ·have h2:=PF h;exact h2
 |evict q=>
  simp only[prim]at h
  split at h
  ·cases h
  ·injection h with h;subst h;exact NV _ _ _ _
 |cool q=>
  simp only[prim]at h
  split at h
  ·cases h
  ·injection h with h;subst h;split<;>exact Es _
 |shift q t tl=>
  simp only[prim]at h
  split at h
  ·cases h
  ·have h2:=PF h;exact h2
 |inc v=>simp only[prim]at h;injection h with h;subst h;split<;>exact Es _
 |dec v=>simp only[prim]at h;injection h with h;subst h;split<;>exact Es _
 |drop=>
  simp only[prim]at h
  split at h
  ·injection h with h;subst h;exact NV _ _ _ _
  ·injection h with h;subst h;exact Es _
 |bump=>
  simp only[prim]at h
  split at h
  ·injection h with h;subst h;split<;>exact Es _
  ·injection h with h;subst h;exact Es _
theorem Pv {c:St→Bool} {f:GK→Except Nat GK} {m:Nat} (hf:∀r r',f r= .ok r'→r'.gone.length≤r.gone.length+m):∀(n:Nat) (r r':GK),IV c f n r= .ok r'→r'.gone.length≤r.gone.length+n*m
 |0,r,r',h=>by rw[IV]at h;injection h with h;subst h;omega
 |n+1,r,r',h=>by
  rw[IV]at h
  split at h
  ·split at h
   ·rename_i r1 e
    have h1:=hf _ _ e
    have h2:=Pv hf n r1 r' h
    rw[Nat.succ_mul];omega
   ·cases h
  ·injection h with h;subst h;exact C2 _ _
theorem Fd:∀(b:AC) (r r':GK),exec p key b r= .ok r'→r'.gone.length≤r.gone.length+b.most
 | .nil,r,r',h=>by rw[exec]at h;injection h with h;subst h;exact C2 _ _
 | .prim x b,r,r',h=>by
  rw[exec]at h
  split at h
  ·rename_i r1 e
   have h1:=Wg e
   have h2:=Fd b r1 r' h
   simp only[AC.most];omega
  ·cases h
 | .ite c t o e b,r,r',h=>by
  rw[exec]at h
  split at h
  ·rename_i r1 e1
   have h2:=Fd b r1 r' h
   have h1:r1.gone.length≤r.gone.length+(t.most+e.most):=by
    split at e1
    ·have:=Fd t r r1 e1;omega
    ·split at e1
     ·have:=Fd e r r1 e1;omega
     ·injection e1 with e1;subst e1;omega
   simp only[AC.most];omega
  ·cases h
 | .rep n c x b,r,r',h=>by
  rw[exec]at h
  split at h
  ·rename_i r1 e1
   have h2:=Fd b r1 r' h
   have h1:=Pv (m:=x.most) (fun r r' hr=>Fd x r r' hr) n.toNat r r1 e1
   simp only[AC.most];omega
  ·cases h
theorem I9:∀(b:AC) (c o:Nat),dQ code o (BR c o b)→ME p.decls b→∀v:VS,v.pc=o→c+b.loops≤v.loops.length→v.stack=[]→v.r.gone.length+b.most≤Df→Hu p key code c v (o+(BR c o b).length) (exec p key b v.r)
 | .nil,c,o,_,_,v,hv,_,_,_=>⟨v,DC.refl v,hv,rfl,rfl,rfl,fun _ _=>rfl⟩
 | .prim x r,c,o,h,G7,v,hv,hl,CP,hg=>by
  have qC:v.r.gone.length+(1+r.most)≤Df:=hg
  have SX:v.r.gone.length<Df:=by omega
  have h0:=h.head
  have ht:=h.tail
  rw[exec]
  rw[←hv]at h0
  cases hx:prim p key x v.r with
  |error e=>
   refine jx.step h0 ?_
   simp only[El];rw[Ak ⟨G7.1,SX⟩,hx]
  |ok r1=>
   have hr:DC p key code v {v with pc:=v.pc+1,r:=r1}:=DC.step h0 (by simp only[El];rw[Ak ⟨G7.1,SX⟩,hx])
   refine Hu.reach hr rfl rfl (fun _ _=>rfl) ?_
   have:=I9 r c (o+1) ht G7.2 {v with pc:=v.pc+1,r:=r1} (by simp[hv]) hl CP (by have:=Wg hx;show r1.gone.length+_≤_;omega)
   simpa[BR,E3,FC 1]using this
 | .ite k t other e r,c,o,h,G7,v,hv,hl,CP,hg=>by
  have qC:v.r.gone.length+(t.most+e.most+r.most)≤Df:=hg
  obtain⟨Mg,Va,W5,yC,ok5⟩:=G7
  have Uy:c+(t.loops+e.loops+r.loops)≤v.loops.length:=hl
  have hx:exec p key (.ite k t other e r) v.r=na (if CW p.decls key v.r.s k then exec p key t v.r else if other then exec p key e v.r else .ok v.r) (exec p key r):=rfl
  rw[hx]
  cases other with
  |true=>
   simp only[BR,A0]at h ⊢
   have hc:=h.left
   have hs:=h.right
   have SB:=hs.head
   have hT:=hs.tail.left
   have hJ:=hs.tail.right
   have hJ0:=hJ.head
   have hE:=hJ.tail.left
   have hR:=hJ.tail.right
   have g1:=PE (key:=key) k hc Mg v hv CP
   refine Hu.reach g1 rfl rfl (fun _ _=>rfl) ?_
   have g2:DC p key code {v with pc:=o+(Aq k).length,yes:=CW p.decls key v.r.s k} _:=DC.step SB rfl
   refine Hu.reach g2 rfl rfl (fun _ _=>rfl) ?_
   have m9:∀a b c d e:Nat,a+(b+(c+(d+e+1)+1))=a+b+1+c+1+d+e:=by intros;omega
   simp only[Ao,Ac,m9]
   generalize hq:CW p.decls key v.r.s k=y
   cases y with
   |true=>
    simp only[A0]
    have gt:=I9 t c (o+(Aq k).length+1) hT Va {v with pc:=o+(Aq k).length+1,yes:=true} rfl (by show c+t.loops≤v.loops.length;omega) CP (by show v.r.gone.length+_≤_;omega)
    refine Hu.seq (Ab _) gt ?_
    intro v' r' LT th
    have qz:=Fd t _ _ LT
    have bX:=th.r
    have g3:DC p key code v' _:=DC.step (by rw[th.pc];exact hJ0) rfl
    refine Hu.reach g3 rfl rfl (fun _ _=>rfl) ?_
    have gr:=I9 r (c+t.loops+e.loops) _ hR yC {v' with pc:=o+(Aq k).length+1+(BR c (o+(Aq k).length+1) t).length+1+(BR (c+t.loops) (o+(Aq k).length+1+(BR c (o+(Aq k).length+1) t).length+1) e).length} rfl
     (by have:=th.len;show _≤v'.loops.length;simp at this;omega) (by show v'.stack=[];rw[th.stack];exact CP) (by show v'.r.gone.length+_≤_;rw[bX];(try simp at qz);omega)
    rw[←th.r]
    exact Hu.mono_ (Ai (C2 c _) (C2 _ _)) gr
   |false=>
    simp only[A0,An,A1]
    have ge:=I9 e (c+t.loops) _ hE W5 {v with pc:=o+(Aq k).length+1+(BR c (o+(Aq k).length+1) t).length+1,yes:=false} rfl (by show c+t.loops+e.loops≤v.loops.length;omega) CP (by show v.r.gone.length+_≤_;omega)
    refine Hu.seq (C2 _ _) ge ?_
    intro v' r' LT th
    have qz:=Fd e _ _ LT
    have bX:=th.r
    have gr:=I9 r (c+t.loops+e.loops) _ hR yC v' th.pc (by have:=th.len;simp at this;omega) (by rw[th.stack];exact CP) (by rw[bX];(try simp at qz);omega)
    rw[←th.r]
    exact Hu.mono_ (Ai (C2 c _) (C2 _ _)) gr
  |false=>
   simp only[BR,An,A1]at h ⊢
   have he:=ok5 rfl
   have hc:=h.left
   have hs:=h.right
   have SB:=hs.head
   have hT:=hs.tail.left
   have hR:=hs.tail.right
   have g1:=PE (key:=key) k hc Mg v hv CP
   refine Hu.reach g1 rfl rfl (fun _ _=>rfl) ?_
   have g2:DC p key code {v with pc:=o+(Aq k).length,yes:=CW p.decls key v.r.s k} _:=DC.step SB rfl
   refine Hu.reach g2 rfl rfl (fun _ _=>rfl) ?_
   have m9:∀a b c e:Nat,a+(b+(c+e+1))=a+b+1+c+e:=by intros;omega
   simp only[Ao,Ac,m9]
   generalize hq:CW p.decls key v.r.s k=y
   cases y with
   |true=>
    simp only[A0]
    have gt:=I9 t c (o+(Aq k).length+1) hT Va {v with pc:=o+(Aq k).length+1,yes:=true} rfl (by show c+t.loops≤v.loops.length;omega) CP (by show v.r.gone.length+_≤_;omega)
    refine Hu.seq (Ab _) gt ?_
    intro v' r' LT th
    have qz:=Fd t _ _ LT
    have bX:=th.r
    have gr:=I9 r (c+t.loops) _ hR yC v' th.pc (by have:=th.len;simp at this;omega) (by rw[th.stack];exact CP) (by rw[bX];(try simp at qz);omega)
    rw[←th.r]
    exact Hu.mono_ (C2 c _) gr
   |false=>
    simp only[An,A1]
    have gr:=I9 r (c+t.loops) _ hR yC {v with pc:=o+(Aq k).length+1+(BR c (o+(Aq k).length+1) t).length,yes:=false} rfl (by show _≤v.loops.length;omega) CP (by show v.r.gone.length+_≤_;omega)
    exact Hu.mono_ (C2 c _) gr
 | .rep n k b r,c,o,h,G7,v,hv,hl,CP,hg=>by
  have qC:v.r.gone.length+(n.toNat*b.most+r.most)≤Df:=hg
  obtain⟨Mg,Va,W5,yC⟩:=G7
  have Uy:c+(1+b.loops+r.loops)≤v.loops.length:=hl
  have hx:exec p key (.rep n k b r) v.r=na (IV (fun s=>CW p.decls key s k) (exec p key b) n.toNat v.r) (exec p key r):=rfl
  rw[hx]
  simp only[BR]at h ⊢
  have h0:=h.head
  have h1:=h.tail.head
  have hc:=h.tail.tail.left
  have hs:=h.tail.tail.right
  have SB:=hs.head
  have hB:=hs.tail.left
  have hJ:=hs.tail.right
  have hJ0:=hJ.head
  have hR:=hJ.tail
  have e1:o+1+1=o+2:=rfl
  rw[e1]at hc SB hB hJ0 hR
  generalize hL:o+2+(Aq k).length+1+(BR (c+1) (o+2+(Aq k).length+1) b).length+1=L at*
  have Nw:c<v.loops.length:=by omega
  have g0:DC p key code v {v with pc:=o+1,loops:=v.loops.set c n}:=DC.step (by rw[hv];exact h0) (by simp only[El];rw[Ak Nw,hv])
  refine Hu.reach g0 rfl (by simp) (fun i hi=>by rw[E8 (by omega)]) ?_
  have lp:∀(m:Nat) (v:VS),v.pc=o+1→v.loops[c]?=some (m:Int)→c+(1+b.loops+r.loops)≤v.loops.length→v.stack=[]→v.r.gone.length+(m*b.most+r.most)≤Df→
    Hu p key code c v L (IV (fun s=>CW p.decls key s k) (exec p key b) m v.r):=by
   intro m
   induction m with
   |zero=>
    intro v hv hm hl _ _
    refine⟨{v with pc:=L},DC.step (by rw[hv];exact h1) ?_,rfl,rfl,rfl,rfl,fun _ _=>rfl⟩
    simp only[El,hm]
    rfl
   |succ m ih=>
    intro v hv hm hl CP hg
    rw[Nat.succ_mul]at hg
    have a1:DC p key code v {v with pc:=o+2,loops:=v.loops.set c m}:=by
     refine DC.step (by rw[hv];exact h1) ?_
     simp only[El,hm]
     rw[Ad (by omega),hv]
     have:((m+1:Nat):Int)-1=m:=by omega
     rw[this]
    have Nw:c<v.loops.length:=by omega
    refine Hu.reach a1 rfl (by simp) (fun i hi=>by rw[E8 (by omega)]) ?_
    have a2:=PE (key:=key) k hc Mg {v with pc:=o+2,loops:=v.loops.set c m} rfl CP
    refine Hu.reach a2 rfl rfl (fun _ _=>rfl) ?_
    have a3:DC p key code {v with pc:=o+2+(Aq k).length,loops:=v.loops.set c m,yes:=CW p.decls key v.r.s k} _:=DC.step SB rfl
    refine Hu.reach a3 rfl rfl (fun _ _=>rfl) ?_
    rw[IV]
    generalize hq:CW p.decls key v.r.s k=y
    cases y with
    |false=>
     simp only[An,A1]
     exact⟨_,DC.refl _,rfl,rfl,rfl,rfl,fun _ _=>rfl⟩
    |true=>
     simp only[A0]
     have gb:=I9 b (c+1) _ hB Va {v with pc:=o+2+(Aq k).length+1,loops:=v.loops.set c m,yes:=true} rfl (by show c+1+b.loops≤(v.loops.set c m).length;simp;omega) CP (by show v.r.gone.length+_≤_;omega)
     have:=Hu.seq (f:=fun r=>IV (fun s=>CW p.decls key s k) (exec p key b) m r) (c:=c) (o2:=L) (Es c) gb ?_
     ·exact this
     ·intro v' r' LT th
      have qz:=Fd b _ _ LT
      have bX:=th.r
      have g3:DC p key code v' {v' with pc:=o+1}:=DC.step (by rw[th.pc];exact hJ0) rfl
      refine Hu.reach g3 rfl rfl (fun _ _=>rfl) ?_
      rw[←th.r]
      refine ih {v' with pc:=o+1} rfl ?_ ?_ (by show v'.stack=[];rw[th.stack];exact CP) (by show v'.r.gone.length+_≤_;rw[bX];(try simp at qz);omega)
      ·show v'.loops[c]?=_
       rw[th.low c (by omega)]
       show(v.loops.set c (m:Int))[c]?=_
       rw[Lz Nw]
      ·have:=th.len
       show _≤v'.loops.length
       simp at this
       omega
  have g1:=lp n.toNat {v with pc:=o+1,loops:=v.loops.set c n} rfl (by show(v.loops.set c n)[c]?=_;rw[Lz Nw];congr 1;omega) (by show _≤(v.loops.set c n).length;simp;omega) CP qC
  have m9:o+(((Aq k).length+((BR (c+1) (o+2+(Aq k).length+1) b).length+((BR (c+1+b.loops) L r).length+1)+1))+1+1)=L+(BR (c+1+b.loops) L r).length:=by omega
  simp only[Ao,Ac,m9]
  refine Hu.seq (Ab _) g1 ?_
  intro v' r' LT th
  have qz:=Pv (m:=b.most) (fun r r' hr=>Fd b r r' hr) _ _ _ LT
  have bX:=th.r
  have gr:=I9 r (c+1+b.loops) _ hR W5 v' th.pc (by have:=th.len;simp at this;omega) (by rw[th.stack];exact CP) (by rw[bX];(try simp at qz);omega)
  rw[←th.r]
  exact Hu.mono_ (by omega) gr
theorem kV (b:AC) (c:Nat) (G7:ME p.decls b) (s:St) (loops:List Int) (hl:c+b.loops≤loops.length) (hg:b.most≤Df):
  ∃k,TC p key (BR c 0 b++[.fin]) k ⟨0,[],false,loops,⟨s,[]⟩⟩=some (exec p key b ⟨s,[]⟩):=by
 have hA:dQ (BR c 0 b++[.fin]) 0 (BR c 0 b++[.fin]):=⟨[],[],by simp,rfl⟩
 have g:=I9 (key:=key) b c 0 hA.left G7 ⟨0,[],false,loops,⟨s,[]⟩⟩ rfl hl rfl (by simpa using hg)
 have hf:=hA.right.head
 cases hx:exec p key b ⟨s,[]⟩with
 |error e=>
  rw[hx]at g
  exact g
 |ok r=>
  rw[hx]at g
  obtain⟨v',⟨n,hn⟩,th⟩:=g
  refine⟨n+1,?_⟩
  rw[hn]
  have qr:v'.pc=0+(BR c 0 b).length:=th.pc
  simp only[TC,qr,hf,El,th.r]
end
end Go.Proofs.YtemppijblfflgaaGreatDoor.Ev
namespace Go.Proofs.YtemppijblfflgaaGreatDoor.Ev
open Go Go.RowKit
def Cr (i:Gl):List Value:=[.int .u8 i.op,.int .i64 i.a,.int .i64 i.b]
theorem lY:(Tryz.prog.info? 147).map (fun i=>(i.zero,i.size,i.bytes))=some (some (.agg #[.int .u8 0,.int .i64 0,.int .i64 0]),3,24):=by kernel_rfl
structure NB (S:Nat→Prop) (w:World) (gm gg gp bm:Nat) (vl:Value) (loops:Nat) (code:List Gl):Prop where
 row:AM w gm 189 [.pointer (some ⟨gg,0,none⟩),vl]
 prog:AM w gg 94 [.pointer (some ⟨gp,0,none⟩),.map (some bm),.int .i64 loops]
 l:Sl S w 147 3 vl code.length (code.flatMap Cr)
 sm:S gm
 sg:S gg
section
variable {S:Nat→Prop} {w:World} {gm gg gp bm loops:Nat} {vl:Value} {code:List Gl}
theorem pJ (h:NB S w gm gg gp bm vl loops code) (hS:Up S w) (hn:code.length≤1000000) (i:Gl):
  Calls Tryz.prog 82 #[.pointer (some ⟨gm,0,none⟩),.agg (Cr i).toArray] w fun e w'=>
   e= .returned (.int .i64 code.length)∧Af S w w'∧∃vl,NB S w' gm gg gp bm vl loops (code++[i]):=by
 have c1:=h.row.cell 1
 have hgm:=h.row.lt
 have f:=fun j=>h.row.frozen j
 simp at c1
 obtain⟨i0,Lt,KX,Ls,Lr⟩:=Cj lY
 obtain⟨av,cv,rfl⟩:=h.l.shape
 have W1:=h.l.alloc (.cells (Cr i).toArray 147)
 have H:=Aa h
 have HS:=Aa hS
 have HW1:=Aa W1
 have Cu:¬gm=w.heap.size:=by omega
 have q3:∀u∈Cr i,u.oneCell'=true:=by intro u hu;simp[Cr]at hu;rcases hu with rfl|rfl|rfl<;>rfl
 have Q3:=Aa q3
 have q4:code.length+1≤maxLen:=by unfold maxLen;omega
 have q5:(code.length+1)*24≤140737488355328:=by omega
 clear h hS W1 q3
 unfold Cr at*
 go_enter Tryz.func82,Tryz.ntmps82
 go_wp2_with fail
 have b0:(w.alloc (.cells #[.int .u8 i.op,.int .i64 i.a,.int .i64 i.b] 147)).cell? ⟨w.heap.size,0,none⟩=some (.int .u8 i.op):=by simp
 have b1:(w.alloc (.cells #[.int .u8 i.op,.int .i64 i.a,.int .i64 i.b] 147)).cell? ⟨w.heap.size,1,none⟩=some (.int .i64 i.a):=by simp
 have b2:(w.alloc (.cells #[.int .u8 i.op,.int .i64 i.a,.int .i64 i.b] 147)).cell? ⟨w.heap.size,2,none⟩=some (.int .i64 i.b):=by simp
 have b3:=(H.out.row.alloc (.cells #[.int .u8 i.op,.int .i64 i.a,.int .i64 i.b] 147)).cell 1
 simp only[Eb,Bm]at b3
 have r1:=H.out.row.alloc (.cells #[.int .u8 i.op,.int .i64 i.a,.int .i64 i.b] 147)
 have r2:=H.out.prog.alloc (.cells #[.int .u8 i.op,.int .i64 i.a,.int .i64 i.b] 147)
 have Fw:(w.alloc (.cells #[.int .u8 i.op,.int .i64 i.a,.int .i64 i.b] 147)).heap.size=w.heap.size+1:=by simp
 have kw:Af S w (w.alloc (.cells #[.int .u8 i.op,.int .i64 i.a,.int .i64 i.b] 147)):=(Af.refl S w).alloc (HS.out _ (Ab _)) _
 have f1:=fun j=>r1.frozen j
 have Cy:∀b,(Value.slice av code.length cv).ownBlock=some b→b<w.heap.size:=fun b hb=>H.out.l.lt hb
 generalize Qx:w.alloc (.cells #[.int .u8 i.op,.int .i64 i.a,.int .i64 i.b] 147)=w1 at*
 have p0:∀b,b=gm∨b=gg∨b=w.heap.size→¬((Value.slice av code.length cv).ownBlock=some b∨((w1.alloc (.cells #[.int .u8 i.op,.int .i64 i.a,.int .i64 i.b] 147)).drew).heap.size≤b):=by
  intro b hb
  have Amz:=H.out.prog.lt
  have e:((w1.alloc (.cells #[.int .u8 i.op,.int .i64 i.a,.int .i64 i.b] 147)).drew).heap.size=w1.heap.size+1:=by simp
  rw[e]
  rintro(h0|h0)
  ·rcases hb with rfl|rfl|rfl
   ·exact H.out.l.ne_row H.out.row (by decide) h0
   ·exact H.out.l.ne_row H.out.prog (by decide) h0
   ·have:=Cy _ h0;omega
  ·rcases hb with rfl|rfl|rfl<;>omega
 have s1:=(HW1.out.alloc (.cells #[.int .u8 i.op,.int .i64 i.a,.int .i64 i.b] 147)).of_heap (w':=(w1.alloc (.cells #[.int .u8 i.op,.int .i64 i.a,.int .i64 i.b] 147)).drew) rfl
 have fz1:(w1.alloc (.cells #[.int .u8 i.op,.int .i64 i.a,.int .i64 i.b] 147)).drew.frozen? ⟨gm,1,none⟩=false:=(r1.alloc _).frozen 1
 have b4:(w1.alloc (.cells #[.int .u8 i.op,.int .i64 i.a,.int .i64 i.b] 147)).drew.cell? ⟨gm,1,none⟩=some (.slice av code.length cv):=(r1.alloc _).cell 1
 have S1:=Aa s1
 have P0:=Aa p0
 have R1:=Aa r1
 have R2:=Aa r2
 have eJ:S ((w1.alloc (.cells #[.int .u8 i.op,.int .i64 i.a,.int .i64 i.b] 147)).drew).heap.size:=HS.out _ (by simp;omega)
 have rJ:=Aa eJ
 have q2:=FN w1 [.int .u8 i.op,.int .i64 i.a,.int .i64 i.b] 147
 have Q2:=Aa q2
 have HL:=Aa Cy
 have KW:=Aa kw
 have ya:=Aa Fw
 clear Fw s1 p0 r1 r2 eJ q2 Cy kw Qx
 have A6:∀(g2 Er:Nat) (w2:World),Sl S w2 147 3 (.slice (some ⟨g2,0,none⟩) (code.length+1) Er) (code.length+1) (code.flatMap Cr++Cr i)→
   Af (fun b=>(Value.slice av code.length cv).ownBlock=some b∨((w1.alloc (.cells #[.int .u8 i.op,.int .i64 i.a,.int .i64 i.b] 147)).drew).heap.size≤b) ((w1.alloc (.cells #[.int .u8 i.op,.int .i64 i.a,.int .i64 i.b] 147)).drew) w2→
   Af S w (w2.setCell ⟨gm,1,none⟩ (.slice (some ⟨g2,0,none⟩) (code.length+1) Er))∧NB S (w2.setCell ⟨gm,1,none⟩ (.slice (some ⟨g2,0,none⟩) (code.length+1) Er)) gm gg gp bm (.slice (some ⟨g2,0,none⟩) (code.length+1) Er) loops (code++[i]):=by
  intro g2 Er w2 Cp A4
  have iO:Up S w1:=HS.out.kept KW.out
  have k1:Af S w ((w1.alloc (.cells #[.int .u8 i.op,.int .i64 i.a,.int .i64 i.b] 147)).drew):=(KW.out.alloc (iO _ (Ab _)) _).drew
  have k2:Af S w w2:=k1.trans (A4.mono (fun b hb=>by
   rcases hb with hb|hb
   ·exact H.out.l.2 b hb
   ·exact iO b (Ai (by simp) hb)))
  have rm:=((R1.out.alloc (.cells #[.int .u8 i.op,.int .i64 i.a,.int .i64 i.b] 147)).drew).kept A4 (P0.out gm (.inl rfl))
  have rg:=((R2.out.alloc (.cells #[.int .u8 i.op,.int .i64 i.a,.int .i64 i.b] 147)).drew).kept A4 (P0.out gg (.inr (.inl rfl)))
  have BY:Af (fun b=>b=gm) w2 (w2.setCell ⟨gm,1,none⟩ (.slice (some ⟨g2,0,none⟩) (code.length+1) Er)):=Af.one w2 ⟨gm,1,none⟩ _
  have el:(code++[i]).length=code.length+1:=by simp
  have ex:(code++[i]).flatMap Cr=code.flatMap Cr++Cr i:=by simp
  refine⟨k2.setCell (p:=⟨gm,1,none⟩) H.out.sm _,rm.set_ 1 _,rg.kept BY (fun e=>rg.ne_ rm (by decide) e),?_,H.out.sm,H.out.sg⟩
  rw[el,ex]
  exact Cp.kept BY (fun b hb e=>Cp.ne_row rm (by decide) (e▸hb))
 have HF:=Aa A6
 clear A6
 go_region_law (first
  |(refine F9 Tryz.underlying140 Lt KX Ls Lr rfl (by decide) S1.out rJ.out rfl _ _ (by rfl) (by rfl) ⟨w1.heap.size,0,none⟩ 1 1 [.int .u8 i.op,.int .i64 i.a,.int .i64 i.b] (by rfl) (by rfl) Q2.out Q3.out q4 q5 (by omega) ?_;intro g2 Er w2 Cp A4 EE;have e1:=(A4.cell (p:=⟨gm,1,none⟩) (P0.out _ (.inl rfl))).trans b4;have e2:=(A4.frozen (p:=⟨gm,1,none⟩) (P0.out _ (.inl rfl))).trans fz1;have U3:=Aa Cp;have Rp:=Aa A4;clear Cp A4 EE))
 all_goals
  go_wp2
  go_ret
  have hf:=HF.out g2 Er w2 U3.out Rp.out
  exact⟨rfl,hf.1,_,hf.2⟩
end
def Dq (s:Ae) (st:PS) (gp:Nat) (wp:Value):List Value:=
 [vs s,.int .i64 st.i,vs st.t.kind,vs st.t.text,.int .i64 st.t.pos,.pointer (some ⟨gp,0,none⟩),.bool st.fseen,.int .i64 st.depth,.int .i64 st.loops,wp]
theorem LD (p:UInt8→Bool) (s:Ae) (i:Nat) (h:i≤s.length):i≤skip p s i∧skip p s i≤s.length:=by
 unfold skip
 have h1:=List.takeWhile_sublist (p:=p) (l:=s.drop i)
 have h2:=h1.length_le
 rw[jr]at h2
 omega
theorem Ks (p:UInt8→Bool) (s:Ae) (i:Nat) (c:UInt8) (h:s[i]?=some c):skip p s i=if p c then skip p s (i+1)else i:=by
 obtain⟨hi,hc⟩:=Ap.1 h
 unfold skip
 rw[Gt hi,hc]
 by_cases hp:p c
 ·simp[hp];omega
 ·simp only[Sg]at hp
  simp[hp]
theorem Ml (p:UInt8→Bool) (s:Ae) (i:Nat) (h:s[i]?=none):skip p s i=i:=by
 unfold skip
 have:s.length≤i:=by simpa using h
 rw[List.drop_eq_nil_of_le this]
 simp
theorem At (s:Ae):(ByteArray.mk s.toArray).size=s.length:=List.size_toArray
def D0 (d:Bf):List Value:=[.int .i64 d.kind,vs d.name,.int .i64 d.max]
def Kx (k:Nat):Nat:=
 if k=1 then 0 else if k=2 then 6 else if k=3 then 7 else if k=4 then 8 else if k=5 then 9 else if k=6 then 10
 else if k=7 then 11 else if k=8 then 12 else if k=9 then 13 else if k=10 then 1 else if k=11 then 4 else 5
def Dn (ea:Nat→Addr) (k:Nat):Value:=.iface 315 (.pointer (some (ea k)))
structure VW (B:Nat) (ea:Nat→Addr) (w:World):Prop where
 size:B≤w.heap.size
 err:∀k,1≤k→k≤12→w.cell? ⟨Kx k,0,none⟩=some (Dn ea k)
 lt:∀k,1≤k→k≤12→Kx k<B
 kw:∀j,j<24→w.cell? ⟨14,j,none⟩=some (vs (AQ.getD j []))
 kwlt:14<B
def IB (B:Nat) (ea:Nat→Addr) (w:World) (wp:Value):Option (Nat×Nat)→Prop
 |none=>wp= .pointer none
 |some (k,pos)=>∃gf,wp= .pointer (some ⟨gf,0,none⟩)∧B≤gf∧AM w gf 110 [Dn ea k,.int .i64 pos]
def FP (N:Nat→Prop) (w:World) (bm:Nat) (rules:List (Int×AC)):Prop:=
 ∃M:GP,BV w bm .i64 M∧M.map (·.1)=rules.map (·.1)∧∀(i:Nat) (x:Int×Value) (y:Int×AC),M[i]?=some x→rules[i]?=some y→Dv N w x.2 y.2
structure nQ (B:Nat) (w:World) (gp bm:Nat) (vd:Value) (p:AF):Prop where
 row:AM w gp 90 [vd,.int .i64 p.freq,.map (some bm)]
 decls:Sl (fun b=>B≤b) w 86 3 vd p.decls.length (p.decls.flatMap D0)
 rules:FP (fun b=>B≤b) w bm p.rules
 gp0:B≤gp
 bm0:B≤bm
def NN (c:Nat) (b:AC):List Gl:=BR c 0 b++[.fin]
def UZ (S:Nat→Prop) (w:World) (rules:List (Int×AC)) (loops:Nat) (k:Int) (v:Value):Prop:=
 ∃b c,AE rules k=some b∧Sl S w 147 3 v (NN c b).length ((NN c b).flatMap Cr)∧c+b.loops≤loops
structure SN (S:Nat→Prop) (w:World) (gg gp bc loops:Nat) (rules:List (Int×AC)):Prop where
 row:AM w gg 94 [.pointer (some ⟨gp,0,none⟩),.map (some bc),.int .i64 loops]
 map:∃M:GP,BV w bc .i64 M∧∀k,match AE rules k with
  |some _=>∃v,FT M k=some v∧UZ S w rules loops k v
  |none=>FT M k=none
 lo:loops≤490000
 sg:S gg
 sm:S bc
end Go.Proofs.YtemppijblfflgaaGreatDoor.Ev
namespace Go.Proofs.YtemppijblfflgaaGreatDoor.Ev
theorem NK (p:UInt8→Bool) (s:Ae) (i:Nat) (h:i≤s.length):i≤skip p s i∧skip p s i≤s.length:=by
 unfold skip
 have h2:=(List.takeWhile_sublist (p:=p) (l:=s.drop i)).length_le
 rw[jr]at h2
 omega
theorem MK (p:UInt8→Bool) (s:Ae) (i:Nat) (c:UInt8) (h:s[i]?=some c) (hp:p c=true):i<skip p s i:=by
 obtain⟨hi,hc⟩:=Ap.1 h
 unfold skip
 rw[Gt hi,hc]
 simp[hp]
theorem Jy (s:Ae) (i:Nat) (h:i≤s.length):
  i≤(D6 s i).1.pos∧(D6 s i).1.pos≤(D6 s i).2∧(D6 s i).2≤s.length∧((D6 s i).1.kind≠DJ→(D6 s i).1.kind≠Bu→(D6 s i).1.pos<(D6 s i).2):=by
 obtain⟨b1,b2⟩:=NK blank s i h
 cases hc:s[skip blank s i]? with
 |none=>
  have e:D6 s i=(⟨DJ,[],skip blank s i⟩,skip blank s i):=by unfold D6;simp only[hc]
  rw[e]
  exact⟨b1,Ab _,b2,fun h=>absurd rfl h⟩
 |some c=>
  have Cy:skip blank s i<s.length:=by
   rcases BP (skip blank s i) s.length with h|h
   ·exact h
   ·rw[Bq h]at hc;cases hc
  cases hl:low c with
  |true=>
   obtain⟨l1,l2⟩:=NK low s (skip blank s i) b2
   have l3:=MK low s _ c hc hl
   by_cases h8:8<skip low s (skip blank s i)-skip blank s i
   ·have e:D6 s i=(⟨Bu,[],skip blank s i⟩,skip blank s i):=by unfold D6;simp only[hc,hl,A0,h8]
    rw[e]
    exact⟨b1,Ab _,b2,fun _ h=>absurd rfl h⟩
   ·have e:(D6 s i).1.pos=skip blank s i∧(D6 s i).2=skip low s (skip blank s i):=by unfold D6;simp only[hc,hl,A0,h8,A1,and_self]
    rw[e.1,e.2]
    exact⟨b1,l1,l2,fun _ _=>l3⟩
  |false=>
   cases hf:E6 c with
   |true=>
    obtain⟨l1,l2⟩:=NK E6 s (skip blank s i) b2
    have l3:=MK E6 s _ c hc hf
    by_cases h8:3<skip E6 s (skip blank s i)-skip blank s i
    ·have e:D6 s i=(⟨Bu,[],skip blank s i⟩,skip blank s i):=by unfold D6;simp only[hc,hl,hf,A0,h8,An,A1]
     rw[e]
     exact⟨b1,Ab _,b2,fun _ h=>absurd rfl h⟩
    ·have e:(D6 s i).1.pos=skip blank s i∧(D6 s i).2=skip E6 s (skip blank s i):=by unfold D6;simp only[hc,hl,hf,A0,h8,A1,An,and_self]
     rw[e.1,e.2]
     exact⟨b1,l1,l2,fun _ _=>l3⟩
   |false=>
    cases hp:FJ c with
    |true=>
     have e:D6 s i=(⟨[c],[c],skip blank s i⟩,skip blank s i+1):=by unfold D6;simp only[hc,hl,hf,hp,A0,An,A1]
     rw[e]
     exact⟨b1,Es _,Cy,fun _ _=>Ea _⟩
    |false=>
     have e:D6 s i=(⟨Bu,[],skip blank s i⟩,skip blank s i):=by unfold D6;simp only[hc,hl,hf,hp,An,A1]
     rw[e]
     exact⟨b1,Ab _,b2,fun _ h=>absurd rfl h⟩
def Tt (l:Ae):Prop:=1≤l.length∧l.length≤3∧∀c∈l,E6 c=true
theorem KS (p:UInt8→Bool) (s:Ae) (i:Nat):CT s i (skip p s i)=(s.drop i).takeWhile p:=by
 unfold CT skip
 rw[VQ,Dj]
 exact(List.prefix_iff_eq_take.1 (List.takeWhile_prefix p)).symm
theorem Sv:¬Bc∈AQ:=by decide
theorem Ma (p:UInt8→Bool):∀(l:Ae),∀c∈l.takeWhile p,p c=true
 | [],c,h=>by simp at h
 |x::l,c,h=>by
  by_cases hx:p x=true
  ·rw[List.takeWhile_cons_of_pos hx]at h
   rcases Bt.1 h with rfl|h
   ·exact hx
   ·exact Ma p l c h
  ·rw[List.takeWhile_cons_of_neg hx]at h
   cases h
theorem eE (s:Ae) (i:Nat) (hk:(D6 s i).1.kind=Bc):Tt (D6 s i).1.text:=by
 cases hc:s[skip blank s i]? with
 |none=>
  have e:D6 s i=(⟨DJ,[],skip blank s i⟩,skip blank s i):=by unfold D6;simp only[hc]
  rw[e]at hk;exact absurd (show DJ=Bc from hk) (by decide)
 |some c=>
  cases hl:low c with
  |true=>
   by_cases h8:8<skip low s (skip blank s i)-skip blank s i
   ·have e:D6 s i=(⟨Bu,[],skip blank s i⟩,skip blank s i):=by unfold D6;simp only[hc,hl,A0,h8]
    rw[e]at hk;exact absurd (show Bu=Bc from hk) (by decide)
   ·have e:(D6 s i).1.kind=if AQ.contains (CT s (skip blank s i) (skip low s (skip blank s i)))then CT s (skip blank s i) (skip low s (skip blank s i))else BG:=by unfold D6;simp only[hc,hl,A0,h8,A1]
    rw[e]at hk
    by_cases hm:AQ.contains (CT s (skip blank s i) (skip low s (skip blank s i)))=true
    ·rw[Ak hm]at hk
     rw[hk]at hm
     exact absurd (Cn.1 hm) Sv
    ·rw[Ad hm]at hk
     exact absurd (show BG=Bc from hk) (by decide)
  |false=>
   cases hf:E6 c with
   |true=>
    by_cases h8:3<skip E6 s (skip blank s i)-skip blank s i
    ·have e:D6 s i=(⟨Bu,[],skip blank s i⟩,skip blank s i):=by unfold D6;simp only[hc,hl,hf,A0,h8,An,A1]
     rw[e]at hk;exact absurd (show Bu=Bc from hk) (by decide)
    ·have e:(D6 s i).1.text=CT s (skip blank s i) (skip E6 s (skip blank s i)):=by unfold D6;simp only[hc,hl,hf,A0,h8,A1,An]
     have l3:=MK E6 s _ c hc hf
     rw[e,KS]
     have e2:skip E6 s (skip blank s i)=skip blank s i+((s.drop (skip blank s i)).takeWhile E6).length:=rfl
     generalize skip E6 s (skip blank s i)=x at*
     exact⟨by omega,by omega,Ma E6 _⟩
   |false=>
    cases hp:FJ c with
    |true=>
     have e:D6 s i=(⟨[c],[c],skip blank s i⟩,skip blank s i+1):=by unfold D6;simp only[hc,hl,hf,hp,A0,An,A1]
     rw[e]at hk
     have:=AL List.length (show [c]=Bc from hk)
     exact absurd this (by simp)
    |false=>
     have e:D6 s i=(⟨Bu,[],skip blank s i⟩,skip blank s i):=by unfold D6;simp only[hc,hl,hf,hp,An,A1]
     rw[e]at hk;exact absurd (show Bu=Bc from hk) (by decide)
def aa (l:Ae):Prop:=1≤l.length∧l.length≤8∧(∀c∈l,low c=true)∧¬l∈AQ
theorem im:¬BG∈AQ:=by decide
theorem Y9 (s:Ae) (i:Nat) (hk:(D6 s i).1.kind=BG):aa (D6 s i).1.text:=by
 cases hc:s[skip blank s i]? with
 |none=>
  have e:D6 s i=(⟨DJ,[],skip blank s i⟩,skip blank s i):=by unfold D6;simp only[hc]
  rw[e]at hk;exact absurd (show DJ=BG from hk) (by decide)
 |some c=>
  cases hl:low c with
  |true=>
   by_cases h8:8<skip low s (skip blank s i)-skip blank s i
   ·have e:D6 s i=(⟨Bu,[],skip blank s i⟩,skip blank s i):=by unfold D6;simp only[hc,hl,A0,h8]
    rw[e]at hk;exact absurd (show Bu=BG from hk) (by decide)
   ·have e:(D6 s i).1.kind=if AQ.contains (CT s (skip blank s i) (skip low s (skip blank s i)))then CT s (skip blank s i) (skip low s (skip blank s i))else BG:=by unfold D6;simp only[hc,hl,A0,h8,A1]
    have e1:(D6 s i).1.text=CT s (skip blank s i) (skip low s (skip blank s i)):=by unfold D6;simp only[hc,hl,A0,h8,A1]
    rw[e]at hk
    by_cases hm:AQ.contains (CT s (skip blank s i) (skip low s (skip blank s i)))=true
    ·rw[Ak hm]at hk
     rw[hk]at hm
     exact absurd (Cn.1 hm) im
    ·have l3:=MK low s _ c hc hl
     have Ic:¬(s.drop (skip blank s i)).takeWhile low∈AQ:=by
      rw[←KS]
      exact fun h=>hm (Cn.2 h)
     rw[e1,KS]
     have e2:skip low s (skip blank s i)=skip blank s i+((s.drop (skip blank s i)).takeWhile low).length:=rfl
     generalize skip low s (skip blank s i)=x at*
     exact⟨by omega,by omega,Ma low _,Ic⟩
  |false=>
   cases hf:E6 c with
   |true=>
    by_cases h8:3<skip E6 s (skip blank s i)-skip blank s i
    ·have e:D6 s i=(⟨Bu,[],skip blank s i⟩,skip blank s i):=by unfold D6;simp only[hc,hl,hf,A0,h8,An,A1]
     rw[e]at hk;exact absurd (show Bu=BG from hk) (by decide)
    ·have e:(D6 s i).1.kind=Bc:=by unfold D6;simp only[hc,hl,hf,A0,h8,A1,An]
     rw[e]at hk;exact absurd (show Bc=BG from hk) (by decide)
   |false=>
    cases hp:FJ c with
    |true=>
     have e:D6 s i=(⟨[c],[c],skip blank s i⟩,skip blank s i+1):=by unfold D6;simp only[hc,hl,hf,hp,A0,An,A1]
     rw[e]at hk
     have:=AL List.length (show [c]=BG from hk)
     exact absurd this (by simp)
    |false=>
     have e:D6 s i=(⟨Bu,[],skip blank s i⟩,skip blank s i):=by unfold D6;simp only[hc,hl,hf,hp,An,A1]
     rw[e]at hk;exact absurd (show Bu=BG from hk) (by decide)
def left (s:Ae) (st:PS):Nat:=s.length+1-st.t.pos
structure PS.Ok (s:Ae) (st:PS):Prop where
 i:st.i≤s.length
 pos:st.t.pos≤st.i
 more:st.t.kind≠DJ→st.t.kind≠Bu→st.t.pos<st.i
 num:st.t.kind=Bc→Tt st.t.text
 name:st.t.kind=BG→aa st.t.text
theorem BF {s:Ae} {st:PS} (h:st.Ok s):(next s st).Ok s:=by
 obtain⟨a,b,c,d⟩:=Jy s st.i h.i
 exact⟨c,b,d,eE s st.i,Y9 s st.i⟩
theorem Wj {s:Ae} {st:PS} (h:st.Ok s) (h1:st.t.kind≠DJ) (h2:st.t.kind≠Bu):left s (next s st)<left s st:=by
 obtain⟨a,b,c,d⟩:=Jy s st.i h.i
 have:=h.more h1 h2
 have:=h.i
 unfold left
 show s.length+1-(D6 s st.i).1.pos<_
 omega
theorem Yx (s:Ae):(start s).Ok s:=by
 obtain⟨a,b,c,d⟩:=Jy s 0 (Bn _)
 exact⟨c,b,d,eE s 0,Y9 s 0⟩
theorem NU {s:Ae} {st:PS} (h:st.Ok s):0<left s st:=by
 have:=h.pos
 have:=h.i
 unfold left
 omega
structure Gm (s:Ae) (st st':PS):Prop where
 ok:st'.Ok s
 left:left s st'≤left s st
 decls:st'.decls=st.decls
 freq:st'.freq=st.freq
 fseen:st'.fseen=st.fseen
 rules:st'.rules=st.rules
 depth:st'.depth=st.depth
 loops:st'.loops=st.loops
 wrong:st'.wrong=none→st.wrong=none
section
variable {s:Ae} {st st' yx:PS}
theorem Gm.refl (h:st.Ok s):Gm s st st:=⟨h,Ab _,rfl,rfl,rfl,rfl,rfl,rfl,id⟩
theorem Gm.trans (h:Gm s st st') (k:Gm s st' yx):Gm s st yx:=
 ⟨k.ok,Ai k.left h.left,k.decls.trans h.decls,k.freq.trans h.freq,k.fseen.trans h.fseen,k.rules.trans h.rules,k.depth.trans h.depth,k.loops.trans h.loops,fun x=>h.wrong (k.wrong x)⟩
theorem Gm.next (h:st.Ok s):Gm s st (next s st):=by
 refine⟨BF h,?_,rfl,rfl,rfl,rfl,rfl,rfl,id⟩
 obtain⟨a,b,c,d⟩:=Jy s st.i h.i
 have:=h.pos
 unfold Ev.left
 show s.length+1-(D6 s st.i).1.pos≤_
 omega
theorem uG (e pos:Nat) (st:PS):(note e pos st).t=st.t∧(note e pos st).i=st.i:=by unfold note;cases st.wrong<;>exact⟨rfl,rfl⟩
theorem Gm.note (h:st.Ok s) (e pos:Nat):Gm s st (note e pos st):=by
 obtain⟨a,b⟩:=uG e pos st
 refine⟨⟨by rw[b];exact h.i,by rw[a,b];exact h.pos,by rw[a,b];exact h.more,by rw[a];exact h.num,by rw[a];exact h.name⟩,by unfold Ev.left;rw[a];exact Ab _,?_,?_,?_,?_,?_,?_,?_⟩
 all_goals unfold Ev.note
 all_goals cases hw:st.wrong<;>simp_all
theorem Ft (e pos:Nat) (st:PS):(note e pos st).wrong≠none:=by
 unfold note;cases hw:st.wrong<;>simp[hw]
theorem Bw {k:Ae} {t:Mc} (h:want s k st= .ok t st'):st.t.kind=k∧t=st.t∧st'=next s st:=by
 unfold want at h
 split at h
 ·injection h with h1 h2;exact⟨by assumption,h1.symm,h2.symm⟩
 ·cases h
theorem AA {α β:Type} {x:AJ α} {f:α→PS→AJ β} {b:β} {st:PS} (h:x.bind f= .ok b st):∃a st1,x= .ok a st1∧f a st1= .ok b st:=by
 cases x with
 |ok a st1=>exact⟨a,st1,rfl,h⟩
 |bad e p=>cases h
theorem MS {α β:Type} {x:AJ α} {f:α→β} {b:β} {st:PS} (h:x.map f= .ok b st):∃a,x= .ok a st∧f a=b:=by
 cases x with
 |ok a st1=>injection h with h1 h2;exact⟨a,by rw[h2],h1⟩
 |bad e p=>cases h
theorem DY (h:st.Ok s) {k:Ae} (hk:st.t.kind=k) (h1:k≠DJ) (h2:k≠Bu):left s (next s st)<left s st:=
 Wj h (by rw[hk];exact h1) (by rw[hk];exact h2)
theorem Gw {least most n:Int} (h:st.Ok s) (e:number s least most st= .ok n st'):Gm s st st'∧left s st'<left s st∧(st'.wrong=none→least≤n∧n≤most):=by
 unfold number at e
 obtain⟨t,st1,e1,e2⟩:=AA e
 obtain⟨hk,rfl,rfl⟩:=Bw e1
 injection e2 with e2 e3
 subst e2
 have h1:=BF h
 have hl:=DY h hk (by decide) (by decide)
 split at e3
 ·subst e3
  have f:=Gm.note h1 Kn st.t.pos
  exact⟨(Gm.next h).trans f,Z9 f.left hl,fun hw=>absurd hw (Ft _ _ _)⟩
 ·subst e3
  exact⟨Gm.next h,hl,fun _=>by omega⟩
theorem Lb (name:Ae):∀(l:List Bf) (k:Nat),C7 name l k= -1∨∃(i:Nat) (d:Bf),l[i]?=some d∧d.name=name∧C7 name l k=((k+i:Nat):Int)
 | [],k=>.inl rfl
 |d::l,k=>by
  by_cases h:d.name=name
  ·exact .inr ⟨0,d,rfl,h,by rw[C7,Ak h];rfl⟩
  ·rcases Lb name l (k+1)with h1|⟨i,d',h1,h3,h2⟩
   ·exact .inl (by rw[C7,Ad h,h1])
   ·exact .inr ⟨i+1,d',by simpa using h1,h3,by rw[C7,Ad h,h2];congr 1;omega⟩
def DQ (l:List Bf) (v:Bool) (k:Int):Prop:=Ix l.length k∧((Au l k).kind==2)=v
theorem Eo {v:Bool} {k:Int} (h:st.Ok s) (e:name s v st= .ok k st'):Gm s st st'∧left s st'<left s st∧(st'.wrong=none→DQ st.decls v k):=by
 unfold name at e
 obtain⟨t,st1,e1,e2⟩:=AA e
 obtain⟨hk,rfl,rfl⟩:=Bw e1
 injection e2 with e2 e3
 have h1:=BF h
 have hl:=DY h hk (by decide) (by decide)
 have hd:(next s st).decls=st.decls:=rfl
 unfold Ch at e3
 rw[hd]at e2 e3
 split at e3
 ·subst e3
  have f:=Gm.note h1 WA st.t.pos
  exact⟨(Gm.next h).trans f,Z9 f.left hl,fun hw=>absurd hw (Ft _ _ _)⟩
 ·split at e3
  ·subst e3
   have f:=Gm.note h1 SI st.t.pos
   exact⟨(Gm.next h).trans f,Z9 f.left hl,fun hw=>absurd hw (Ft _ _ _)⟩
  ·rename_i h0 h2
   subst e3
   refine⟨Gm.next h,hl,fun _=>⟨?_,?_⟩⟩
   ·rcases Lb st.t.text st.decls 0 with hf|⟨i,d,hi,_,hf⟩
    ·exact absurd (show find st.decls st.t.text<0 by unfold find;omega) h0
    ·have:=(Ap.1 hi).1
     rw[←e2]
     unfold find Ix
     rw[hf]
     omega
   ·rw[←e2]
    simpa using h2
def VK (l:List Bf):O0→Prop
 | .num n=>0≤n∧n≤999
 | .var n=>DQ l true n
 | .len n=>DQ l false n
 | .freq=>True
def XQ (l:List Bf):CK→Prop
 | .full n=>DQ l false n
 | .empty n=>DQ l false n
 | .warm n=>DQ l false n
 | .less a b=>VK l a∧VK l b
def WG (l:List Bf):D9→Prop
 | .put q _=>DQ l false q
 | .evict q=>DQ l false q
 | .cool q=>DQ l false q
 | .shift q p _=>DQ l false q∧DQ l false p
 | .inc v=>DQ l true v
 | .dec v=>DQ l true v
 |_=>True
def EG (l:List Bf):AC→Prop
 | .nil=>True
 | .prim p r=>WG l p∧EG l r
 | .ite c t o e r=>XQ l c.k∧EG l t∧EG l e∧EG l r
 | .rep n c b r=>XQ l c.k∧EG l b∧EG l r∧1≤n∧n≤50
def AC.Form:AC→Prop
 | .nil=>True
 | .prim _ r=>r.Form
 | .ite _ t o e r=>t.Form∧e.Form∧r.Form∧(o=false→e= .nil)
 | .rep _ _ b r=>b.Form∧r.Form
def AC.deep:AC→Nat
 | .nil=>0
 | .prim _ r=>r.deep
 | .ite _ t o e r=>max (1+t.deep) (max (if o then 1+e.deep else 0) r.deep)
 | .rep _ _ b r=>max (1+b.deep) r.deep
def AC.nest:AC→Nat
 | .nil=>0
 | .prim _ r=>r.nest
 | .ite _ t _ e r=>max t.nest (max e.nest r.nest)
 | .rep _ _ b r=>max (1+b.nest) r.nest
def AC.size:AC→Nat
 | .nil=>0
 | .prim _ r=>1+r.size
 | .ite _ t _ e r=>1+t.size+e.size+r.size
 | .rep _ _ b r=>1+b.size+r.size
theorem Pn {l:List Bf}:∀(b r:AC),EG l (b.app r)↔EG l b∧EG l r
 | .nil,r=>by simp[AC.app,EG]
 | .prim p x,r=>by simp[AC.app,EG,Pn x r,and_assoc]
 | .ite c t o e x,r=>by simp[AC.app,EG,Pn x r,and_assoc]
 | .rep n c b x,r=>by
  simp only[AC.app,EG,Pn x r]
  constructor
  ·rintro⟨a,b,⟨c,d⟩,e⟩;exact⟨⟨a,b,c,e⟩,d⟩
  ·rintro⟨⟨a,b,c,e⟩,d⟩;exact⟨a,b,⟨c,d⟩,e⟩
theorem Rb:∀(b r:AC),b.Form→r.Form→(b.app r).Form
 | .nil,r,_,h=>h
 | .prim p x,r,a,h=>Rb x r a h
 | .ite c t o e x,r,⟨a1,a2,a3,a4⟩,h=>⟨a1,a2,Rb x r a3 h,a4⟩
 | .rep n c b x,r,⟨a1,a2⟩,h=>⟨a1,Rb x r a2 h⟩
theorem Ra:∀(b r:AC),(b.app r).deep=max b.deep r.deep
 | .nil,r=>by simp[AC.app,AC.deep]
 | .prim p x,r=>by simp[AC.app,AC.deep,Ra x r]
 | .ite c t o e x,r=>by simp only[AC.app,AC.deep,Ra x r];omega
 | .rep n c b x,r=>by simp only[AC.app,AC.deep,Ra x r];omega
theorem QZ:∀(b r:AC),(b.app r).nest=max b.nest r.nest
 | .nil,r=>by simp[AC.app,AC.nest]
 | .prim p x,r=>by simp[AC.app,AC.nest,QZ x r]
 | .ite c t o e x,r=>by simp only[AC.app,AC.nest,QZ x r];omega
 | .rep n c b x,r=>by simp only[AC.app,AC.nest,QZ x r];omega
theorem Jd:∀(b r:AC),(b.app r).size=b.size+r.size
 | .nil,r=>by simp[AC.app,AC.size]
 | .prim p x,r=>by simp only[AC.app,AC.size,Jd x r];omega
 | .ite c t o e x,r=>by simp only[AC.app,AC.size,Jd x r];omega
 | .rep n c b x,r=>by simp only[AC.app,AC.size,Jd x r];omega
theorem DQ.ix {l:List Bf} {v:Bool} {k:Int} (h:DQ l v k):Ix l.length k:=h.1
theorem EG.ok {l:List Bf}:∀(b:AC),EG l b→b.Form→ME l b
 | .nil,_,_=>trivial
 | .prim p r,⟨a,b⟩,h=>by
  refine⟨?_,EG.ok r b h⟩
  have q2:∀{k:Int},DQ l false k→(Au l k).kind≠2:=fun h e=>by have:=h.2;rw[e]at this;exact absurd this (by decide)
  cases p
  case shift=>exact⟨a.1.ix,a.2.ix,q2 a.2⟩
  case put=>exact⟨DQ.ix a,q2 a⟩
  case drop=>trivial
  case bump=>trivial
  all_goals exact DQ.ix a
 | .ite c t o e r,⟨a,b,d,f⟩,⟨h1,h2,h3,h4⟩=>by
  refine⟨?_,EG.ok t b h1,EG.ok e d h2,EG.ok r f h3,h4⟩
  cases hc:c.k with
  |less x y=>
   rw[hc]at a
   obtain⟨a1,a2⟩:=a
   constructor
   ·cases x<;>first|trivial|exact DQ.ix a1
   ·cases y<;>first|trivial|exact DQ.ix a2
  |full n=>rw[hc]at a;exact DQ.ix a
  |empty n=>rw[hc]at a;exact DQ.ix a
  |warm n=>rw[hc]at a;exact DQ.ix a
 | .rep n c b r,⟨a,d,f,g,_⟩,⟨h1,h2⟩=>by
  refine⟨?_,EG.ok b d h1,EG.ok r f h2,by omega⟩
  cases hc:c.k with
  |less x y=>
   rw[hc]at a
   obtain⟨a1,a2⟩:=a
   constructor
   ·cases x<;>first|trivial|exact DQ.ix a1
   ·cases y<;>first|trivial|exact DQ.ix a2
  |full n=>rw[hc]at a;exact DQ.ix a
  |empty n=>rw[hc]at a;exact DQ.ix a
  |warm n=>rw[hc]at a;exact DQ.ix a
theorem PZ {v:O0} (h:st.Ok s) (e:value s st= .ok v st'):Gm s st st'∧left s st'<left s st∧(st'.wrong=none→VK st.decls v):=by
 unfold value at e
 split at e
 ·obtain⟨a,e1,rfl⟩:=MS e
  exact Gw h e1
 ·split at e
  ·rename_i hk
   obtain⟨a,e1,rfl⟩:=MS e
   obtain⟨f,l,w⟩:=Eo (BF h) e1
   exact⟨(Gm.next h).trans f,Nat.lt_trans l (DY h hk (by decide) (by decide)),w⟩
  ·split at e
   ·rename_i hk
    injection e with e1 e2
    subst e1 e2
    exact⟨Gm.next h,DY h hk (by decide) (by decide),fun _=>trivial⟩
   ·obtain⟨a,e1,rfl⟩:=MS e
    exact Eo h e1
theorem ZO {c:Da} (h:st.Ok s) (e:Eh s st= .ok c st'):Gm s st st'∧left s st'<left s st∧(st'.wrong=none→XQ st.decls c.k):=by
 have one:∀{k:Ae} {f:Int→Da},st.t.kind=k→k≠DJ→k≠Bu→(∀n,DQ st.decls false n→XQ st.decls (f n).k)→(name s false (next s st)).map f= .ok c st'→
   Gm s st st'∧left s st'<left s st∧(st'.wrong=none→XQ st.decls c.k):=by
  intro k f hk h1 h2 hf e
  obtain⟨a,e1,rfl⟩:=MS e
  obtain⟨g,l,w⟩:=Eo (BF h) e1
  exact⟨(Gm.next h).trans g,Nat.lt_trans l (DY h hk h1 h2),fun x=>hf _ (w x)⟩
 unfold Eh at e
 split at e
 ·rename_i hk;exact one (f:=fun n=>⟨.full n,0⟩) hk (by decide) (by decide) (fun _ x=>x) e
 ·split at e
  ·rename_i hk;exact one (f:=fun n=>⟨.empty n,0⟩) hk (by decide) (by decide) (fun _ x=>x) e
  ·split at e
   ·rename_i hk;exact one (f:=fun n=>⟨.warm n,0⟩) hk (by decide) (by decide) (fun _ x=>x) e
   ·obtain⟨a,st1,e1,e2⟩:=AA e
    obtain⟨t,AP,e3,e4⟩:=AA e2
    obtain⟨b,e5,rfl⟩:=MS e4
    obtain⟨f1,l1,w1⟩:=PZ h e1
    obtain⟨_,_,rfl⟩:=Bw e3
    have f2:=Gm.next f1.ok
    obtain⟨f3,l3,w3⟩:=PZ f2.ok e5
    refine⟨(f1.trans f2).trans f3,by have:=f2.left;omega,fun x=>⟨w1 (f2.wrong (f3.wrong x)),?_⟩⟩
    have:=w3 x
    rw[f2.decls,f1.decls]at this
    exact this
theorem I8:∀{n:Nat} {st:PS} {c:Da},st.Ok s→cond s n st= .ok c st'→Gm s st st'∧left s st'<left s st∧(st'.wrong=none→XQ st.decls c.k)
 |0,_,_,_,e=>by cases e
 |n+1,st,c,h,e=>by
  unfold cond at e
  split at e
  ·rename_i hk
   obtain⟨a,e1,rfl⟩:=MS e
   obtain⟨f,l,w⟩:=I8 (BF h) e1
   exact⟨(Gm.next h).trans f,Nat.lt_trans l (DY h hk (by decide) (by decide)),w⟩
  ·exact ZO h e
structure oB (s:Ae) (st st':PS) (b:AC):Prop where
 fwd:Gm s st st'
 w:st'.wrong=none→EG st.decls b
 form:b.Form
 deep:st.depth+b.deep≤8
 nest:st.loops+b.nest≤2
 size:b.size+left s st'≤left s st
theorem lr {st st':PS} {x:D9} (f:Gm s st st') (l:left s st'<left s st) (w:st'.wrong=none→WG st.decls x) (hd:st.depth≤8) (hl:st.loops≤2):oB s st st' (.prim x .nil):=
 ⟨f,fun y=>⟨w y,trivial⟩,trivial,by simp[AC.deep];exact hd,by simp[AC.nest];exact hl,by simp[AC.size];omega⟩
mutual
theorem DP:∀{n:Nat} {st st':PS} {b:AC},st.Ok s→st.depth≤8→st.loops≤2→block s n st= .ok b st'→
  Gm s st st'∧(st'.wrong=none→EG st.decls b)∧b.Form∧st.depth+1+b.deep≤8∧st.loops+b.nest≤2∧b.size+2+left s st'≤left s st
 |0,_,_,_,_,_,_,e=>by unfold block at e;cases e
 |n+1,st,st',b,h,hd,hl,e=>by
  unfold block at e
  split at e
  ·cases e
  ·rename_i h8
   obtain⟨t,st1,e1,e2⟩:=AA e
   obtain⟨b',AP,e3,e4⟩:=AA e2
   obtain⟨hk,_,rfl⟩:=Bw e1
   injection e4 with e4 e5
   subst e4
   have f1:=Gm.next h
   have l1:=DY h hk (by decide) (by decide)
   have sX:st.depth<8:=by
    rcases BP st.depth 8 with x|x
    ·exact x
    ·exact absurd ⟨hk,by omega⟩ h8
   have Mg:({next s st with depth:=(next s st).depth+1}:PS).Ok s:=⟨f1.ok.i,f1.ok.pos,f1.ok.more,f1.ok.num,f1.ok.name⟩
   obtain⟨g,hkc⟩:=Yw Mg (by show st.depth+1≤8;omega) hl e3
   have g2:(AP.depth-1)=st.depth:=by have:=g.fwd.depth;simp at this;rw[this];rfl
   have Va:({AP with depth:=AP.depth-1}:PS).Ok s:=⟨g.fwd.ok.i,g.fwd.ok.pos,g.fwd.ok.more,g.fwd.ok.num,g.fwd.ok.name⟩
   have f3:=Gm.next Va
   have l3:left s (next s {AP with depth:=AP.depth-1})<left s AP:=DY Va hkc (by decide) (by decide)
   have gl:=g.size
   have gl':b'.size+left s AP≤left s (next s st):=gl
   subst e5
   refine⟨⟨f3.ok,by omega,f3.decls.trans g.fwd.decls,f3.freq.trans g.fwd.freq,f3.fseen.trans g.fwd.fseen,f3.rules.trans g.fwd.rules,f3.depth.trans g2,f3.loops.trans g.fwd.loops,fun x=>g.fwd.wrong (f3.wrong x)⟩,
    fun x=>g.w (f3.wrong x),g.form,g.deep,g.nest,by omega⟩
theorem Yw:∀{n:Nat} {st st':PS} {b:AC},st.Ok s→st.depth≤8→st.loops≤2→DH s n st= .ok b st'→oB s st st' b∧st'.t.kind=AU
 |0,_,_,_,_,_,_,e=>by unfold DH at e;cases e
 |n+1,st,st',b,h,hd,hl,e=>by
  unfold DH at e
  split at e
  ·rename_i hk
   injection e with e1 e2
   subst e1 e2
   exact⟨⟨Gm.refl h,fun _=>trivial,trivial,by simp[AC.deep];exact hd,by simp[AC.nest];exact hl,by simp[AC.size]⟩,hk⟩
  ·obtain⟨x,st1,e1,e2⟩:=AA e
   obtain⟨r,e3,rfl⟩:=MS e2
   have g1:=WT h hd hl e1
   obtain⟨g2,hc⟩:=Yw g1.fwd.ok (by rw[g1.fwd.depth];exact hd) (by rw[g1.fwd.loops];exact hl) e3
   refine⟨⟨g1.fwd.trans g2.fwd,fun y=>(Pn _ _).2 ⟨g1.w (g2.fwd.wrong y),by have:=g2.w y;rw[g1.fwd.decls]at this;exact this⟩,Rb _ _ g1.form g2.form,?_,?_,?_⟩,hc⟩
   ·have a:=g1.deep;have b:=g2.deep
    rw[g1.fwd.depth]at b
    rw[Ra];omega
   ·have a:=g1.nest;have b:=g2.nest
    rw[g1.fwd.loops]at b
    rw[QZ];omega
   ·have a:=g1.size;have b:=g2.size
    rw[Jd];omega
theorem WT:∀{n:Nat} {st st':PS} {b:AC},st.Ok s→st.depth≤8→st.loops≤2→stmt s n st= .ok b st'→oB s st st' b
 |0,_,_,_,_,_,_,e=>by unfold stmt at e;cases e
 |n+1,st,st',b,h,hd,hl,e=>by
  have KN:∀{x:D9} {st1:PS},Gm s st st1→left s st1<left s st→(st1.wrong=none→WG st.decls x)→((want s Ar st1).bind fun _ st=>.ok (.prim x .nil) st)=AJ.ok b st'→oB s st st' b:=by
   intro x st1 f l w e
   obtain⟨t,AP,e1,e2⟩:=AA e
   obtain⟨hk,_,rfl⟩:=Bw e1
   injection e2 with e2 e3
   subst e2 e3
   have f2:=Gm.next f.ok
   exact lr (f.trans f2) (by have:=f2.left;omega) (fun y=>w (f2.wrong y)) hd hl
  have tk:∀{k:Ae} {st1:PS},st1.Ok s→Gm s st1 (take s k st1).2:=by
   intro k st1 h1
   unfold take
   split
   ·exact Gm.next h1
   ·exact Gm.refl h1
  have nx:∀{k:Ae},st.t.kind=k→k≠DJ→k≠Bu→Gm s st (next s st)∧left s (next s st)<left s st:=fun hk h1 h2=>⟨Gm.next h,DY h hk h1 h2⟩
  have one:∀{k:Ae} {v:Bool} {x:Int→D9},st.t.kind=k→k≠DJ→k≠Bu→(∀q,DQ st.decls v q→WG st.decls (x q))→
    ((name s v (next s st)).bind fun q st=>(want s Ar st).bind fun _ st=>.ok (.prim (x q) .nil) st)=AJ.ok b st'→oB s st st' b:=by
   intro k v x hk h1 h2 hx e
   obtain⟨f,l⟩:=nx hk h1 h2
   obtain⟨q,st1,e1,e2⟩:=AA e
   obtain⟨f1,l1,w1⟩:=Eo f.ok e1
   exact KN (f.trans f1) (by omega) (fun y=>hx q (w1 y)) e2
  unfold stmt at e
  extract_lets sm at e
  by_cases hk:st.t.kind=Hn
  ·rw[Ak hk]at e
   obtain⟨f,l⟩:=nx hk (by decide) (by decide)
   obtain⟨q,st1,e1,e2⟩:=AA e
   obtain⟨f1,l1,w1⟩:=Eo f.ok e1
   have f2:=tk (k:=BN) f1.ok
   exact KN (x:=.put q (take s BN st1).1) ((f.trans f1).trans f2) (by have:=f2.left;omega) (fun y=>w1 (f2.wrong y)) e2
  rw[Ad hk]at e
  by_cases hk:st.t.kind=Db
  ·rw[Ak hk]at e
   exact one (x:=.evict) hk (by decide) (by decide) (fun _ x=>x) e
  rw[Ad hk]at e
  by_cases hk:st.t.kind=Ew
  ·rw[Ak hk]at e
   exact one (x:=.cool) hk (by decide) (by decide) (fun _ x=>x) e
  rw[Ad hk]at e
  by_cases hk:st.t.kind=CN
  ·rw[Ak hk]at e
   obtain⟨f,l⟩:=nx hk (by decide) (by decide)
   obtain⟨q,st1,e1,e2⟩:=AA e
   obtain⟨f1,l1,w1⟩:=Eo f.ok e1
   obtain⟨q',AP,e3,e4⟩:=AA e2
   obtain⟨f2,l2,w2⟩:=Eo f1.ok e3
   have f3:=tk (k:=BN) f2.ok
   refine KN (x:=.shift q q' (take s BN AP).1) (((f.trans f1).trans f2).trans f3) (by have:=f3.left;omega) (fun y=>⟨w1 (f2.wrong (f3.wrong y)),?_⟩) e4
   have:=w2 (f3.wrong y)
   rw[f1.decls]at this
   exact this
  rw[Ad hk]at e
  by_cases hk:st.t.kind=Ia
  ·rw[Ak hk]at e
   exact one (x:=.inc) hk (by decide) (by decide) (fun _ x=>x) e
  rw[Ad hk]at e
  by_cases hk:st.t.kind=Ib
  ·rw[Ak hk]at e
   exact one (x:=.dec) hk (by decide) (by decide) (fun _ x=>x) e
  rw[Ad hk]at e
  by_cases hk:st.t.kind=EJ
  ·rw[Ak hk]at e
   obtain⟨f,l⟩:=nx hk (by decide) (by decide)
   exact KN (x:=.drop) f l (fun _=>trivial) e
  rw[Ad hk]at e
  by_cases hk:st.t.kind=EK
  ·rw[Ak hk]at e
   obtain⟨f,l⟩:=nx hk (by decide) (by decide)
   exact KN (x:=.bump) f l (fun _=>trivial) e
  rw[Ad hk]at e
  by_cases hk:st.t.kind=Iw
  ·rw[Ak hk]at e
   obtain⟨f,l⟩:=nx hk (by decide) (by decide)
   obtain⟨c,st1,e1,e2⟩:=AA e
   obtain⟨f1,l1,w1⟩:=I8 f.ok e1
   obtain⟨t,AP,e3,e4⟩:=AA e2
   have d1:st1.depth=st.depth:=(f.trans f1).depth
   have p1:st1.loops=st.loops:=(f.trans f1).loops
   obtain⟨f2,w2,m2,dd2,nn2,z2⟩:=DP f1.ok (by omega) (by omega) e3
   split at e4
   ·rename_i A4
    obtain⟨el,Cb,e5,e6⟩:=AA e4
    have f3:=Gm.next f2.ok
    have l3:=DY f2.ok A4 (by decide) (by decide)
    have d2:(next s AP).depth=st.depth:=(f2.trans f3).depth.trans d1
    have p2:(next s AP).loops=st.loops:=(f2.trans f3).loops.trans p1
    obtain⟨f4,w4,m4,dd4,nn4,z4⟩:=DP f3.ok (by omega) (by omega) e5
    injection e6 with e6 e7
    subst e6 e7
    have F:=(((f.trans f1).trans f2).trans f3).trans f4
    refine⟨F,fun y=>?_,⟨m2,m4,trivial,fun x=>by cases x⟩,?_,?_,?_⟩
    ·have y3:=f4.wrong y
     have y2:=f3.wrong y3
     have y1:=f2.wrong y2
     refine⟨w1 y1,?_,?_,trivial⟩
     ·have:=w2 y2;rw[f1.decls]at this;exact this
     ·have:=w4 y;rw[f3.decls,f2.decls,f1.decls]at this;exact this
    ·simp only[AC.deep,A0];omega
    ·simp only[AC.nest];omega
    ·simp only[AC.size];omega
   ·injection e4 with e6 e7
    subst e6 e7
    refine⟨(f.trans f1).trans f2,fun y=>?_,⟨m2,trivial,trivial,fun _=>rfl⟩,?_,?_,?_⟩
    ·have y1:=f2.wrong y
     refine⟨w1 y1,?_,trivial,trivial⟩
     have:=w2 y;rw[f1.decls]at this;exact this
    ·simp only[AC.deep,An,A1];omega
    ·simp only[AC.nest];omega
    ·simp only[AC.size];omega
  rw[Ad hk]at e
  by_cases hk:st.t.kind=Bb
  ·rw[Ak hk]at e
   split at e
   ·cases e
   ·rename_i h2
    obtain⟨f,l⟩:=nx hk (by decide) (by decide)
    obtain⟨k,st1,e1,e2⟩:=AA e
    obtain⟨f1,l1,w1⟩:=Gw f.ok e1
    obtain⟨t,AP,e3,e4⟩:=AA e2
    obtain⟨A4,_,rfl⟩:=Bw e3
    have f2:=Gm.next f1.ok
    obtain⟨c,Cb,e5,e6⟩:=AA e4
    obtain⟨f3,l3,w3⟩:=I8 f2.ok e5
    obtain⟨b',Io,e7,e8⟩:=AA e6
    have F3:=((f.trans f1).trans f2).trans f3
    have W5:({Cb with loops:=Cb.loops+1}:PS).Ok s:=⟨f3.ok.i,f3.ok.pos,f3.ok.more,f3.ok.num,f3.ok.name⟩
    have d3:=F3.depth
    have p3:=F3.loops
    obtain⟨f4,w4,m4,dd4,nn4,z4⟩:=DP W5 (by show Cb.depth≤8;omega) (by show Cb.loops+1≤2;omega) e7
    injection e8 with e8 e9
    subst e8 e9
    have Aot:Cb.depth+1+b'.deep≤8:=dd4
    have Alx:Cb.loops+1+b'.nest≤2:=nn4
    have z4':b'.size+2+left s Io≤left s Cb:=z4
    have z5:left s ({Io with loops:=Io.loops-1}:PS)=left s Io:=rfl
    have Ik:=f2.left
    refine⟨⟨⟨f4.ok.i,f4.ok.pos,f4.ok.more,f4.ok.num,f4.ok.name⟩,by omega,f4.decls.trans F3.decls,f4.freq.trans F3.freq,f4.fseen.trans F3.fseen,f4.rules.trans F3.rules,f4.depth.trans F3.depth,?_,fun y=>F3.wrong (f4.wrong y)⟩,fun y=>?_,⟨m4,trivial⟩,?_,?_,?_⟩
    ·have:=f4.loops
     show Io.loops-1=st.loops
     simp at this
     omega
    ·have y3:=f4.wrong y
     have y2:=f3.wrong y3
     have y1:=f2.wrong y2
     refine⟨?_,?_,trivial,w1 y1⟩
     ·have:=w3 y3;rw[f2.decls,f1.decls]at this;exact this
     ·have:=w4 y
      have Gx:({Cb with loops:=Cb.loops+1}:PS).decls=st.decls:=F3.decls
      rw[Gx]at this;exact this
    ·simp only[AC.deep];omega
    ·simp only[AC.nest];omega
    ·simp only[AC.size];omega
  rw[Ad hk]at e
  cases e
end
end
structure fu (d:Bf):Prop where
 kind:d.kind≤2
 name:aa d.name
 lo:1≤d.max
 hi:d.max≤if d.kind=2 then 99 else 50
structure Fv (l:List Bf):Prop where
 len:l.length≤8
 each:∀d∈l,fu d
 nodup:(l.map (·.name)).Nodup
def ft (seen:Bool) (f:Int):Prop:=if seen then 1≤f∧f≤99 else f=0
structure nO (l:List Bf) (x:Int×AC):Prop where
 key:x.1= -1∨DQ l false x.1
 w:EG l x.2
 form:x.2.Form
 deep:1+x.2.deep≤8
 nest:x.2.nest≤2
structure XH (l:List Bf) (r:List (Int×AC)):Prop where
 each:∀x∈r,nO l x
 nodup:(r.map (·.1)).Nodup
def J4 (r:List (Int×AC)):Nat:=(r.map (fun x=>x.2.size)).sum
structure jo (s:Ae) (st:PS):Prop where
 ok:st.Ok s
 depth:st.depth=0
 loops:st.loops=0
 dl:st.decls.length+left s st≤701
 rl:st.rules.length+left s st≤701
 sz:J4 st.rules+left s st≤701
 w:st.wrong=none→Fv st.decls∧ft st.fseen st.freq∧XH st.decls st.rules
section
variable {s:Ae} {st st':PS}
theorem Ju (e pos:Nat) (st:PS):(note e pos st).decls=st.decls∧(note e pos st).freq=st.freq∧(note e pos st).fseen=st.fseen∧(note e pos st).rules=st.rules∧(note e pos st).depth=st.depth∧(note e pos st).loops=st.loops∧
  left s (note e pos st)=left s st:=by
 unfold note
 cases hw:st.wrong<;>exact⟨rfl,rfl,rfl,rfl,rfl,rfl,rfl⟩
theorem UO (n:Mc) (h:st.Ok s):Gm s st (Ba n st)∧left s (Ba n st)=left s st∧((Ba n st).wrong=none→find st.decls n.text<0∧st.decls.length≠8):=by
 unfold Ba
 have h1:Gm s st (if 0≤find st.decls n.text then note CG n.pos st else st)∧left s (if 0≤find st.decls n.text then note CG n.pos st else st)=left s st∧
   ((if 0≤find st.decls n.text then note CG n.pos st else st).wrong=none→find st.decls n.text<0):=by
  split
  ·exact⟨Gm.note h _ _,(Ju _ _ _).2.2.2.2.2.2,fun x=>absurd x (Ft _ _ _)⟩
  ·exact⟨Gm.refl h,rfl,fun _=>by omega⟩
 simp only
 generalize (if 0≤find st.decls n.text then note CG n.pos st else st)=st1 at*
 obtain⟨a,b,c⟩:=h1
 split
 ·exact⟨a.trans (Gm.note a.ok _ _),(Ju _ _ _).2.2.2.2.2.2.trans b,fun x=>absurd x (Ft _ _ _)⟩
 ·rename_i h8
  exact⟨a,b,fun x=>⟨c x,by rw[←a.decls];exact h8⟩⟩
theorem mT {l:List Bf} {name:Ae} (h:find l name<0):name∉l.map (·.name):=by
 intro hm
 obtain⟨d,hd,rfl⟩:=AT.1 hm
 have:∀(l:List Bf) (k:Nat),d∈l→0≤C7 d.name l k:=by
  intro l
  induction l with
  |nil=>intro k h;cases h
  |cons x l ih=>
   intro k hx
   rw[C7]
   split
   ·omega
   ·rename_i Cu
    rcases Bt.1 hx with rfl|hx
    ·exact absurd rfl Cu
    ·exact ih _ hx
 have:=this l 0 hd
 unfold find at h
 omega
theorem QS (h:jo s st) (hk:isDecl st.t.kind=true) (hr:st.rules=[]) (e:decl s st= .ok () st'):jo s st'∧st'.rules=[]∧left s st'<left s st:=by
 have Cu:st.t.kind≠DJ∧st.t.kind≠Bu:=by
  constructor
  ·intro x;rw[x]at hk;exact absurd hk (by decide)
  ·intro x;rw[x]at hk;exact absurd hk (by decide)
 have f0:=Gm.next h.ok
 have l0:=Wj h.ok Cu.1 Cu.2
 unfold decl at e
 simp only at e
 split at e
 ·obtain⟨n,st1,e1,e2⟩:=AA e
  obtain⟨t,AP,e3,e4⟩:=AA e2
  injection e4 with _ e4
  subst e4
  obtain⟨BY,_,rfl⟩:=Bw e3
  have h1:∃x:PS,x=(if(next s st).fseen=true then note CG st.t.pos (next s st)else next s st)∧Gm s (next s st) x∧(x.wrong=none→(next s st).fseen=false):=by
   refine⟨_,rfl,?_⟩
   split
   ·exact⟨Gm.note f0.ok _ _,fun x=>absurd x (Ft _ _ _)⟩
   ·rename_i hf;exact⟨Gm.refl f0.ok,fun _=>by simpa using hf⟩
  obtain⟨x,hx,f1,w1⟩:=h1
  rw[←hx]at e1
  have Va:({x with fseen:=true}:PS).Ok s:=⟨f1.ok.i,f1.ok.pos,f1.ok.more,f1.ok.num,f1.ok.name⟩
  obtain⟨f2,l2,w2⟩:=Gw Va e1
  have W5:({st1 with freq:=n}:PS).Ok s:=⟨f2.ok.i,f2.ok.pos,f2.ok.more,f2.ok.num,f2.ok.name⟩
  have f3:=Gm.next W5
  have l1:=f1.left
  have l2':left s st1<left s x:=l2
  have l3:left s (next s {st1 with freq:=n})≤left s st1:=f3.left
  have d1:(next s {st1 with freq:=n}).decls=st.decls:=f3.decls.trans (f2.decls.trans (f1.decls.trans f0.decls))
  have r1:(next s {st1 with freq:=n}).rules=st.rules:=f3.rules.trans (f2.rules.trans (f1.rules.trans f0.rules))
  refine⟨⟨f3.ok,f3.depth.trans (f2.depth.trans (f1.depth.trans (f0.depth.trans h.depth))),f3.loops.trans (f2.loops.trans (f1.loops.trans (f0.loops.trans h.loops))),?_,?_,?_,?_⟩,r1.trans hr,by omega⟩
  ·rw[d1];have:=h.dl;omega
  ·rw[r1];have:=h.rl;omega
  ·rw[r1];have:=h.sz;omega
  ·intro hw
   have y3:=f3.wrong hw
   have y2:=f2.wrong y3
   obtain⟨a,b,c⟩:=h.w (f0.wrong (f1.wrong y2))
   refine⟨by rw[d1];exact a,?_,by rw[d1,r1];exact c⟩
   have fs:(next s {st1 with freq:=n}).fseen=true:=f3.fseen.trans f2.fseen
   have fq:(next s {st1 with freq:=n}).freq=n:=f3.freq
   rw[fs,fq]
   exact w2 y3
 ·obtain⟨n,st1,e1,e2⟩:=AA e
  obtain⟨m,AP,e3,e4⟩:=AA e2
  obtain⟨t,Cb,e5,e6⟩:=AA e4
  injection e6 with _ e6
  subst e6
  obtain⟨Bi,rfl,rfl⟩:=Bw e1
  obtain⟨He,_,rfl⟩:=Bw e5
  have f1:=Gm.next f0.ok
  obtain⟨f2,l2,w2⟩:=UO (next s st).t f1.ok
  obtain⟨f3,l3,w3⟩:=Gw f2.ok e3
  have f4:=Gm.next f3.ok
  have F:=(((f0.trans f1).trans f2).trans f3).trans f4
  have hle:=F.left
  have l1:=f1.left
  have l4:=f4.left
  have okF:({next s AP with decls:=(next s AP).decls++[⟨D2 st.t.kind,(next s st).t.text,m⟩]}:PS).Ok s:=⟨f4.ok.i,f4.ok.pos,f4.ok.more,f4.ok.num,f4.ok.name⟩
  have lF:left s ({next s AP with decls:=(next s AP).decls++[⟨D2 st.t.kind,(next s st).t.text,m⟩]}:PS)=left s (next s AP):=rfl
  have d1:(next s AP).decls=st.decls:=F.decls
  have r1:(next s AP).rules=st.rules:=F.rules
  refine⟨⟨okF,F.depth.trans h.depth,F.loops.trans h.loops,?_,?_,?_,?_⟩,r1.trans hr,by rw[lF];omega⟩
  ·rw[lF];show((next s AP).decls++[_]).length+_≤701
   rw[d1];have:=h.dl;simp;omega
  ·rw[lF];show(next s AP).rules.length+_≤701
   rw[r1];have:=h.rl;omega
  ·rw[lF];show J4 (next s AP).rules+_≤701
   rw[r1];have:=h.sz;omega
  ·intro hw
   have y4:(next s AP).wrong=none:=hw
   have y3:=f4.wrong y4
   have y2:=f3.wrong y3
   obtain⟨a,b,c⟩:=h.w (f0.wrong (f1.wrong (f2.wrong y2)))
   obtain⟨n1,n2⟩:=w2 y2
   have Fp:(next s (next s st)).decls=st.decls:=f1.decls.trans f0.decls
   rw[Fp]at n1 n2
   refine⟨?_,?_,?_⟩
   ·show Fv ((next s AP).decls++[_])
    rw[d1]
    refine⟨by have:=a.len;simp;omega,?_,?_⟩
    ·intro d hd
     rcases CI.1 hd with hd|hd
     ·exact a.each d hd
     ·simp at hd
      subst hd
      refine⟨?_,f0.ok.name Bi,(w3 y3).1,?_⟩
      ·unfold D2;simp only;split<;>(try split)<;>omega
      ·have:=(w3 y3).2
       unfold BZ at this
       unfold D2
       simp only
       split at this
       ·rename_i hv;rw[Ak hv];simpa using this
       ·rename_i hv;rw[Ad hv]
        split<;>simpa using this
    ·rw[CJ,B5]
     refine⟨a.nodup,by simp,fun x hx y hy=>?_⟩
     simp at hy
     subst hy
     rintro rfl
     exact mT n1 hx
   ·show ft (next s AP).fseen (next s AP).freq
    rw[F.fseen,F.freq];exact b
   ·show XH ((next s AP).decls++[_]) (next s AP).rules
    rw[r1,hr]
    exact⟨fun x hx=>(by cases hx),(by simp)⟩
theorem UM:∀(n:Nat) {st st':PS},jo s st→st.rules=[]→Cw s n st= .ok () st'→jo s st'∧st'.rules=[]
 |0,_,_,_,_,e=>by cases e
 |n+1,st,st',h,hr,e=>by
  unfold Cw at e
  split at e
  ·rename_i hk
   obtain⟨u,st1,e1,e2⟩:=AA e
   obtain⟨a,b,_⟩:=QS h hk hr e1
   exact UM n a b e2
  ·injection e with _ e
   subst e
   exact⟨h,hr⟩
theorem YH {r:List (Int×AC)} {k:Int} (h:(AE r k).isSome=false):k∉r.map (·.1):=by
 intro hm
 obtain⟨x,hx,rfl⟩:=AT.1 hm
 unfold AE at h
 rw[Option.isSome_map,Option.isSome_eq_false_iff,Option.isNone_iff_eq_none,In]at h
 exact h x hx (by simp)
theorem Gb {k:Int} (h:st.Ok s) (hk:st.t.kind=Mv) (e:Cv s st= .ok k st'):
  Gm s st st'∧left s st'<left s st∧(st'.wrong=none→(k= -1∨DQ st.decls false k)∧k∉st.rules.map (·.1)):=by
 have f0:=Gm.next h
 have l0:=DY h hk (by decide) (by decide)
 unfold Cv at e
 simp only at e
 obtain⟨k',st1,e1,e2⟩:=AA e
 injection e2 with e2 e3
 subst e2
 have h1:Gm s (next s st) st1∧(st1.wrong=none→k'= -1∨DQ st.decls false k'):=by
  split at e1
  ·injection e1 with e1 e4
   subst e1 e4
   exact⟨Gm.next f0.ok,fun _=>.inl rfl⟩
  ·obtain⟨a,b,c⟩:=Eo f0.ok e1
   exact⟨a,fun x=>.inr (c x)⟩
 obtain⟨f1,w1⟩:=h1
 have hl:=f1.left
 have IJ:st1.rules=st.rules:=f1.rules.trans f0.rules
 split at e3
 ·subst e3
  have f2:=Gm.note f1.ok Jp st.t.pos
  exact⟨(f0.trans f1).trans f2,by have:=f2.left;omega,fun x=>absurd x (Ft _ _ _)⟩
 ·rename_i hc
  subst e3
  refine⟨f0.trans f1,by omega,fun x=>⟨w1 x,YH ?_⟩⟩
  rw[x,IJ]at hc
  simpa using hc
theorem Qd {n:Nat} (h:jo s st) (hk:st.t.kind=Mv) (e:Gc s n st= .ok () st'):jo s st'∧left s st'<left s st∧st'.decls=st.decls:=by
 unfold Gc at e
 obtain⟨k,st1,e1,e2⟩:=AA e
 obtain⟨b,AP,e3,e4⟩:=AA e2
 injection e4 with _ e4
 obtain⟨f1,l1,w1⟩:=Gb h.ok hk e1
 obtain⟨f2,w2,m2,dd2,nn2,z2⟩:=DP f1.ok (by rw[f1.depth,h.depth];omega) (by rw[f1.loops,h.loops];omega) e3
 rw[f1.depth,h.depth]at dd2
 rw[f1.loops,h.loops]at nn2
 have F:=f1.trans f2
 split at e4
 ·rename_i hw
  have bO:AP.wrong=none:=by simpa using hw
  subst e4
  have lF:left s ({AP with rules:=AP.rules++[(k,b)]}:PS)=left s AP:=rfl
  refine⟨⟨⟨F.ok.i,F.ok.pos,F.ok.more,F.ok.num,F.ok.name⟩,F.depth.trans h.depth,F.loops.trans h.loops,?_,?_,?_,?_⟩,by omega,F.decls⟩
  ·rw[lF];show AP.decls.length+_≤701
   rw[F.decls];have:=h.dl;omega
  ·rw[lF];show(AP.rules++[(k,b)]).length+_≤701
   rw[F.rules];have:=h.rl;simp;omega
  ·rw[lF];show J4 (AP.rules++[(k,b)])+_≤701
   rw[F.rules];have:=h.sz;unfold J4 at*;simp;omega
  ·intro _
   obtain⟨a,b',c⟩:=h.w (F.wrong bO)
   obtain⟨x1,x2⟩:=w1 (f2.wrong bO)
   refine⟨by rw[show({AP with rules:=AP.rules++[(k,b)]}:PS).decls=st.decls from F.decls];exact a,?_,?_⟩
   ·show ft AP.fseen AP.freq
    rw[F.fseen,F.freq];exact b'
   ·show XH AP.decls (AP.rules++[(k,b)])
    rw[F.decls,F.rules]
    refine⟨fun x hx=>?_,?_⟩
    ·rcases CI.1 hx with hx|hx
     ·exact c.each x hx
     ·simp at hx
      subst hx
      exact⟨x1,by have:=w2 bO;rw[f1.decls]at this;exact this,m2,by show 1+b.deep≤8;omega,by show b.nest≤2;omega⟩
    ·rw[CJ,B5]
     refine⟨c.nodup,by simp,fun x hx y hy=>?_⟩
     simp at hy
     subst hy
     rintro rfl
     exact x2 hx
 ·rename_i hw
  subst e4
  refine⟨⟨F.ok,F.depth.trans h.depth,F.loops.trans h.loops,by rw[F.decls];have:=h.dl;omega,by rw[F.rules];have:=h.rl;omega,by rw[F.rules];have:=h.sz;omega,fun x=>by simp[x]at hw⟩,by omega,F.decls⟩
theorem TX {m:Nat}:∀(n:Nat) {st st':PS},jo s st→CR s m n st= .ok () st'→jo s st'
 |0,_,_,_,e=>by cases e
 |n+1,st,st',h,e=>by
  unfold CR at e
  split at e
  ·rename_i hk
   obtain⟨u,st1,e1,e2⟩:=AA e
   exact TX n (Qd h hk e1).1 e2
  ·injection e with _ e
   subst e
   exact h
theorem Rw (s:Ae) (h:s.length≤700):jo s (start s):=by
 have hl:left s (start s)≤701:=by unfold left;omega
 refine⟨Yx s,rfl,rfl,by simpa[start]using hl,by simpa[start]using hl,by simpa[start,J4]using hl,fun _=>⟨⟨by simp[start],fun d hd=>(by cases hd),by simp[start]⟩,rfl,⟨fun x hx=>(by cases hx),by simp[start]⟩⟩⟩
structure EO (p:AF):Prop where
 decls:Fv p.decls
 freq:0≤p.freq∧p.freq≤99
 rules:XH p.decls p.rules
 miss:(Cm p.rules).isSome
 size:J4 p.rules≤700
 rl:p.rules.length≤700
theorem bp {p:AF} (h:read s= .ok p):EO p:=by
 unfold read at h
 split at h
 ·cases h
 ·rename_i mN
  split at h
  ·cases h
  ·rename_i t st e
   split at h
   ·cases h
   ·rename_i hw
    split at h
    ·cases h
    ·rename_i hm
     injection h with h
     subst h
     unfold EA at e
     obtain⟨u,st1,e1,e2⟩:=AA e
     obtain⟨u2,AP,e3,e4⟩:=AA e2
     obtain⟨a,b⟩:=UM 702 (Rw s (by omega)) rfl e1
     have c:=TX 702 a e3
     obtain⟨_,_,rfl⟩:=Bw e4
     have f:=Gm.next c.ok
     obtain⟨x,y,z⟩:=c.w (f.wrong hw)
     have hp:=NU c.ok
     refine⟨x,?_,z,by simpa[Option.isSome_iff_ne_none]using hm,?_,?_⟩
     ·show 0≤AP.freq∧AP.freq≤99
      unfold ft at y
      split at y<;>omega
     ·have:=c.sz;show J4 AP.rules≤700;omega
     ·have:=c.rl;show AP.rules.length≤700;omega
end
def Pw (d:Ae):Ae×Ae×Ae:=
 match d.dropWhile blank with
 | []=>(DJ,[],[])
 |c::r=>
  if low c then
   let w:=(c::r).takeWhile low
   if 8<w.length then(Bu,[],c::r)
   else(if AQ.contains w then w else BG,w,(c::r).dropWhile low)
  else if E6 c then
   let w:=(c::r).takeWhile E6
   if 3<w.length then(Bu,[],c::r)else(Bc,w,(c::r).dropWhile E6)
  else if FJ c then([c],[c],r)
  else(Bu,[],c::r)
theorem UL (p:UInt8→Bool) (d:Ae):d.drop (d.takeWhile p).length=d.dropWhile p:=by
 induction d with
 |nil=>rfl
 |cons c r ih=>
  by_cases hp:p c
  ·simp[hp,ih]
  ·simp[hp]
theorem RM (p:UInt8→Bool) (s:Ae) (i:Nat):s.drop (skip p s i)=(s.drop i).dropWhile p:=by
 unfold skip
 rw[←List.drop_drop,UL]
theorem Za (s:Ae) (i:Nat):(D6 s i).1.kind=(Pw (s.drop i)).1∧(D6 s i).1.text=(Pw (s.drop i)).2.1∧s.drop (D6 s i).2=(Pw (s.drop i)).2.2:=by
 have hd:=RM blank s i
 unfold Pw
 cases hc:s[skip blank s i]? with
 |none=>
  have e:D6 s i=(⟨DJ,[],skip blank s i⟩,skip blank s i):=by unfold D6;simp only[hc]
  have h0:s.drop (skip blank s i)=[]:=by rw[List.drop_eq_nil_iff];simpa using hc
  rw[h0]at hd
  rw[e,←hd]
  exact⟨rfl,rfl,h0⟩
 |some c=>
  obtain⟨hi,hc'⟩:=Ap.1 hc
  have h0:s.drop (skip blank s i)=c::s.drop (skip blank s i+1):=by rw[Gt hi,hc']
  rw[←hd,h0]
  have pl:=KS low s (skip blank s i)
  have pf:=KS E6 s (skip blank s i)
  have dl:=RM low s (skip blank s i)
  have df:=RM E6 s (skip blank s i)
  have sl:skip low s (skip blank s i)-skip blank s i=((s.drop (skip blank s i)).takeWhile low).length:=by unfold skip;omega
  have sf:skip E6 s (skip blank s i)-skip blank s i=((s.drop (skip blank s i)).takeWhile E6).length:=by unfold skip;omega
  rw[h0]at pl pf dl df sl sf
  dsimp only
  cases hl:low c with
  |true=>
   simp only[A0]
   by_cases h8:8<skip low s (skip blank s i)-skip blank s i
   ·have e:D6 s i=(⟨Bu,[],skip blank s i⟩,skip blank s i):=by unfold D6;simp only[hc,hl,A0,h8]
    rw[e,←sl,Ak h8]
    exact⟨rfl,rfl,h0⟩
   ·have e:D6 s i=(⟨if AQ.contains (CT s (skip blank s i) (skip low s (skip blank s i)))then CT s (skip blank s i) (skip low s (skip blank s i))else BG,CT s (skip blank s i) (skip low s (skip blank s i)),skip blank s i⟩,skip low s (skip blank s i)):=by
     unfold D6;simp only[hc,hl,A0,h8,A1]
    rw[e,←sl,Ad h8,pl]
    exact⟨rfl,rfl,dl⟩
  |false=>
   simp only[An,A1]
   cases hf:E6 c with
   |true=>
    simp only[A0]
    by_cases h8:3<skip E6 s (skip blank s i)-skip blank s i
    ·have e:D6 s i=(⟨Bu,[],skip blank s i⟩,skip blank s i):=by unfold D6;simp only[hc,hl,hf,A0,h8,An,A1]
     rw[e,←sf,Ak h8]
     exact⟨rfl,rfl,h0⟩
    ·have e:D6 s i=(⟨Bc,CT s (skip blank s i) (skip E6 s (skip blank s i)),skip blank s i⟩,skip E6 s (skip blank s i)):=by
      unfold D6;simp only[hc,hl,hf,A0,h8,A1,An]
     rw[e,←sf,Ad h8,pf]
     exact⟨rfl,rfl,df⟩
   |false=>
    simp only[An,A1]
    cases hp:FJ c with
    |true=>
     have e:D6 s i=(⟨[c],[c],skip blank s i⟩,skip blank s i+1):=by unfold D6;simp only[hc,hl,hf,hp,A0,An,A1]
     rw[e]
     simp
    |false=>
     have e:D6 s i=(⟨Bu,[],skip blank s i⟩,skip blank s i):=by unfold D6;simp only[hc,hl,hf,hp,An,A1]
     rw[e]
     simp[h0]
def Cs:Ae→List (Ae×Ae)→Ae→Prop
 |d,[],d'=>d=d'
 |d,t::ts,d'=>(Pw d).1=t.1∧(Pw d).2.1=t.2∧Cs (Pw d).2.2 ts d'
theorem Cs.app:∀{a b:List (Ae×Ae)} {d1 d2 d3:Ae},Cs d1 a d2→Cs d2 b d3→Cs d1 (a++b) d3
 | [],_,_,_,_,h,k=>by rw[show _=_ from h];exact k
 |t::a,_,_,_,_,⟨x,y,z⟩,k=>⟨x,y,Cs.app z k⟩
theorem bH {c:UInt8} (hc:blank c=true) (d:Ae):Pw (c::d)=Pw d:=by
 unfold Pw
 rw[List.dropWhile_cons_of_pos hc]
theorem Cs.blank {c:UInt8} (hc:blank c=true):∀{ts:List (Ae×Ae)} {d d':Ae},ts≠ []→Cs d ts d'→Cs (c::d) ts d'
 | [],_,_,h,_=>absurd rfl h
 |t::ts,d,d',_,⟨x,y,z⟩=>by
  have e:=bH hc d
  exact⟨by rw[e];exact x,by rw[e];exact y,by rw[e];exact z⟩
def WH (d:Ae):Prop:=∀c,d.head?=some c→low c=false
def nX (d:Ae):Prop:=∀c,d.head?=some c→E6 c=false
theorem O8 {p:UInt8→Bool} {w d:Ae} (hw:∀c∈w,p c=true) (hd:∀c,d.head?=some c→p c=false):(w++d).takeWhile p=w∧(w++d).dropWhile p=d:=by
 induction w with
 |nil=>
  cases d with
  |nil=>exact⟨rfl,rfl⟩
  |cons c d=>simp[hd c rfl]
 |cons c w ih=>
  have:=ih (fun x hx=>hw x (by simp[hx]))
  simp[hw c (by simp),this.1,this.2]
theorem uL {c:UInt8} (h:low c=true):blank c=false:=by
 unfold low at h
 unfold blank
 simp only[C3,Dc,CC]at h
 rw[VX,Bv,Bv]
 exact⟨by rintro rfl;simp at h,by rintro rfl;simp at h⟩
theorem mX {c:UInt8} (h:E6 c=true):blank c=false∧low c=false:=by
 unfold E6 at h
 simp only[C3,Dc,CC]at h
 constructor
 ·unfold blank
  rw[VX,Bv,Bv]
  exact⟨by rintro rfl;simp at h,by rintro rfl;simp at h⟩
 ·unfold low
  rw[U7]
  left
  simp only[RN,CC]
  simp at h ⊢
  omega
theorem Cs.word {w d:Ae} (h1:w≠ []) (h8:w.length≤8) (hw:∀c∈w,low c=true) (hd:WH d):Cs (w++d) [(if AQ.contains w then w else BG,w)] d:=by
 obtain⟨c,w',rfl⟩:∃c w',w=c::w':=by
  cases w with
  |nil=>exact absurd rfl h1
  |cons c w'=>exact⟨c,w',rfl⟩
 obtain⟨t1,t2⟩:=O8 (p:=low) hw hd
 have hc:=hw c (by simp)
 have e:Pw ((c::w')++d)=(if AQ.contains (c::w')then c::w' else BG,c::w',d):=by
  unfold Pw
  rw[A8,rD (by rw[uL hc];simp)]
  dsimp only
  rw[Ak hc]
  rw[A8]at t1 t2
  rw[t1,t2,Ad (by omega)]
 refine⟨by rw[e],by rw[e],?_⟩
 rw[e];rfl
theorem Cs.num {w d:Ae} (h1:w≠ []) (h3:w.length≤3) (hw:∀c∈w,E6 c=true) (hd:nX d):Cs (w++d) [(Bc,w)] d:=by
 obtain⟨c,w',rfl⟩:∃c w',w=c::w':=by
  cases w with
  |nil=>exact absurd rfl h1
  |cons c w'=>exact⟨c,w',rfl⟩
 obtain⟨t1,t2⟩:=O8 (p:=E6) hw hd
 have hc:=hw c (by simp)
 have e:Pw ((c::w')++d)=(Bc,c::w',d):=by
  unfold Pw
  rw[A8,rD (by rw[(mX hc).1];simp)]
  dsimp only
  rw[(mX hc).2]
  simp only[An,A1]
  rw[Ak hc]
  rw[A8]at t1 t2
  rw[t1,t2,Ad (by omega)]
 refine⟨by rw[e],by rw[e],?_⟩
 rw[e];rfl
theorem Cs.sign {c:UInt8} (h:FJ c=true) (d:Ae):Cs (c::d) [([c],[c])] d:=by
 have e:Pw (c::d)=([c],[c],d):=by
  unfold FJ at h
  simp only[Tw,OY]at h
  rcases h with((rfl|rfl)|rfl)|rfl<;>rfl
 refine⟨by rw[e],by rw[e],?_⟩
 rw[e];rfl
theorem L8 {n:Nat} (h:n<10):EN n=[UInt8.ofNat (48+n)]:=by rw[EN,Ak h]
theorem Ob {n:Nat} (h:¬n<10):EN n=EN (n/10)++[UInt8.ofNat (48+n%10)]:=by rw[EN,Ad h]
theorem Kw {n:Nat} (h:n<10):E6 (UInt8.ofNat (48+n))=true∧(UInt8.ofNat (48+n)).toNat=48+n:=by
 have e:(UInt8.ofNat (48+n)).toNat=48+n:=by simp;omega
 refine⟨?_,e⟩
 unfold E6
 simp only[C3,Dc,CC,e]
 exact⟨by simp,by simp;omega⟩
theorem Xv:∀(k n:Nat),n<10^(k+1)→EN n≠ []∧(EN n).length≤k+1∧(∀c∈EN n,E6 c=true)∧atoi (EN n)=n:=by
 intro k
 induction k with
 |zero=>
  intro n h
  have h':n<10:=by simpa using h
  rw[L8 h']
  refine⟨by simp,by simp,fun c hc=>?_,?_⟩
  ·simp only[D3]at hc;subst hc;exact(Kw h').1
  ·unfold atoi
   simp only[Tu,rC,(Kw h').2]
   omega
 |succ k ih=>
  intro n h
  by_cases SZ:n<10
  ·rw[L8 SZ]
   refine⟨by simp,by simp,fun c hc=>?_,?_⟩
   ·simp only[D3]at hc;subst hc;exact(Kw SZ).1
   ·unfold atoi
    simp only[Tu,rC,(Kw SZ).2]
    omega
  ·have h1:n/10<10^(k+1):=by
    rw[Nat.div_lt_iff_lt_mul (by omega)]
    have e:10^(k+1+1)=10^(k+1)*10:=Nat.pow_succ _ _
    omega
   obtain⟨a,b,c,d⟩:=ih (n/10) h1
   have hm:n%10<10:=Nat.mod_lt _ (by omega)
   rw[Ob SZ]
   refine⟨by simp,by simp;omega,fun x hx=>?_,?_⟩
   ·rcases CI.1 hx with hx|hx
    ·exact c x hx
    ·simp only[D3]at hx;subst hx;exact(Kw hm).1
   ·unfold atoi at d ⊢
    rw[List.foldl_append,d]
    simp only[Tu,rC,(Kw hm).2]
    omega
theorem EM {n:Int} (h0:0≤n) (h:n≤999):Ca n≠ []∧(Ca n).length≤3∧(∀c∈Ca n,E6 c=true)∧atoi (Ca n)=n:=by
 obtain⟨a,b,c,d⟩:=Xv 2 n.toNat (by omega)
 exact⟨a,b,c,by unfold Ca;rw[d];omega⟩
def Ct (s:Ae) (st:PS) (ts:List (Ae×Ae)) (d:Ae):Prop:=
 match ts with
 | []=>True
 |t::ts=>st.t.kind=t.1∧st.t.text=t.2∧Cs (s.drop st.i) ts d
theorem Ct.next {s:Ae} {st:PS} {t t2:Ae×Ae} {ts:List (Ae×Ae)} {d:Ae} (h:Ct s st (t::t2::ts) d):Ct s (next s st) (t2::ts) d:=by
 obtain⟨_,_,x,y,z⟩:=h
 obtain⟨a,b,c⟩:=Za s st.i
 exact⟨a.trans x,b.trans y,by show Cs (s.drop (D6 s st.i).2) ts d;rw[c];exact z⟩
theorem Ct.start {s:Ae} {t:Ae×Ae} {ts:List (Ae×Ae)} {d:Ae} (h:Cs s (t::ts) d):Ct s (start s) (t::ts) d:=by
 obtain⟨x,y,z⟩:=h
 obtain⟨a,b,c⟩:=Za s 0
 rw[AK]at a b c
 exact⟨a.trans x,b.trans y,by show Cs (s.drop (D6 s 0).2) ts d;rw[c];exact z⟩
end Go.Proofs.YtemppijblfflgaaGreatDoor.Ev
