/- Lemmas for a law's walk. Conditions: none. -/
import Derived.Test.YtodkkholbjeioaaGreatDoorZu09
set_option linter.all false
set_option maxRecDepth 100000
set_option maxHeartbeats 8000000
namespace Go.Proofs.YtodkkholbjeioaaGreatDoor.Ev
open _root_.Go.Proofs.Tryz
abbrev KQ:Ah:=[110,117,109]
def GU (k:Ah):Ah:=if k=Bw then KQ else k
def final (t:M9):Bool:=t.kind==Ek||t.kind==Bx
def Iz (s:Ah):Nat->Nat->List M9
 |0,_=>[]
 |n+1,i=>if final (E9 s i).1 then [(E9 s i).1]else(E9 s i).1::Iz s n (E9 s i).2
def ji (s:Ah):List M9:=Iz s (s.length+1) 0
theorem ry {t:M9}(h:final t=false):t.kind≠Ek/\t.kind≠Bx:=by unfold final at h;simp only[Bool.or_eq_false_iff,BJ,ne_eq]at h;exact h
def PG (s:Ah) (k:Nat) (st:PS):Prop:=
 ∃n i,(ji s).drop k=Iz s (n+1) i/\st.t=(E9 s i).1/\st.i=(E9 s i).2/\i<=s.length/\s.length<i+(n+1)
theorem PG.get {s:Ah}{k:Nat}{st:PS}(h:PG s k st):(ji s)[k]?=some st.t:=by
 obtain⟨n,i,a,b,_⟩:=h;have e:((ji s).drop k)[0]?=some st.t:=by rw[a,Iz,b];split<;>rfl
 rw[Lz]at e;simpa using e
theorem PG.lt {s:Ah}{k:Nat}{st:PS}(h:PG s k st):k<(ji s).length:=(Aj.1 h.get).1
theorem PG.next {s:Ah}{k:Nat}{st:PS}(h:PG s k st) (g:st.t.kind≠Ek) (j:st.t.kind≠Bx):PG s (k+1) (next s st):=by
 obtain⟨n,i,e1,e,f,l,p⟩:=h;have m:final (E9 s i).1=false:=by rw[←e];unfold final;simp[g,j]
 obtain⟨a,b,c,d⟩:=J8 s i l;rw[←e,←f]at d;have:=d g j;rw[←e]at a;rw[←f]at c;rw[Iz,m]at e1;simp only[Ap,A8]at e1;have o:(ji s).drop (k+1)=Iz s n (E9 s i).2:=by rw[←List.drop_drop,e1];rfl
 cases n with
 |zero=>omega
 |succ n=>
  refine⟨n,st.i,by rw[o,f],rfl,rfl,c,?_⟩;omega
theorem PG.start (s:Ah):PG s 0 (start s):=⟨s.length,0,rfl,rfl,rfl,AM _,by omega⟩
theorem PG.of {s:Ah}{k:Nat}{st st':PS}(h:PG s k st) (a:st'.t=st.t) (b:st'.i=st.i):PG s k st':=by obtain⟨n,i,e1,c,d,e,f⟩:=h;exact⟨n,i,e1,a.trans c,b.trans d,e,f⟩
theorem RB (s:Ah):∀(n i:Nat),(Iz s n i).length<=n
 |0,_=>Ab _
 |n+1,i=>by
  rw[Iz];split
  ·simp
  ·have:=RB s n (E9 s i).2;simp;omega
theorem oN (s:Ah):(ji s).length<=s.length+1:=RB s _ _
structure CN where
 is:Ah
 bZ:Ah
 pos:Nat
def CN.Of (x:CN) (t:M9):Prop:=x.is=GU t.kind/\x.pos=t.pos/\(t.kind≠Bx->x.bZ=t.text)
def RN (s:Ah) (a:Nat):CN×Nat:=
 let i:=skip blank s a
 match s[i]? with
 |none=>(⟨Ek,[],i⟩,i)
 |some c=>
  if low c then
   (if 8<skip low s i-i then⟨Bx,Dm s i (skip low s i),i⟩else⟨if A3.contains (Dm s i (skip low s i))then Dm s i (skip low s i)else Ch,Dm s i (skip low s i),i⟩,skip low s i)
  else if Gq c then
   (if 3<skip Gq s i-i then⟨Bx,Dm s i (skip Gq s i),i⟩else⟨KQ,Dm s i (skip Gq s i),i⟩,skip Gq s i)
  else if Im c then(⟨[c],[c],i⟩,i+1)
  else(⟨Bx,[],i⟩,i)
theorem aR:Ek=GU Ek:=by decide
theorem VE:Bx=GU Bx:=by decide
theorem zW5:Ch=GU Ch:=by decide
theorem aQ:KQ=GU Bw:=by decide
theorem aN (s:Ah) (i:Nat):(RN s i).1.Of (E9 s i).1/\(final (E9 s i).1=false->(RN s i).2=(E9 s i).2):=by
 unfold RN E9 CN.Of;simp only;cases d:s[skip blank s i]? with
 |none=>(refine⟨⟨?_,?_,?_⟩,?_⟩<;>first|trivial|exact λ_=>trivial|exact aR|exact VE|exact aQ|exact λ_=>rfl|exact λh=>absurd rfl h|(intro h;simp[final]at h))
 |some c=>
  simp only;cases f:low c with
  |true=>
   simp only[A7];by_cases a:8<skip low s (skip blank s i)-skip blank s i
   ·simp only[Al a]
    (refine⟨⟨?_,?_,?_⟩,?_⟩<;>first|trivial|exact λ_=>trivial|exact aR|exact VE|exact aQ|exact λ_=>rfl|exact λh=>absurd rfl h|(intro h;simp[final]at h))
   ·simp only[Ai a];refine⟨⟨?_,by trivial,by first|exact λ_=>trivial|exact λ_=>rfl|trivial⟩,by first|exact λ_=>trivial|exact λ_=>rfl|trivial⟩;split
    ·rename_i b;unfold GU;rw[Ai];intro e;rw[e]at b;exact absurd (CP.1 b) T8
    ·exact zW5
  |false=>
   simp only[Ap,A8];cases g:Gq c with
   |true=>
    simp only[A7];by_cases a:3<skip Gq s (skip blank s i)-skip blank s i
    ·simp only[Al a]
     (refine⟨⟨?_,?_,?_⟩,?_⟩<;>first|trivial|exact λ_=>trivial|exact aR|exact VE|exact aQ|exact λ_=>rfl|exact λh=>absurd rfl h|(intro h;simp[final]at h))
    ·simp only[Ai a]
     (refine⟨⟨?_,?_,?_⟩,?_⟩<;>first|trivial|exact λ_=>trivial|exact aR|exact VE|exact aQ|exact λ_=>rfl|exact λh=>absurd rfl h|(intro h;simp[final]at h))
   |false=>
    simp only[Ap,A8];cases j:Im c with
    |true=>
     simp only[A7];refine⟨⟨?_,by trivial,by first|exact λ_=>trivial|exact λ_=>rfl|trivial⟩,by first|exact λ_=>trivial|exact λ_=>rfl|trivial⟩;unfold GU;rw[Ai];intro e;have:=AH List.length e;simp at this
    |false=>
     simp only[Ap,A8]
     (refine⟨⟨?_,?_,?_⟩,?_⟩<;>first|trivial|exact λ_=>trivial|exact aR|exact VE|exact aQ|exact λ_=>rfl|exact λh=>absurd rfl h|(intro h;simp[final]at h))
def Eb:List CN->List M9->Prop
 | [],[]=>True
 |x::l,t::m=>x.Of t/\Eb l m
 |_,_=>False
theorem Eb.len:∀{l:List CN}{m:List M9},Eb l m->l.length=m.length
 | [],[],_=>rfl
 |_::_,_::_,h=>by simp[Eb.len h.2]
 | [],_::_,h=>h.elim
 |_::_,[],h=>h.elim
theorem Eb.get:∀{l:List CN}{m:List M9}{k:Nat}{t:M9},Eb l m->m[k]?=some t->∃x,l[k]?=some x/\x.Of t
 |_::_,_::_,0,_,h,e=>by
  simp only[AJ,Co]at e;exact⟨_,rfl,e▸h.1⟩
 |_::l,_::m,k+1,_,h,e=>Eb.get (l:=l) (m:=m) (k:=k) h.2 e
 | [],[],_,_,_,e=>by simp at e
 | [],_::_,_,_,h,_=>h.elim
 |_::_,[],_,_,h,_=>h.elim
structure Fh where
 k:Nat
 deep:Int
 loops:Int
 bad:Nat
 fT:Nat
 bJ:Nat
 mG:Nat
 decls:List Bi
 bI:Int
 fE:Int
def su (x:Option (Nat×Nat)) (r:Fh):Prop:=
 match x with
 |none=>r.bJ=0
 |some y=>r.bJ=y.1/\r.mG=y.2/\y.1≠0
structure AG (s:Ah) (r:Fh) (st:PS):Prop where
 pos:PG s r.k st
 ok:st.Ok s
 deep:r.deep=st.depth
 loops:r.loops=st.loops
 bad:r.bad=0
 bJ:su st.bJ r
 decls:r.decls=st.decls
 bI:r.bI=st.bI
 seen:st.bX=decide (0<r.fE)
 f0:0<=r.fE
 fk:r.fE<=r.k
structure DM (s:Ah) (r:Fh) (e pos:Nat):Prop where
 lt:r.k<(ji s).length
 bad:r.bad=e
 fT:r.fT=pos
 ne:e≠0
 fk:0<=r.fE/\r.fE<=r.k
def Bp {α:Type} (s:Ah) (r:Fh):AQ α->Prop
 | .ok _ st=>AG s r st
 | .bad e pos=>DM s r e pos
def AQ.cj {α:Type} (o:AQ α) (k:Ah):Bool:=
 match o with
 | .ok _ st=>st.t.kind==k
 | .bad _ _=>false
theorem AQ.iw {α:Type}{o:AQ α}{k:Ah}(h:o.cj k=true):∃a st,o= .ok a st/\st.t.kind=k:=by
 cases o with
 |ok a st=>exact⟨a,st,rfl,by simpa[AQ.cj]using h⟩
 |bad e p=>cases h
section
variable {α β:Type}{s:Ah}{r:Fh}{o:AQ α}{st:PS}
theorem Bp.lt (h:Bp s r o):r.k<(ji s).length:=by
 cases o with
 |ok a st=>exact AG.pos h|>.lt
 |bad e p=>exact DM.lt h
theorem AG.next (h:AG s r st) (a:st.t.kind≠Ek) (b:st.t.kind≠Bx):AG s {r with k:=r.k+1} (next s st):=
 ⟨h.pos.next a b,Ce h.ok,h.deep,h.loops,h.bad,h.bJ,h.decls,h.bI,h.seen,h.f0,by have:=h.fk;show r.fE<=((r.k+1:Nat):Int);omega⟩
theorem AG.note {e pos:Nat}(h:AG s r st) (c:e≠0):AG s (if r.bJ=0 then {r with bJ:=e,mG:=pos}else r) (note e pos st):=by
 have a:=h.bJ;cases b:st.bJ with
 |none=>
  rw[b]at a;rw[Al (show r.bJ=0 from a)];have e1:Ev.note e pos st={st with bJ:=some (e,pos)}:=by unfold Ev.note;rw[b]
  rw[e1];exact⟨h.pos.of rfl rfl,⟨h.ok.i,h.ok.pos,h.ok.more,h.ok.num,h.ok.name⟩,h.deep,h.loops,h.bad,⟨rfl,rfl,c⟩,h.decls,h.bI,h.seen,h.f0,h.fk⟩
 |some y=>
  rw[b]at a;have e1:Ev.note e pos st=st:=by unfold Ev.note;rw[b]
  have d:¬r.bJ=0:=by rw[a.1];exact a.2.2
  rw[Ai d,e1];exact h
theorem AG.fail {e:Nat}(h:AG s r st) (a:e≠0):DM s {r with bad:=e,fT:=st.t.pos} e st.t.pos:=
 ⟨h.pos.lt,rfl,rfl,a,h.f0,h.fk⟩
end
theorem pV {k:Ah}(h:k∈A3):k≠KQ:=by intro e;rw[e]at h;exact absurd h (by decide)
theorem lA (s:Ah) (i:Nat):(E9 s i).1.kind≠KQ:=by
 have n1:Bx≠KQ:=by decide
 have a:Ch≠KQ:=by decide
 have n3:Bw≠KQ:=by decide
 have b:Ek≠KQ:=by decide
 unfold E9;simp only;cases f:s[skip blank s i]? with
 |none=>exact b
 |some c=>
  simp only;split
  ·split
   ·exact n1
   ·show(if A3.contains _=true then _ else _)≠KQ;split
    ·rename_i d;exact pV (CP.1 d)
    ·exact a
  ·split
   ·split
    ·exact n1
    ·exact n3
   ·split
    ·intro e;have:=AH List.length e;simp at this
    ·exact n1
theorem PG.ot {s:Ah}{k:Nat}{st:PS}(h:PG s k st):st.t.kind≠KQ:=by obtain⟨n,i,_,a,_⟩:=h;rw[a];exact lA s i
theorem ba {a b:Ah}(f:a≠KQ) (g:b≠KQ):(GU a==GU b)=(a==b):=by
 unfold GU;by_cases d:a=Bw
 ·by_cases c:b=Bw
  ·rw[d,c];rfl
  ·have e:(a==b)=false:=by rw[BJ];intro e;exact c (e▸d)
   rw[Al d,Ai c,e,BJ];intro e;exact g e.symm
 ·by_cases c:b=Bw
  ·have e:(a==b)=false:=by rw[BJ];intro e;exact d (e.trans c)
   rw[Ai d,Al c,e,BJ];exact f
  ·rw[Ai d,Ai c]
theorem AG.tok {s:Ah}{r:Fh}{st:PS}(h:AG s r st) {ts:List CN}(a:Eb ts (ji s)):∃x,ts[r.k]?=some x/\x.Of st.t:=a.get h.pos.get
theorem Bp.tok {α:Type}{s:Ah}{r:Fh}{o:AQ α}(h:Bp s r o) {ts:List CN}(a:Eb ts (ji s)):∃x,ts[r.k]?=some x:=by have:=h.lt;rw[←a.len]at this;exact⟨_,Ae this⟩
theorem vP {α:Type}{s:Ah}{k:Nat}{a:α}{st:PS}{x:CN}(b:PG s k st) (c:x.Of st.t) {kd:Ah}(d:kd≠KQ):(x.is==GU kd)=(AQ.ok a st).cj kd:=by rw[c.1,ba b.ot d];rfl
end Go.Proofs.YtodkkholbjeioaaGreatDoor.Ev
namespace Go.Proofs.YtodkkholbjeioaaGreatDoor.Ev
open _root_.Go.Proofs.Tryz
open Go Go.RowKit
abbrev kS:Ah:=[110,117,109]
def DU:Ra->Ah
 | .num _=>kS
 | .var _=>Jy
 | .len _=>JU
 | .bI=>Cy
def Fq (v:Ra):List Value:=[vs (DU v),.int .i64 (C6 v)]
def BX:CK->Ah
 | .full _=>Fb
 | .empty _=>DN
 | .fC _=>Fa
 | .less _ _=>EY
def IQ:CK->List Value
 | .less a b=>Fq a++Fq b
 |_=>[vs [],.int .i64 0,vs [],.int .i64 0]
def Di (c:C5):List Value:=[vs (BX c.k),.int .i64 (Bt c.k)]++IQ c.k++[.int .i64 c.bP]
def Dw:List Value:=[vs [],.int .i64 0,vs [],.int .i64 0,vs [],.int .i64 0,.int .i64 0]
def BZ (p:D4):List Value:=[vs (CR p),.int .i64 (Hc p),.int .i64 (He p),.bool (C3 p)]++Dw++[A6,A6,.bool false]
def JE (c:C5) (a:Value) (o:Bool) (ve:Value):List Value:=[vs Jk,.int .i64 0,.int .i64 0,.bool false]++Di c++[a,ve,.bool o]
def Ie (n:Int) (c:C5) (a:Value):List Value:=[vs Bf,.int .i64 n,.int .i64 0,.bool false]++Di c++[a,A6,.bool false]
theorem aZ (c:CK):(IQ c).length=4:=by cases c<;>rfl
theorem SF (c:C5):(Di c).length=7:=by simp[Di,aZ]
theorem Zo (p:D4):(BZ p).length=14:=rfl
theorem fX (c:C5) (a:Value) (o:Bool) (ve:Value):(JE c a o ve).length=14:=by simp[JE,SF]
theorem cL (n:Int) (c:C5) (a:Value):(Ie n c a).length=14:=by simp[Ie,SF]
abbrev m9 (N:Nat->Prop) (w:World) (v:Value) (n:Nat) (cs:List Value):Prop:=Sl N w 155 14 v n cs
def AN (N:Nat->Prop) (w:World):Az->List Value->Prop
 | .nil,cs=>cs=[]
 | .bN p r,cs=>∃rest,cs=BZ p++rest/\AN N w r rest
 | .ite c t o e r,cs=>∃a ve rest,cs=JE c a o ve++rest/\(∃d,m9 N w a t.length d/\AN N w t d)/\
   (if o then∃f,m9 N w ve e.length f/\AN N w e f else ve=A6/\e= .nil)/\AN N w r rest
 | .rep n c b r,cs=>∃a rest,cs=Ie n c a++rest/\(∃d,m9 N w a b.length d/\AN N w b d)/\AN N w r rest
def Ct (N:Nat->Prop) (w:World) (v:Value) (b:Az):Prop:=∃cs,m9 N w v b.length cs/\AN N w b cs
section
variable {N N':Nat->Prop}{w w':World}
theorem m9.iE {v:Value}{n:Nat}{cs:List Value}(h:m9 N w v n cs) (f:∀k cs,N k->AF w k 155 cs->w'.heap[k]?=w.heap[k]?):m9 N w' v n cs:=by
 obtain⟨⟨i,b⟩,d⟩:=h;refine⟨⟨i,?_⟩,d⟩;rcases b with b|⟨g,c,a,rfl,j,e,l⟩
 ·exact .inl b
 ·exact .inr ⟨g,c,a,rfl,j,(f g a.toList (d g rfl) (by unfold AF;simpa using e)).trans e,l⟩
theorem m9.dd {v:Value}{n:Nat}{cs:List Value}(h:m9 N w v n cs) (b:∀k,k<w.heap.size->N k->N' k):m9 N' w v n cs:=
 ⟨h.1,λg a=>b g (h.lt a) (h.2 g a)⟩
theorem AN.kept (a:∀k cs,N k->AF w k 155 cs->w'.heap[k]?=w.heap[k]?):∀(b:Az) (cs:List Value),AN N w b cs->AN N w' b cs
 | .nil,_,h=>h
 | .bN p r,cs,⟨rest,d,f⟩=>⟨rest,d,AN.kept a r rest f⟩
 | .ite c t o e r,cs,⟨i,ve,rest,d,⟨g,f,j⟩,m,l⟩=>⟨i,ve,rest,d,⟨g,f.iE a,AN.kept a t g j⟩,by
   cases o with
   |false=>exact m
   |true=>
    obtain⟨q,s,u⟩:=m;exact⟨q,s.iE a,AN.kept a e q u⟩,AN.kept a r rest l⟩
 | .rep n c b r,cs,⟨i,rest,d,⟨g,f,j⟩,l⟩=>⟨i,rest,d,⟨g,f.iE a,AN.kept a b g j⟩,AN.kept a r rest l⟩
theorem AN.mono (a:∀k,k<w.heap.size->N k->N' k):∀(b:Az) (cs:List Value),AN N w b cs->AN N' w b cs
 | .nil,_,h=>h
 | .bN p r,cs,⟨rest,d,f⟩=>⟨rest,d,AN.mono a r rest f⟩
 | .ite c t o e r,cs,⟨i,ve,rest,d,⟨g,f,j⟩,m,l⟩=>⟨i,ve,rest,d,⟨g,f.dd a,AN.mono a t g j⟩,by
   cases o with
   |false=>exact m
   |true=>
    obtain⟨q,s,u⟩:=m;exact⟨q,s.dd a,AN.mono a e q u⟩,AN.mono a r rest l⟩
 | .rep n c b r,cs,⟨i,rest,d,⟨g,f,j⟩,l⟩=>⟨i,rest,d,⟨g,f.dd a,AN.mono a b g j⟩,AN.mono a r rest l⟩
theorem AN.len:∀(b:Az) (cs:List Value),AN N w b cs->cs.length=b.length*14
 | .nil,_,h=>by rw[show _=[]from h];rfl
 | .bN p r,cs,⟨rest,a,f⟩=>by rw[a,Ao,Zo,AN.len r rest f];simp[Az.length,GR,FH]
 | .ite c t o e r,cs,⟨g,ve,rest,a,_,_,d⟩=>by rw[a,Ao,fX,AN.len r rest d];simp[Az.length,GR,FH]
 | .rep n c b r,cs,⟨g,rest,a,_,d⟩=>by rw[a,Ao,cL,AN.len r rest d];simp[Az.length,GR,FH]
theorem AN.app:∀(b:Az) (cs:List Value) (r:Az) (a:List Value),AN N w b cs->AN N w r a->AN N w (b.app r) (cs++a)
 | .nil,_,r,a,h,d=>by rw[show _=[]from h];exact d
 | .bN p x,cs,r,a,⟨rest,f,g⟩,d=>⟨rest++a,by rw[f,AL],AN.app x rest r a g d⟩
 | .ite c t o e x,cs,r,a,⟨i,ve,rest,f,g,k,j⟩,d=>⟨i,ve,rest++a,by rw[f,AL],g,k,AN.app x rest r a j d⟩
 | .rep n c b x,cs,r,a,⟨i,rest,f,g,j⟩,d=>⟨i,rest++a,by rw[f,AL],g,AN.app x rest r a j d⟩
theorem Ct.kept {v:Value}{b:Az}(h:Ct N w v b) (a:∀k cs,N k->AF w k 155 cs->w'.heap[k]?=w.heap[k]?):Ct N w' v b:=by obtain⟨cs,c,d⟩:=h;exact⟨cs,c.iE a,AN.kept a b cs d⟩
theorem Ct.mono {v:Value}{b:Az}(h:Ct N w v b) (a:∀k,k<w.heap.size->N k->N' k):Ct N' w v b:=by obtain⟨cs,c,d⟩:=h;exact⟨cs,c.dd a,AN.mono a b cs d⟩
end
def Lp (x:CN):List Value:=[vs x.is,vs x.bZ,.int .i64 x.pos]
def B6 (k:Nat):Ah:=if k=2 then Jy else if k=1 then Gg else EO
def FN (d:Bi):List Value:=[vs (B6 d.kind),vs d.name,.int .i64 d.max]
def PL (tl:Value) (gp:Nat) (r:Fh):List Value:=
 [tl,.int .i64 r.k,.int .i64 r.deep,.int .i64 r.loops,.int .i64 r.bad,.int .i64 r.fT,.int .i64 r.bJ,.int .i64 r.mG,.pointer (some ⟨gp,0,none⟩),.int .i64 r.fE]
structure Gl (w:World) (g gp:Nat) (tl:Value) (ts:List CN) (pc:List Value) (r:Fh):Prop where
 row:AF w g 136 (PL tl gp r)
 ji:∃N,Sl N w 138 3 tl ts.length (ts.flatMap Lp)
 tl:ts.length<=1000
 bQ:AF w gp 85 pc
 decls:∃N vd,pc[0]?=some vd/\Sl N w 87 3 vd r.decls.length (r.decls.flatMap FN)
 dl:r.decls.length<=1000
section
variable {w w':World}{g gp:Nat}{tl:Value}{ts:List CN}{pc:List Value}{r r':Fh}
theorem Gl.dS (h:Gl w g gp tl ts pc r) (c:Kg g w w') (k:AF w' g 136 (PL tl gp r')) (d:r'.decls=r.decls):Gl w' g gp tl ts pc r':=by
 have f:∀{t:TypeId} {size n:Nat} {v:Value} {xs:List Value},t≠136->(∃N,Sl N w t size v n xs)->∃N,Sl N w' t size v n xs:=by rintro t size n v xs l ⟨N,a⟩;exact⟨N,a.kept c (λb i m=>m.elim (λe=>a.bK h.row l (e▸i)) (λj=>by have:=a.lt i;omega))⟩
 refine⟨k,f (by decide) h.ji,h.tl,(In c h.bQ.lt (h.bQ.cZ h.row (by decide))).trans h.bQ,?_,by rw[d];exact h.dl⟩;obtain⟨N,p,q,j⟩:=h.decls;obtain⟨N',u⟩:=f (by decide) ⟨N,j⟩;rw[d];exact⟨N',p,q,u⟩
theorem Gl.kg (h:Gl w g gp tl ts pc r) (a:Kg g w w') (b:w'.heap[g]?=w.heap[g]?):Gl w' g gp tl ts pc r:=h.dS a (b.trans h.row) rfl
theorem Gl.drewN (h:Gl w g gp tl ts pc r) (n:Nat):Gl (w.drewN n) g gp tl ts pc r:=h.kg (zAr.drewN n) rfl
theorem Gl.alloc (h:Gl w g gp tl ts pc r) (o:Obj):Gl (w.alloc o) g gp tl ts pc r:=h.kg (zAr.alloc (.inr (Ab _)) o) (FU w o g h.row.lt)
theorem Gl.dK (h:Gl w g gp tl ts pc r) {n:Nat}{t:TypeId}{cs:List Value}(a:AF w n t cs) (c:t≠136/\t≠85/\t≠87) (d:tl.ownBlock≠some n) (i:Nat) (u:Value):
  Gl (w.setCell ⟨n,i,none⟩ u) g gp tl ts pc r:=by
 have j:Ac (λb=>b=n) w (w.setCell ⟨n,i,none⟩ u):=Ac.one w ⟨n,i,none⟩ u;obtain⟨N,l⟩:=h.ji;obtain⟨N',m,p,k⟩:=h.decls;exact⟨h.row.dK (h.row.cZ a (λe=>c.1 e.symm)) u,⟨N,l.kept j (λb f e=>d (e▸f))⟩,h.tl,h.bQ.dK (h.bQ.cZ a (λe=>c.2.1 e.symm)) u,⟨N',m,p,k.kept j (λb f e=>k.bK a (λe'=>c.2.2 e'.symm) (e▸f))⟩,h.dl⟩
theorem Gl.cells (h:Gl w g gp tl ts pc r):w.cell? ⟨g,0,none⟩=some tl/\w.cell? ⟨g,1,none⟩=some (.int .i64 r.k)/\w.cell? ⟨g,2,none⟩=some (.int .i64 r.deep)/\w.cell? ⟨g,3,none⟩=some (.int .i64 r.loops)/\w.cell? ⟨g,4,none⟩=some (.int .i64 r.bad)/\
  w.cell? ⟨g,5,none⟩=some (.int .i64 r.fT)/\w.cell? ⟨g,6,none⟩=some (.int .i64 r.bJ)/\w.cell? ⟨g,7,none⟩=some (.int .i64 r.mG)/\w.cell? ⟨g,8,none⟩=some (.pointer (some ⟨gp,0,none⟩))/\w.cell? ⟨g,9,none⟩=some (.int .i64 r.fE):=
 ⟨h.row.cell 0,h.row.cell 1,h.row.cell 2,h.row.cell 3,h.row.cell 4,h.row.cell 5,h.row.cell 6,h.row.cell 7,h.row.cell 8,h.row.cell 9⟩
theorem Gl.at_ (h:Gl w g gp tl ts pc r) {k:Nat}{x:CN}(d:ts[k]?=some x):∃a b,tl= .slice (some ⟨a,0,none⟩) ts.length b/\ts.length<=b/\b<=maxLen/\k<ts.length/\a≠g/\a<w.heap.size/\
  w.cell? ⟨a,k*3,none⟩=some (vs x.is)/\w.cell? ⟨a,k*3+1,none⟩=some (vs x.bZ)/\w.cell? ⟨a,k*3+2,none⟩=some (.int .i64 x.pos):=by
 obtain⟨N,c⟩:=h.ji;have f:=(Aj.1 d).1;obtain⟨a,b,rfl,_,i,l,m⟩:=c.form (by omega);refine⟨a,b,rfl,i,l,f,λe=>c.bK h.row (by decide) (e▸rfl),m,c.at_ (λ_=>rfl) d (j:=0) (by omega),c.at_ (λ_=>rfl) d (j:=1) (by omega),c.at_ (λ_=>rfl) d (j:=2) (by omega)⟩
end
def Aiz (w:World) (b:Bool) (e:Ending) (w':World):Prop:=e= .returned (.bool b)/\∃n,w'=w.drewN n
section
variable {w:World}{g gp:Nat}{tl:Value}{ts:List CN}{pc:List Value}{r:Fh}{s:Ah}{α:Type}{o:AQ α}
theorem Kn (h:Gl w g gp tl ts pc r) (b:Bp s r o) (j:Eb ts (ji s)) {kd kr:Ah}(n:kd≠KQ) (c:GU kd=kr):Calls prog 53 #[.pointer (some ⟨g,0,none⟩),vs kr] w (Aiz w (o.cj kd)):=by
 obtain⟨u,v,_,_,c4,_⟩:=h.cells;cases o with
 |bad e pos=>
  have d:r.bad≠0:=by rw[DM.bad b];exact DM.ne b
  have e1:((r.bad:Int)==0)=false:=by simpa using d
  have y:decide ((r.bad:Int)=0)=false:=by simpa using d
  have l:(AQ.bad e pos:AQ α).cj kd=false:=rfl;rw[l];clear b h l d c;go_enter func53,ntmps53;go_wp2;go_quiet (fail);go_wp2;go_ret;exact⟨rfl,_,rfl⟩
 |ok a st=>
  obtain⟨x,m,f⟩:=AG.tok b j;obtain⟨z,A,rfl,B,p,q,C,D,E,_⟩:=h.at_ m;have i:=vP (a:=a) (AG.pos b) f n;rw[c]at i;have d:(r.bad:Int)=0:=by rw[AG.bad b];rfl
  rw[d]at c4;rw[←i];unfold maxLen at p;have t:r.k<ts.length:=q;generalize r.k=k at*;generalize ts.length=L at*;clear b h d m f i c j;unfold vs at*;go_enter func53,ntmps53;go_wp2;go_quiet (fail);go_wp2;go_ret;exact⟨rfl,nq,rfl⟩
def sI {β:Type} (w:World) (g gp:Nat) (tl:Value) (ts:List CN) (pc:List Value) (s:Ah) (a:List Bi) (v:Value) (o:AQ β) (e:Ending) (w':World):Prop:=
 e= .returned v/\Kg g w w'/\∃r',Gl w' g gp tl ts pc r'/\Bp s r' o/\r'.decls=a
def AQ.ma {α:Type} (o:AQ α) (e:Nat):AQ α:=o.bind λ_ st=>fail e st
theorem Np (h:Gl w g gp tl ts pc r) (b:Bp s r o) (q:Eb ts (ji s)) {e:Nat}(y:e≠0):Calls prog 89 #[.pointer (some ⟨g,0,none⟩),.int .i64 e] w (sI w g gp tl ts pc s r.decls (.tuple #[]) (o.ma e)):=by
 obtain⟨E,F,_,_,c4,c5,_⟩:=h.cells;have G:=λj=>h.row.frozen j;cases o with
 |bad k pos=>
  have d:r.bad≠0:=by rw[DM.bad b];exact DM.ne b
  have e1:((r.bad:Int)==0)=false:=by simpa using d
  have H:decide ((r.bad:Int)=0)=false:=by simpa using d
  obtain⟨m,n⟩:=zq2 h b;clear b h d;go_enter func89,ntmps89;go_wp2;go_end0;exact⟨rfl,Ac.refl _ _,r,m.out,n.out,rfl⟩
 |ok a st=>
  obtain⟨x,u,f⟩:=AG.tok b q;obtain⟨I,J,rfl,K,z,A,M,N,_,_,B⟩:=h.at_ u;have d:(r.bad:Int)=0:=by rw[AG.bad b];rfl
  rw[d]at c4;unfold maxLen at z;have C:r.k<ts.length:=A;have c:x.pos=st.t.pos:=f.2.1;rw[c]at B;obtain⟨m,n⟩:=zq2 h b;generalize i:r.k=k at*;generalize v:ts.length=L at*;obtain⟨D,O⟩:=zq2 i v;clear b h d u f q i v c;go_enter func89,ntmps89;go_wp2
  (refine Du 14 (by kernel_rfl) (by kernel_rfl) ?_;simp only[Au,AI,Av,AK];repeat still_step);refine BT ?_
  go_wp2;go_end0;have l:Kg g w (((w.setCell ⟨g,4,none⟩ (.int .i64 e)).setCell ⟨g,5,none⟩ (.int .i64 st.t.pos)).drewN 1):=(((Ac.refl _ w).setCell (p:=⟨g,4,none⟩) (.inl rfl) _).setCell (p:=⟨g,5,none⟩) (.inl rfl) _).drewN 1;refine⟨rfl,l,{r with bad:=e,fT:=st.t.pos},m.out.dS l ?_ rfl,n.out.fail y,rfl⟩;have:=(m.out.row.bM 4 (.int .i64 e)).bM 5 (.int .i64 st.t.pos);exact this
def D1 {α:Type} (s kd:Ah) (o:AQ α):AQ Unit:=o.bind λ_ st=>.ok () (take s kd st).2
theorem Gz {s kd:Ah}{o:AQ α}(h:o.cj kd=true):∃a st,o= .ok a st/\st.t.kind=kd/\D1 s kd o= .ok () (next s st):=by obtain⟨a,st,rfl,b⟩:=AQ.iw h;refine⟨a,st,rfl,b,?_⟩;show AQ.ok () (take s kd st).2=_;unfold take;rw[Al b]
theorem Gs {s kd:Ah}{o:AQ α}(h:o.cj kd=false):D1 s kd o=o.bind λ_ st=>.ok () st:=by
 cases o with
 |bad e p=>rfl
 |ok a st=>
  have b:¬st.t.kind=kd:=by simpa[AQ.cj]using h
  show AQ.ok () (take s kd st).2= .ok () st;unfold take;rw[Ai b]
theorem Bp.unit {s:Ah}{r:Fh}{o:AQ α}(h:Bp s r o):Bp s r (o.bind λ_ st=>.ok () st):=by
 cases o with
 |bad e p=>exact h
 |ok a st=>exact h
theorem FL (h:Gl w g gp tl ts pc r) (i:Bp s r o) (v:Eb ts (ji s)) {kd kr:Ah}(D:kd≠KQ) (d:GU kd=kr) (x:kd≠Ek) (y:kd≠Bx):
  Calls prog 86 #[.pointer (some ⟨g,0,none⟩),vs kr] w (sI w g gp tl ts pc s r.decls (.bool (o.cj kd)) (D1 s kd o)):=by
 have b:=Kn h i v D d;obtain⟨E,F,_⟩:=h.cells;have G:=λj=>h.row.frozen j;have H:=h.tl;have m:=i.lt;rw[←v.len]at m;obtain⟨z,I⟩:=zq2 h i;cases l:o.cj kd with
 |true=>
  obtain⟨a,st,rfl,f,c⟩:=Gz (s:=s) l;have q:=AG.next i (by rw[f];exact x) (by rw[f];exact y);rw[l]at b;obtain⟨A,J,B⟩:=zq3 b q c;generalize t:r.k=k at*;generalize C:ts.length=L at*;obtain⟨K,M⟩:=zq2 t C;clear b i h l f q c v t C d;unfold vs at*;go_enter nV,gW;go_wp2_with fail;refine A.out.mono ?_;rintro e w1 ⟨rfl,n,rfl⟩;go_wp2;go_ret;have u:Kg g w ((w.setCell ⟨g,1,none⟩ (.int .i64 (k+1))).drewN n):=((Ac.refl _ w).setCell (p:=⟨g,1,none⟩) (.inl rfl) _).drewN n;rw[B.out];refine⟨rfl,u,{r with k:=k+1},z.out.dS u ?_ rfl,J.out,rfl⟩;have:=z.out.row.bM 1 (.int .i64 (k+1));exact this
 |false=>
  have c:=Gs (s:=s) l;rw[l]at b;obtain⟨A,B⟩:=zq2 b c;clear b i h l c v d E F G m H;unfold vs at*;go_enter nV,gW;go_wp2_with fail;refine A.out.mono ?_;rintro e w1 ⟨rfl,n,rfl⟩;go_wp2;go_ret;rw[B.out];exact⟨rfl,zAr.drewN n,r,z.out.drewN n,I.out.unit,rfl⟩
def EG (x:CN):Value:=.agg #[vs x.is,vs x.bZ,.int .i64 x.pos]
def Aok (w:World) (g gp:Nat) (tl:Value) (ts:List CN) (pc:List Value) (s:Ah) (a:List Bi) (o:AQ M9) (e:Ending) (w':World):Prop:=
 ∃x:CN,e= .returned (EG x)/\Kg g w w'/\(∀t st,o= .ok t st->x.Of t)/\∃r',Gl w' g gp tl ts pc r'/\Bp s r' o/\r'.decls=a
def BE {α:Type} (s kd:Ah) (o:AQ α):AQ M9:=o.bind λ_ st=>want s kd st
theorem XN {s kd:Ah}{o:AQ α}(h:o.cj kd=true):∃a st,o= .ok a st/\D1 s kd o= .ok () (next s st)/\BE s kd o= .ok st.t (next s st):=by obtain⟨a,st,rfl,b,c⟩:=Gz (s:=s) h;refine⟨a,st,rfl,c,?_⟩;show want s kd st=_;unfold want;rw[Al b]
theorem Z7 {s kd:Ah}{o:AQ α}(h:o.cj kd=false) {r:Fh}(b:Bp s r ((D1 s kd o).ma D9)):Bp s r (BE s kd o)/\∀t st,BE s kd o≠.ok t st:=by
 rw[Gs h]at b;cases o with
 |bad e p=>exact⟨b,λt st e=>by cases e⟩
 |ok a st=>
  have c:¬st.t.kind=kd:=by simpa[AQ.cj]using h
  have e:BE s kd (.ok a st)= .bad D9 st.t.pos:=by show want s kd st=_;unfold want;rw[Ai c];rfl
  rw[e];exact⟨b,λt st e=>by cases e⟩
theorem Ep {w w':World}{g:Nat}(b:Kg g w w') {n:Nat}{t:TypeId}{cs:List Value}(a:AF w n t cs) (c:n≠g):AF w' n t cs:=(In b a.lt c).trans a
theorem jx (w:World):(isAgg 138).run prog w= .ok true w:=by kernel_rfl
theorem aB (w:World):(Go.sizeOf 138).run prog w= .ok 3 w:=by kernel_rfl
theorem ET (h:Gl w g gp tl ts pc r) (K:Bp s r o) (M:Eb ts (ji s)) {kd kr:Ah}(hk:kd≠KQ) (q:GU kd=kr) (c:kd≠Ek) (d:kd≠Bx):
  Calls prog 56 #[.pointer (some ⟨g,0,none⟩),vs kr] w (Aok w g gp tl ts pc s r.decls (BE s kd o)):=by
 have b:=λW (hW:Gl W g gp tl ts pc r)=>FL hW K M hk q c d;obtain⟨c0,c1,_⟩:=h.cells;have ci:=h.row.lt;obtain⟨x,O⟩:=K.tok M;obtain⟨gt,ct,rfl,h1,h2,h3,h4,h5,t0,t1,t2⟩:=h.at_ O;unfold maxLen at h2;have cy:r.k<ts.length:=h3;have h8:=h.tl;obtain⟨HR,HS,HX,u,HT⟩:=zq5 h K O M b;generalize v:r.k=k at*;generalize hL:ts.length=L at*;obtain⟨P,HL⟩:=zq2 v hL;clear K h O M v hL b q;cases hb:o.cj kd
 all_goals
  have Q:=Aa hb;clear hb;unfold vs at*;go_enter func56,ntmps56;go_wp2;go_region;go_wp2_with fail;have y:Gl ((w.alloc (.cells #[vs [],vs [],.int .i64 0] 138)).alloc (.cells #[vs x.is,vs x.bZ,.int .i64 x.pos] 138)).drew g gp (.slice (some ⟨gt,0,none⟩) L ct) ts pc r:=((HR.out.alloc _).alloc _).drewN 1;have x0:AF ((w.alloc (.cells #[vs [],vs [],.int .i64 0] 138)).alloc (.cells #[vs x.is,vs x.bZ,.int .i64 x.pos] 138)).drew w.heap.size 138 [vs [],vs [],.int .i64 0]:=(AF.new w _ _).alloc _;have x1:AF ((w.alloc (.cells #[vs [],vs [],.int .i64 0] 138)).alloc (.cells #[vs x.is,vs x.bZ,.int .i64 x.pos] 138)).drew (w.heap.size+1) 138 [vs x.is,vs x.bZ,.int .i64 x.pos]:=by have:=AF.new (w.alloc (.cells #[vs [],vs [],.int .i64 0] 138)) 138 [vs x.is,vs x.bZ,.int .i64 x.pos];simp only[Ig]at this;exact this
  have z:Kg g w ((w.alloc (.cells #[vs [],vs [],.int .i64 0] 138)).alloc (.cells #[vs x.is,vs x.bZ,.int .i64 x.pos] 138)).drew:=(((Ac.refl _ w).alloc (.inr (Ab _)) _).alloc (.inr (by simp)) _).drew;have i:=HT.out _ y;rw[Q.out]at i;obtain⟨R,X0,X1,KK⟩:=zq4 i x0 x1 z;clear y i x0 x1 z;unfold vs at*;refine R.out.mono ?_;rintro e w1 ⟨rfl,c,r',A,B,C⟩;have D:=Aa C;clear C;obtain⟨n,E,F⟩:=zq3 c A B;clear c A B
  first
   |(go_wp2_with fail
     refine(Np E.out F.out u.out (e:=2) (by decide)).mono ?_;rintro e w2 ⟨rfl,d,r2,G,H,I⟩;have S:=Aa I;clear I;obtain⟨T,U,V⟩:=zq3 d G H;clear d G H)
   |skip
  first
   |have l:=Ep T.out (Ep n.out X0.out (by omega)) (by omega)
   |have l:=Ep n.out X0.out (by omega)
  first
   |have J:=Ep T.out (Ep n.out X1.out (by omega)) (by omega)
   |have J:=Ep n.out X1.out (by omega)
  obtain⟨d0,d1,d2,e0,X,Y⟩:=zp6 (l.cell 0) (l.cell 1) (l.cell 2) (J.cell 0) (J.cell 1) (J.cell 2);have fz:=λj=>l.frozen j;have Y0:=Aa l;clear l J;simp at d0 d1 d2 e0 X Y;go_wp2;have q1:=Y0.out;have m:(Value.slice (some ⟨gt,0,none⟩) L ct).ownBlock≠some w.heap.size:=λe=>by injection e with e;simp only at e;omega
  first
   |have g0:=U.out
   |have g0:=E.out
  first
   |have z:Kg g w _:=(KK.out.trans n.out).trans T.out
   |have z:Kg g w _:=KK.out.trans n.out
  have g1:=g0.dK q1 (by decide) m 0 (.string ⟨x.is.toArray⟩);have q2:=q1.bM 0 (.string ⟨x.is.toArray⟩);have g2:=g1.dK q2 (by decide) m 1 (.string ⟨x.bZ.toArray⟩);have q3:=q2.bM 1 (.string ⟨x.bZ.toArray⟩);have g3:=g2.dK q3 (by decide) m 2 (.int .i64 x.pos);have q4:=q3.bM 2 (.int .i64 x.pos);have k4:=((z.setCell (p:=⟨w.heap.size,0,none⟩) (.inr (Ab _)) (.string ⟨x.is.toArray⟩)).setCell (p:=⟨w.heap.size,1,none⟩) (.inr (Ab _)) (.string ⟨x.bZ.toArray⟩)).setCell (p:=⟨w.heap.size,2,none⟩) (.inr (Ab _)) (.int .i64 x.pos);refine AB (AT (cs:=[.string ⟨x.is.toArray⟩,.string ⟨x.bZ.toArray⟩,.int .i64 x.pos]) Tryz.results56 jx aB rfl q4) rfl ?_;refine⟨x,rfl,k4,?_⟩
  first
   |(obtain⟨a,st,rfl,e1,N⟩:=XN (s:=s) Q.out
     refine⟨λt st' e=>?_,_,g3,?_,D.out⟩;rw[N]at e;injection e with e3 e4;obtain⟨x',f,Z⟩:=AG.tok HS.out u.out;rw[P.out,HX.out]at f;injection f with f;rw[←e3,f];exact Z;rw[N];have h9:=F.out;rw[e1]at h9;exact h9)
   |(obtain⟨e1,N⟩:=Z7 Q.out V.out
     exact⟨λt st' e=>absurd e (N t st'),_,g3,e1,S.out.trans D.out⟩)
end
def Pc {α:Type} (e pos:Nat) (o:AQ α):AQ Unit:=o.bind λ_ st=>.ok () (note e pos st)
section
variable {w:World}{g gp:Nat}{tl:Value}{ts:List CN}{pc:List Value}{r:Fh}{s:Ah}{α:Type}{o:AQ α}
theorem H6 (h:Gl w g gp tl ts pc r) (b:Bp s r o) {e:Nat}(t:e≠0) (pos:Nat):Calls prog 84 #[.pointer (some ⟨g,0,none⟩),.int .i64 e,.int .i64 pos] w (sI w g gp tl ts pc s r.decls (.tuple #[]) (Pc e pos o)):=by
 obtain⟨_,_,_,_,c4,_,u,_⟩:=h.cells;have y:=λj=>h.row.frozen j;have m:=Aa h;cases o with
 |bad k p=>
  have c:r.bad≠0:=by rw[DM.bad b];exact DM.ne b
  have e1:((r.bad:Int)==0)=false:=by simpa using c
  have v:decide ((r.bad:Int)=0)=false:=by simpa using c
  have x:=Aa b;clear b h c;go_enter func84,ntmps84;go_wp2;go_end0;exact⟨rfl,Ac.refl _ _,r,m.out,x.out,rfl⟩
 |ok a st=>
  have c:(r.bad:Int)=0:=by rw[AG.bad b];rfl
  rw[c]at c4;have d:=AG.note (pos:=pos) b t;have q:=Aa d;by_cases f:r.bJ=0
  ·have i:(r.bJ:Int)=0:=by omega
   rw[i]at u;have n:=Aa f;clear b h c d f i;go_enter func84,ntmps84;go_wp2;go_end0;have l:Kg g w ((w.setCell ⟨g,6,none⟩ (.int .i64 e)).setCell ⟨g,7,none⟩ (.int .i64 pos)):=((Ac.refl _ w).setCell (p:=⟨g,6,none⟩) (.inl rfl) _).setCell (p:=⟨g,7,none⟩) (.inl rfl) _;refine⟨rfl,l,{r with bJ:=e,mG:=pos},m.out.dS l ?_ rfl,?_,rfl⟩
   ·have:=(m.out.row.bM 6 (.int .i64 e)).bM 7 (.int .i64 pos);exact this
   ·have:=q.out;rw[Al n.out]at this;exact this
  ·have e1:((r.bJ:Int)==0)=false:=by simpa using f
   have v:decide ((r.bJ:Int)=0)=false:=by simpa using f
   have n:=Aa f;clear b h c d f;go_enter func84,ntmps84;go_wp2;go_end0;refine⟨rfl,Ac.refl _ _,r,m.out,?_,rfl⟩;have:=q.out;rw[Ai n.out]at this;exact this
end
theorem PM {S:Nat->Prop}(name:Ah) (gp:Nat) (l:List Bi) (z:Value) (w:World) (q:Sl S w 87 3 z l.length (l.flatMap FN)) (M:l.length<=1000) (N:gp<w.heap.size) (B:w.cell? ⟨gp,0,none⟩=some z):
  Calls prog 47 #[.pointer (some ⟨gp,0,none⟩),vs name] w λe w'=>e= .returned (.int .i64 (find l name))/\Below w.heap.size w w':=by
 obtain⟨O,F,rfl⟩:=q.cB;obtain⟨G,P⟩:=zq2 q B;clear q;go_enter func47,ntmps47;go_wp2
 go_loopg [12] l.length (λH t wr=>∃c:Nat,c<=l.length/\l.length-c<=H/\t= .int .i64 c/\Below w.heap.size w wr/\(∀(j:Nat) (d:Bi),j<c->l[j]?=some d->d.name≠name))
 case atStart=>exact⟨0,AM _,by omega,rfl,LA _ w,λj d C=>absurd C (UZ _)⟩
 case round=>
  obtain⟨c,I,J,rfl,D,a⟩:=hrel;obtain⟨k,A⟩:=zq2 D a;clear D a B;by_cases u:c<l.length
  ·obtain⟨x,v⟩:∃x,l[c]?=some x:=⟨_,Ae u⟩;obtain⟨m,rfl,f,b⟩:=G.out.nM (λ_=>rfl) v;have Q:wr.cell? ⟨m,c*3,none⟩=some (vs (B6 x.kind)):=(k.out.cell (p:=⟨m,c*3,none⟩) f).trans (b 0 (by omega));have R:wr.cell? ⟨m,c*3+1,none⟩=some (vs x.name):=(k.out.cell (p:=⟨m,c*3+1,none⟩) f).trans (b 1 (by omega));have c2:wr.cell? ⟨m,c*3+2,none⟩=some (.int .i64 x.max):=(k.out.cell (p:=⟨m,c*3+2,none⟩) f).trans (b 2 (by omega));have n:=k.out.size;have K:¬m=wr.heap.size:=by omega
   have E:=Aa v;clear v b f;unfold vs at*;by_cases h:x.name=name
   ·have e1:(x.name==name)=true:=by simpa using h
    have L:decide (x.name=name)=true:=by simpa using h
    have y:=Aa h;clear h;go_wp2;go_ret;refine⟨?_,k.out.alloc n _⟩;unfold find;rw[N9 name l 0 c x E.out y.out A.out,DK];rfl
   ·have e1:(x.name==name)=false:=by simpa using h
    have L:decide (x.name=name)=false:=by simpa using h
    have y:=Aa h;clear h;go_wp2;go_roundg (l.length-(c+1))
    case measure=>omega
    case rel=>
     refine⟨c+1,by omega,by omega,by go_num,k.out.alloc n _,λj d C i=>?_⟩;by_cases e:j=c
     ·subst e;rw[E.out]at i;injection i with i;exact i▸y.out
     ·exact A.out j d (by omega) i
  ·have:c=l.length:=by omega
   subst this;go_wp2;go_ret;refine⟨?_,k.out⟩;unfold find;rw[MZ name l 0 (λj d i=>A.out j d (Aj.1 i).1 i)];rfl
theorem mN {l:Ah}{k:Nat}(a:k<l.length):atoi (l.take (k+1))=10*atoi (l.take k)+((l[k].toNat:Int)-48):=by unfold atoi;rw[iq a,List.foldl_append];rfl
def Aol (w:World) (g gp:Nat) (tl:Value) (ts:List CN) (pc:List Value) (s:Ah) (a:List Bi) (o:AQ Int) (e:Ending) (w':World):Prop:=
 ∃v:Int,e= .returned (.int .i64 v)/\Kg g w w'/\(∀n st,o= .ok n st->v=n)/\∃r',Gl w' g gp tl ts pc r'/\Bp s r' o/\r'.decls=a
def Hg {α:Type} (s:Ah) (a b:Int) (o:AQ α):AQ Int:=o.bind λ_ st=>number s a b st
theorem vx {α:Type}(s:Ah) (b c:Int) (o:AQ α):Hg s b c o=(BE s Bw o).bind λt st=>.ok (atoi t.text) (if atoi t.text<b\/atoi t.text>c then note Lt t.pos st else st):=by
 cases o with
 |bad e p=>rfl
 |ok a st=>rfl
theorem jQ {α:Type}{s:Ah}{o:AQ α}{t:M9}{st:PS}{r:Fh}(d:Bp s r o) (h:BE s Bw o= .ok t st):UY t.text/\t.kind=Bw:=by
 cases o with
 |bad e p=>cases h
 |ok a b=>
  obtain⟨c,rfl,_⟩:=BH (show want s Bw b= .ok t st from h);exact⟨(AG.ok d).num c,c⟩
section
variable {w:World}{g gp:Nat}{tl:Value}{ts:List CN}{pc:List Value}{r:Fh}{s:Ah}{α:Type}{o:AQ α}
theorem Kw (h:Gl w g gp tl ts pc r) (Z:Bp s r o) (ht:Eb ts (ji s)) (a i:Int):Calls prog 85 #[.pointer (some ⟨g,0,none⟩),.int .i64 a,.int .i64 i] w (Aol w g gp tl ts pc s r.decls (Hg s a i o)):=by
 have m:=ET h Z ht (kd:=Bw) (kr:=KQ) (by decide) (by decide) (by decide) (by decide);rw[vx];have Q:=λt st=>jQ (t:=t) (st:=st) Z;generalize BE s Bw o=o1 at*;obtain⟨HN,R⟩:=zq2 m Q;clear m Q h Z;go_enter func85,ntmps85;unfold vs at*;go_wp2_with fail;refine HN.out.mono ?_;rintro e w1 ⟨x,rfl,E,hx,r1,X,j,S⟩;have G:=X.row.lt;have bW:¬g=w1.heap.size:=by omega
 obtain⟨_,_,_,_,c4,_⟩:=X.cells;unfold EG vs;obtain⟨Y,N,O⟩:=zq3 (X.alloc (.cells #[vs x.is,vs x.bZ,.int .i64 x.pos] 138)) (E.alloc (.inr E.size) (.cells #[vs x.is,vs x.bZ,.int .i64 x.pos] 138)) S;clear X E S HN;unfold vs at*;cases o1 with
 |bad k p=>
  have P:r1.bad≠0:=by rw[DM.bad j];exact DM.ne j
  have e1:((r1.bad:Int)==0)=false:=by simpa using P
  have e2:decide ((r1.bad:Int)=0)=false:=by simpa using P
  have T:=Aa j;clear P j hx;have hL:=Aa (show(x.bZ.length:Int)=(x.bZ.length:Int)from rfl);go_wp2
  go_loopg [8,9] 0 (λgg s8 s9 wr=>s8= .int .i64 0/\s9= .int .i64 0/\wr=w1.alloc (.cells #[.string ⟨x.is.toArray⟩,.string ⟨x.bZ.toArray⟩,.int .i64 x.pos] 138))
  case atStart=>exact⟨rfl,rfl,rfl⟩
  case round=>
   obtain⟨rfl,rfl,rfl⟩:=hrel;have A:∀(c:Bool),(0:Int)<a\/i<0->Calls prog 84 #[.pointer (some ⟨g,0,none⟩),.int .i64 7,.int .i64 x.pos] (w1.alloc (.cells #[.string ⟨x.is.toArray⟩,.string ⟨x.bZ.toArray⟩,.int .i64 x.pos] 138)) (sI (w1.alloc (.cells #[.string ⟨x.is.toArray⟩,.string ⟨x.bZ.toArray⟩,.int .i64 x.pos] 138)) g gp tl ts pc s r1.decls (.tuple #[]) (Pc Lt x.pos (AQ.bad k p:AQ M9))):=λ_ _=>H6 (e:=Lt) Y.out T.out (by decide) x.pos;have B:=Aa A;clear A;by_cases hz:(0:Int)<(x.bZ.length:Int)
   all_goals
    by_cases c1:(0:Int)<a
    ·go_wp2_with fail;refine(B.out true (.inl c1)).mono ?_;rintro e w3 ⟨rfl,b,z,q,d,f⟩;have F:=Aa (And.intro b (And.intro q (And.intro d f)));clear b q d f;go_wp2;go_ret;obtain⟨H,I,J,K⟩:=F.out;exact⟨0,rfl,Kg.trans N.out H,λn st e=>(by cases e),z,I,J,K.trans O.out⟩
    ·by_cases c2:i<0
     ·go_wp2_with fail;refine(B.out true (.inr c2)).mono ?_;rintro e w3 ⟨rfl,b,z,q,d,f⟩;have F:=Aa (And.intro b (And.intro q (And.intro d f)));clear b q d f;go_wp2;go_ret;obtain⟨H,I,J,K⟩:=F.out;exact⟨0,rfl,Kg.trans N.out H,λn st e=>(by cases e),z,I,J,K.trans O.out⟩
     ·go_wp2;go_ret;exact⟨0,rfl,N.out,λn st e=>(by cases e),r1,Y.out,T.out,O.out⟩
 |ok t st=>
  have P:(r1.bad:Int)=0:=by rw[AG.bad j];rfl
  rw[P]at c4;have T:=Aa j;have L:=hx t st rfl;obtain⟨⟨n1,n2,n3⟩,U⟩:=R.out t st rfl;have C:x.pos=t.pos:=L.2.1;have M:x.bZ=t.text:=L.2.2 (by rw[U];decide);obtain⟨HP,bL⟩:=zq2 C M;rw[←M]at n1 n2 n3;have D:∀(k:Nat) (hk:k<x.bZ.length),48<=(x.bZ[k]).toNat/\(x.bZ[k]).toNat<=57:=λk hk=>by have:=n3 _ (Eg hk);simp only[Gq,Eh,Ey,DZ]at this;exact this
  have V:=Aa D;have u:Calls prog 84 #[.pointer (some ⟨g,0,none⟩),.int .i64 7,.int .i64 x.pos] (w1.alloc (.cells #[.string ⟨x.is.toArray⟩,.string ⟨x.bZ.toArray⟩,.int .i64 x.pos] 138)) (sI (w1.alloc (.cells #[.string ⟨x.is.toArray⟩,.string ⟨x.bZ.toArray⟩,.int .i64 x.pos] 138)) g gp tl ts pc s r1.decls (.tuple #[]) (Pc Lt x.pos (AQ.ok t st))):=H6 (e:=Lt) Y.out T.out (by decide) x.pos;have y:=Aa u;clear u j hx L n3 C M P U R D;go_wp2
  go_loopg [8,9] x.bZ.length (λgg s8 s9 wr=>∃(k:Nat) (v:Int),k<=x.bZ.length/\x.bZ.length-k<=gg/\s9= .int .i64 k/\s8= .int .i64 v/\v=atoi (x.bZ.take k)/\0<=v/\(k=0->v=0)/\(k=1->v<=9)/\(k=2->v<=99)/\v<=999/\wr=w1.alloc (.cells #[.string ⟨x.is.toArray⟩,.string ⟨x.bZ.toArray⟩,.int .i64 x.pos] 138))
  case atStart=>exact⟨0,0,by omega,by omega,rfl,rfl,rfl,by omega,by omega,by omega,by omega,by omega,rfl⟩
  case round=>
   obtain⟨k,v,hk,hg,rfl,rfl,hv,v0,v1,v2,v3,v4,rfl⟩:=hrel;have HV:=Aa hv;clear hv;by_cases G:k<x.bZ.length
   ·obtain⟨d1,d2⟩:=V.out k G;have ha:=mN G;have HA:=Aa ha;clear ha;go_wp2;go_roundg (x.bZ.length-(k+1))
    case measure=>omega
    case rel=>
     refine⟨k+1,10*v+((x.bZ[k].toNat:Int)-48),by omega,by omega,by go_num,?_,?_,by omega,by omega,by omega,by omega,by omega,rfl⟩
     ·have e0:(⟨x.bZ.toArray⟩:ByteArray)[k]=x.bZ[k]:=rfl;rw[e0];congr 1;omega
     ·rw[HA.out,HV.out]
   ·have bN:k=x.bZ.length:=by omega
    subst bN;have W:v=atoi t.text:=by rw[HV.out,Kk,bL.out]
    have l:=Aa W;clear W;by_cases c1:v<a
    ·go_wp2_with fail;refine y.out.mono ?_;rintro e w3 ⟨rfl,b,z,q,d,f⟩;have F:=Aa (And.intro b (And.intro q (And.intro d f)));clear b q d f;go_wp2;go_ret;obtain⟨H,I,J,K⟩:=F.out;refine⟨v,rfl,Kg.trans N.out H,λn st' e=>?_,z,I,?_,K.trans O.out⟩
     ·injection e with e _;rw[l.out,e]
     ·show AG s z (if _ then _ else _);rw[←l.out,Al (.inl c1),←HP.out];exact J
    ·by_cases c2:v>i
     ·go_wp2_with fail;refine y.out.mono ?_;rintro e w3 ⟨rfl,b,z,q,d,f⟩;have F:=Aa (And.intro b (And.intro q (And.intro d f)));clear b q d f;go_wp2;go_ret;obtain⟨H,I,J,K⟩:=F.out;refine⟨v,rfl,Kg.trans N.out H,λn st' e=>?_,z,I,?_,K.trans O.out⟩
      ·injection e with e _;rw[l.out,e]
      ·show AG s z (if _ then _ else _);rw[←l.out,Al (.inr c2),←HP.out];exact J
     ·go_wp2;go_ret;refine⟨v,rfl,N.out,λn st' e=>?_,r1,Y.out,?_,O.out⟩
      ·injection e with e _;rw[l.out,e]
      ·show AG s r1 (if _ then _ else _);rw[←l.out,Ai (by omega)];exact T.out
end
theorem Sl.qE {N:Nat->Prop}{w w':World}{t:TypeId}{size n:Nat}{v:Value}{xs:List Value}(h:Sl N w t size v n xs) (a:Below w.heap.size w w'):Sl N w' t size v n xs:=
 h.kept (Ac.dF a (S:=λb=>w.heap.size<=b) (λk c=>c)) (λb a e=>by have:=h.lt a;omega)
theorem W6 {k:Nat}(h:k=2):B6 k=Jy:=by unfold B6;rw[Al h]
theorem Y3 {k:Nat}(h:¬k=2):(B6 k==Jy)=false:=by unfold B6;rw[Ai h];split<;>decide
def Ahp (w:World) (g gp:Nat) (tl:Value) (ts:List CN) (pc:List Value) (s:Ah) (a:List Bi) (o:AQ Int) (e:Ending) (w':World):Prop:=
 ∃v:Nat,e= .returned (.int .i64 v)/\Kg g w w'/\(∀n st,o= .ok n st->st.bJ=none->n=v)/\∃r',Gl w' g gp tl ts pc r'/\Bp s r' o/\r'.decls=a
def Tf {α:Type} (s:Ah) (b:Bool) (o:AQ α):AQ Int:=o.bind λ_ st=>name s b st
theorem zW12 {α:Type}(s:Ah) (b:Bool) (o:AQ α):Tf s b o=(BE s Ch o).bind λt st=>.ok (find st.decls t.text) (Cw b t st):=by
 cases o with
 |bad e p=>rfl
 |ok a st=>rfl
def oe (a:List Bi) (x:CN) (o:AQ M9):Prop:=∀t st,o= .ok t st->x.pos=t.pos/\x.bZ=t.text/\st.decls=a
section
variable {s:Ah}{r r2:Fh}{x:CN}{o:AQ M9}{b:Bool}{i:Nat}{d:Bi}
theorem vz (h:oe r.decls x o) (f:find r.decls x.bZ= -1) (a:Bp s r2 (Pc YA x.pos o)):
  Bp s r2 (o.bind λt st=>.ok (find st.decls t.text) (Cw b t st))/\∀n st,(o.bind λt st=>AQ.ok (find st.decls t.text) (Cw b t st))= .ok n st->st.bJ=none->n=((0:Nat):Int):=by
 cases o with
 |bad e p=>exact⟨a,λn st e=>by cases e⟩
 |ok t st=>
  obtain⟨j,k,l⟩:=h t st rfl;have e:Cw b t st=note YA t.pos st:=by unfold Cw;rw[l,←k,f];rfl
  refine⟨?_,λn st' e' c=>?_⟩
  ·show AG s r2 (Cw b t st);rw[e,←j];exact a
  ·injection e' with _ e';rw[←e',e]at c;exact absurd c (Fy _ _ _)
theorem iZ (h:oe r.decls x o) (u:r.decls[i]?=some d) (f:find r.decls x.bZ=(i:Int)) (j:Aq r.decls (i:Int)=d) (k:((d.kind==2)!=b)=true) (a:Bp s r2 (Pc Uk x.pos o)):
  Bp s r2 (o.bind λt st=>.ok (find st.decls t.text) (Cw b t st))/\∀n st,(o.bind λt st=>AQ.ok (find st.decls t.text) (Cw b t st))= .ok n st->st.bJ=none->n=(i:Int):=by
 cases o with
 |bad e p=>exact⟨a,λn st e=>by cases e⟩
 |ok t st=>
  obtain⟨l,m,q⟩:=h t st rfl;have e:Cw b t st=note Uk t.pos st:=by unfold Cw;rw[q,←m,f,Ai (by omega),j,Al k]
  refine⟨?_,λn st' e' c=>?_⟩
  ·show AG s r2 (Cw b t st);rw[e,←l];exact a
  ·injection e' with _ e';rw[←e',e]at c;exact absurd c (Fy _ _ _)
theorem ym (h:oe r.decls x o) (m:r.decls[i]?=some d) (a:find r.decls x.bZ=(i:Int)) (k:Aq r.decls (i:Int)=d) (l:((d.kind==2)!=b)=false) (c:Bp s r2 o):
  Bp s r2 (o.bind λt st=>.ok (find st.decls t.text) (Cw b t st))/\∀n st,(o.bind λt st=>AQ.ok (find st.decls t.text) (Cw b t st))= .ok n st->st.bJ=none->n=(i:Int):=by
 cases o with
 |bad e p=>exact⟨c,λn st e=>by cases e⟩
 |ok t st=>
  obtain⟨q,f,j⟩:=h t st rfl;have e:Cw b t st=st:=by unfold Cw;rw[j,←f,a,Ai (by omega),k,l];rfl
  refine⟨?_,λn st' e' u=>?_⟩
  ·show AG s r2 (Cw b t st);rw[e];exact c
  ·injection e' with e1 e';rw[←e1,j,←f,a]
end
section
variable {w:World}{g gp:Nat}{tl:Value}{ts:List CN}{pc:List Value}{r:Fh}{s:Ah}{α:Type}{o:AQ α}
theorem Z8 {t:M9}{st:PS}{x:CN}(h:BE s Ch o= .ok t st) (j:x.Of t) {r1:Fh}(k:Bp s r1 (BE s Ch o)):x.pos=t.pos/\x.bZ=t.text/\st.decls=r1.decls:=by
 cases o with
 |bad e p=>cases h
 |ok a f=>
  have c:=k;rw[h]at c;obtain⟨l,rfl,m⟩:=BH (show want s Ch f= .ok t st from h);exact⟨j.2.1,j.2.2 (by rw[l];decide),(AG.decls c).symm⟩
theorem Fx (h:Gl w g gp tl ts pc r) (hs:Bp s r o) (ht:Eb ts (ji s)) (b:Bool):Calls prog 87 #[.pointer (some ⟨g,0,none⟩),.bool b] w (Ahp w g gp tl ts pc s r.decls (Tf s b o)):=by
 have m:=ET h hs ht (kd:=Ch) (kr:=Ch) (by decide) (by decide) (by decide) (by decide);rw[zW12];have I:=λt st x r1 J j v=>Z8 (s:=s) (o:=o) (t:=t) (st:=st) (x:=x) (r1:=r1) J j v;generalize BE s Ch o=o1 at*;obtain⟨HN,K⟩:=zq2 m I;clear m I h hs;go_enter func87,ntmps87;unfold vs at*;go_wp2_with fail;refine HN.out.mono ?_;rintro e w1 ⟨x,rfl,B,hx,r1,J,C,M⟩;have dd:=J.row.lt;have dF:¬g=w1.heap.size:=by omega
 have D:=J.alloc (.cells #[vs x.is,vs x.bZ,.int .i64 x.pos] 138);have H:=D.drewN 1;have O:=(B.alloc (.inr B.size) (.cells #[vs x.is,vs x.bZ,.int .i64 x.pos] 138)).drewN 1;have x0:=(AF.new w1 138 [vs x.is,vs x.bZ,.int .i64 x.pos]);obtain⟨N,vd,p0,E⟩:=H.decls;have n:=PM x.bZ gp r1.decls vd _ E H.dl H.bQ.lt ((H.bQ.cell 0).trans p0);obtain⟨_,_,_,_,_,_,_,_,c8,_⟩:=D.cells;have d1:=x0.cell 1;simp at d1;have P:oe r1.decls x o1:=λt st ho=>K.out t st x r1 ho (hx t st ho) C;obtain⟨HF,HA,bN,X0,bO,HS,Q,p⟩:=zq8 n H O x0 E C M P;have P0:=Aa p0;clear n H D O x0 J B C M E P HN K p0 hx;unfold EG;unfold vs at*;go_wp2_with fail
 (refine Du 6 (by kernel_rfl) (by kernel_rfl) ?_;simp only[Au,AI,Av,AK];repeat still_step)
 refine BT ?_;go_wp2_with fail;refine HF.out.mono ?_;rintro e w2 ⟨rfl,k⟩;have j:=HA.out.kg (Jx k) (k.block g HA.out.row.lt);have R:=Kg.trans bN.out (Jx k);have x2:AF w2 w1.heap.size 138 [vs x.is,vs x.bZ,.int .i64 x.pos]:=(k.block _ (by simp)).trans X0.out;have d2:=x2.cell 2;simp at d2;obtain⟨_,_,_,_,_,_,_,_,dN,_⟩:=j.cells;have q0:=(j.bQ.cell 0).trans P0.out;have S:=bO.out.qE k;have n5:=H6 (e:=YA) j HS.out (by decide) x.pos;have n6:=H6 (e:=Uk) j HS.out (by decide) x.pos;obtain⟨N5,N6,T,H2,q⟩:=zq5 n5 n6 S j R;clear n5 n6 j R x2 k c8 d1 S;rcases Wk r1.decls x.bZ with G|⟨i,d,hi,G,hd⟩
 ·rw[G];have l:=Aa G;clear G;go_wp2_with fail;refine N5.out.mono ?_;rintro e w3 ⟨rfl,a,U,v,c,f⟩;have F:=Aa (And.intro a (And.intro v (And.intro c f)));clear a v c f;go_wp2;go_ret;obtain⟨V,X,Y,Z⟩:=F.out;obtain⟨y,z⟩:=vz (b:=b) p.out l.out Y;exact⟨0,rfl,Kg.trans q.out V,z,U,X,y,Z.trans Q.out⟩
 ·obtain⟨ao,dP,rfl⟩:=T.out.cB;obtain⟨gd,rfl,bR,u⟩:=T.out.nM (λ_=>rfl) hi;have y0:w2.cell? ⟨gd,i*3,none⟩=some (vs (B6 d.kind)):=u 0 (by omega);have dS:i<r1.decls.length:=(Aj.1 hi).1;rw[G];obtain⟨l,HI,A⟩:=zq3 G hi hd;have dU:=H2.out.dl;clear u hd hi G bR;generalize hL:r1.decls.length=L at*;have HL:=Aa hL;clear hL;by_cases j:d.kind=2
  ·rw[W6 j]at y0;have hk:=Aa (show(d.kind==2)=true by simpa using j);clear j;unfold vs at*;cases b with
   |true=>
    go_wp2;go_ret;obtain⟨y,z⟩:=ym (b:=true) p.out HI.out l.out A.out (by rw[hk.out];rfl) HS.out;exact⟨i,rfl,q.out,z,r1,H2.out,y,Q.out⟩
   |false=>
    go_wp2_with fail;refine N6.out.mono ?_;rintro e w3 ⟨rfl,a,U,v,c,f⟩;have F:=Aa (And.intro a (And.intro v (And.intro c f)));clear a v c f;go_wp2;go_ret;obtain⟨V,X,Y,Z⟩:=F.out;obtain⟨y,z⟩:=iZ (b:=false) p.out HI.out l.out A.out (by rw[hk.out];rfl) Y;exact⟨i,rfl,Kg.trans q.out V,z,U,X,y,Z.trans Q.out⟩
  ·have e1:=Y3 j;have e2:decide (B6 d.kind=Jy)=false:=by simpa using e1
   have hk:=Aa (show(d.kind==2)=false by simpa using j);clear j;unfold vs at*;generalize B6 d.kind=W at*;cases b with
   |false=>
    go_wp2;go_ret;obtain⟨y,z⟩:=ym (b:=false) p.out HI.out l.out A.out (by rw[hk.out];rfl) HS.out;exact⟨i,rfl,q.out,z,r1,H2.out,y,Q.out⟩
   |true=>
    go_wp2_with fail;refine N6.out.mono ?_;rintro e w3 ⟨rfl,a,U,v,c,f⟩;have F:=Aa (And.intro a (And.intro v (And.intro c f)));clear a v c f;go_wp2;go_ret;obtain⟨V,X,Y,Z⟩:=F.out;obtain⟨y,z⟩:=iZ (b:=true) p.out HI.out l.out A.out (by rw[hk.out];rfl) Y;exact⟨i,rfl,Kg.trans q.out V,z,U,X,y,Z.trans Q.out⟩
end
def mY (t:TypeId):Prop:=t≠136/\t≠85/\t≠87/\t≠138
instance (t:TypeId):Decidable (mY t):=by unfold mY;exact inferInstance
section
variable {w w':World}{g gp:Nat}{tl:Value}{ts:List CN}{pc:List Value}{r r':Fh}
theorem Gl.fD (h:Gl w g gp tl ts pc r) {n:Nat}{t:TypeId}{cs:List Value}(b:AF w n t cs) (a:mY t) (i:Nat) (u:Value):Gl (w.setCell ⟨n,i,none⟩ u) g gp tl ts pc r:=by obtain⟨N,c⟩:=h.ji;exact h.dK b ⟨a.1,a.2.1,a.2.2.1⟩ (c.bK b (λe=>a.2.2.2 e.symm)) i u
theorem Gl.put (h:Gl w g gp tl ts pc r) (i:Nat) (u:Value) {r':Fh}(a:(PL tl gp r).set i u=PL tl gp r') (b:r'.decls=r.decls):Gl (w.setCell ⟨g,i,none⟩ u) g gp tl ts pc r':=
 h.dS ((Ac.refl _ w).setCell (p:=⟨g,i,none⟩) (.inl rfl) u) (by have:=h.row.bM i u;rw[a]at this;exact this) b
end
structure RH (w0 w:World) (g gp:Nat) (tl:Value) (ts:List CN) (pc:List Value) (r:Fh) (ty:TypeId) (C:Nat) (cs:List Value):Prop where
 kg:Kg g w0 w
 rd:Gl w g gp tl ts pc r
 row:AF w C ty cs
 new:w0.heap.size<=C
 l8:mY ty
structure ML (w0 w:World) (g gp:Nat) (tl:Value) (ts:List CN) (pc:List Value) (r:Fh) (ty:TypeId) (C:Nat) (cs:List Value) (D:Nat) (ds:List Value):Prop extends RH w0 w g gp tl ts pc r ty C cs where
 bO:AF w D ty ds
 jM:w0.heap.size<=D
 ne:C≠D
section
variable {w0 w w':World}{g gp:Nat}{tl:Value}{ts:List CN}{pc:List Value}{r r':Fh}{ty:TypeId}{C D:Nat}{cs ds:List Value}
theorem RH.start (h:Gl w g gp tl ts pc r) (a:mY ty) (cs:List Value):RH w (w.alloc (.cells cs.toArray ty)) g gp tl ts pc r ty w.heap.size cs:=
 ⟨(Ac.refl _ w).alloc (.inr (Ab _)) _,h.alloc _,AF.new w ty cs,Ab _,a⟩
theorem RH.call (h:RH w0 w g gp tl ts pc r ty C cs) (a:Kg g w w') (b:Gl w' g gp tl ts pc r'):RH w0 w' g gp tl ts pc r' ty C cs:=
 ⟨Kg.trans h.kg a,b,Ep a h.row (h.row.cZ h.rd.row h.l8.1),h.new,h.l8⟩
theorem RH.bM (h:RH w0 w g gp tl ts pc r ty C cs) (i:Nat) (u:Value):RH w0 (w.setCell ⟨C,i,none⟩ u) g gp tl ts pc r ty C (cs.set i u):=
 ⟨h.kg.setCell (p:=⟨C,i,none⟩) (.inr h.new) u,h.rd.fD h.row h.l8 i u,h.row.bM i u,h.new,h.l8⟩
theorem RH.alloc (h:RH w0 w g gp tl ts pc r ty C cs) (o:Obj):RH w0 (w.alloc o) g gp tl ts pc r ty C cs:=
 ⟨h.kg.alloc (.inr h.kg.size) o,h.rd.alloc o,h.row.alloc o,h.new,h.l8⟩
theorem RH.drewN (h:RH w0 w g gp tl ts pc r ty C cs) (n:Nat):RH w0 (w.drewN n) g gp tl ts pc r ty C cs:=⟨h.kg.drewN n,h.rd.drewN n,h.row.drewN n,h.new,h.l8⟩
theorem ML.start (h:RH w0 w g gp tl ts pc r ty C cs) (ds:List Value):ML w0 (w.alloc (.cells ds.toArray ty)) g gp tl ts pc r ty C cs w.heap.size ds:=
 ⟨h.alloc _,AF.new w ty ds,h.kg.size,by have:=h.row.lt;omega⟩
theorem ML.call (h:ML w0 w g gp tl ts pc r ty C cs D ds) (a:Kg g w w') (b:Gl w' g gp tl ts pc r'):ML w0 w' g gp tl ts pc r' ty C cs D ds:=
 ⟨h.toRH.call a b,Ep a h.bO (h.bO.cZ h.rd.row h.l8.1),h.jM,h.ne⟩
theorem ML.bM (h:ML w0 w g gp tl ts pc r ty C cs D ds) (i:Nat) (u:Value):ML w0 (w.setCell ⟨C,i,none⟩ u) g gp tl ts pc r ty C (cs.set i u) D ds:=
 ⟨h.toRH.bM i u,h.bO.dK (λe=>h.ne e.symm) u,h.jM,h.ne⟩
theorem ML.cy (h:ML w0 w g gp tl ts pc r ty C cs D ds) (i:Nat) (u:Value):ML w0 (w.setCell ⟨D,i,none⟩ u) g gp tl ts pc r ty C cs D (ds.set i u):=
 ⟨⟨h.kg.setCell (p:=⟨D,i,none⟩) (.inr h.jM) u,h.rd.fD h.bO h.l8 i u,h.row.dK h.ne u,h.new,h.l8⟩,h.bO.bM i u,h.jM,h.ne⟩
theorem ML.alloc (h:ML w0 w g gp tl ts pc r ty C cs D ds) (o:Obj):ML w0 (w.alloc o) g gp tl ts pc r ty C cs D ds:=⟨h.toRH.alloc o,h.bO.alloc o,h.jM,h.ne⟩
theorem ML.drewN (h:ML w0 w g gp tl ts pc r ty C cs D ds) (n:Nat):ML w0 (w.drewN n) g gp tl ts pc r ty C cs D ds:=⟨h.toRH.drewN n,h.bO.drewN n,h.jM,h.ne⟩
theorem ML.put (h:ML w0 w g gp tl ts pc r ty C cs D ds) (i:Nat) (u:Value) {r':Fh}(a:(PL tl gp r).set i u=PL tl gp r') (b:r'.decls=r.decls):ML w0 (w.setCell ⟨g,i,none⟩ u) g gp tl ts pc r' ty C cs D ds:=
 h.call ((Ac.refl _ w).setCell (p:=⟨g,i,none⟩) (.inl rfl) u) (h.rd.put i u a b)
end
def Aoh (w:World) (g gp:Nat) (tl:Value) (ts:List CN) (pc:List Value) (s:Ah) (ds:List Bi) (o:AQ Ra) (e:Ending) (w':World):Prop:=
 ∃(k:Ah) (n:Int),e= .returned (.agg #[vs k,.int .i64 n])/\Kg g w w'/\(∀v st,o= .ok v st->st.bJ=none->[vs k,.int .i64 n]=Fq v)/\∃r',Gl w' g gp tl ts pc r'/\Bp s r' o/\r'.decls=ds
def QE {α:Type} (s:Ah) (o:AQ α):AQ Ra:=o.bind λ_ st=>value s st
theorem Ju {α β:Type}{f:α->β}{o:AQ α}{b:β}{st:PS}(h:o.map f= .ok b st):∃a,o= .ok a st/\f a=b:=NY h
theorem Bp.map {α β:Type}{s:Ah}{r:Fh}{o:AQ α}(h:Bp s r o) (f:α->β):Bp s r (o.map f):=by
 cases o with
 |bad e p=>exact h
 |ok a st=>exact h
section
variable {α:Type}{s:Ah}{o:AQ α}
theorem oH (h:o.cj Bw=true):QE s o=(Hg s 0 999 o).map .num:=by obtain⟨a,st,rfl,b⟩:=AQ.iw h;show value s st=_;unfold value;rw[Al b];rfl
theorem oI (d:o.cj Bw=false) (h:o.cj JU=true):QE s o=(Tf s false (D1 s JU o)).map .len:=by obtain⟨a,st,rfl,b,c⟩:=Gz (s:=s) h;rw[c];show value s st=_;unfold value;rw[Ai (by rw[b];decide),Al b];rfl
theorem jW (d:o.cj Bw=false) (e:o.cj JU=false) (h:o.cj Cy=true):QE s o=(D1 s Cy o).map λ_=>.bI:=by obtain⟨a,st,rfl,b,c⟩:=Gz (s:=s) h;rw[c];show value s st=_;unfold value;rw[Ai (by rw[b];decide),Ai (by rw[b];decide),Al b];rfl
theorem oG (b:o.cj Bw=false) (c:o.cj JU=false) (d:o.cj Cy=false):QE s o=(Tf s true o).map .var:=by
 cases o with
 |bad e p=>rfl
 |ok a st=>
  have f:¬st.t.kind=Bw:=by simpa[AQ.cj]using b
  have h:¬st.t.kind=JU:=by simpa[AQ.cj]using c
  have i:¬st.t.kind=Cy:=by simpa[AQ.cj]using d
  show value s st=_;unfold value;rw[Ai f,Ai h,Ai i];rfl
theorem LZ {k:Ah}:(o.bind λ_ st=>AQ.ok () st).cj k=o.cj k:=by cases o<;>rfl
theorem eD {k:Ah}:D1 s k (o.bind λ_ st=>AQ.ok () st)=D1 s k o:=by cases o<;>rfl
theorem bj {b:Bool}:Tf s b (o.bind λ_ st=>AQ.ok () st)=Tf s b o:=by cases o<;>rfl
end
theorem RJ (w:World):(Go.sizeOf 151).run prog w= .ok 2 w:=by kernel_rfl
theorem UT (w:World):(isAgg 151).run prog w= .ok true w:=by kernel_rfl
section
variable {w:World}{g gp:Nat}{tl:Value}{ts:List CN}{pc:List Value}{r:Fh}{s:Ah}{α:Type}{o:AQ α}
theorem Vv (h:Gl w g gp tl ts pc r) (Y:Bp s r o) (Z:Eb ts (ji s)):Calls prog 148 #[.pointer (some ⟨g,0,none⟩)] w (Aoh w g gp tl ts pc s r.decls (QE s o)):=by
 have q0:=RH.start (ty:=151) h (by decide) [vs [],.int .i64 0];have q:=Kn q0.rd Y Z (kd:=Bw) (kr:=KQ) (by decide) (by decide);obtain⟨Q0,Q,HS⟩:=zq3 q0 Z Y;cases P:o.cj Bw with
 |true=>
  rw[P]at q;obtain⟨HI,R⟩:=zq2 q P;clear q0 h q Z Y P;unfold vs at*;go_enter func148,ntmps148;go_wp2_with fail;refine HI.out.mono ?_;rintro e w1 ⟨rfl,n,rfl⟩;have A:=Q0.out.drewN n;have y:=Kw A.rd HS.out Q.out 0 999;obtain⟨Q1,S⟩:=zq2 A y;clear A y;go_wp2_with fail;refine S.out.mono ?_;rintro e w2 ⟨v,rfl,i,B,r2,E,c,d⟩;have p:=Q1.out.call i E;have f:=(p.bM 0 (vs kS)).bM 1 (.int .i64 v);have z:=λj=>p.row.frozen j;have H:=p.row.cell 0;have I:=p.row.cell 1;obtain⟨T,F⟩:=zq2 f (And.intro B (And.intro c d));clear p f i E B c d;simp at H I;unfold vs at*;go_wp2;refine AB (AT (cs:=[vs kS,.int .i64 v]) UV UT RJ rfl T.out.row) rfl ?_;obtain⟨U,J,K⟩:=F.out;rw[oH R.out];refine⟨kS,v,rfl,T.out.kg,λx st e _=>?_,r2,T.out.rd,J.map _,K⟩;obtain⟨a,e1,rfl⟩:=Ju e;rw[U a st e1];rfl
 |false=>
  rw[P]at q;obtain⟨HI,R⟩:=zq2 q P;clear q0 h q Z Y P;unfold vs at*;go_enter func148,ntmps148;go_wp2_with fail;refine HI.out.mono ?_;rintro e w1 ⟨rfl,n,rfl⟩;have A:=Q0.out.drewN n;have b:=FL A.rd HS.out Q.out (kd:=JU) (kr:=JU) (by decide) (by decide) (by decide) (by decide);have Q1:=Aa A;cases L:o.cj JU with
  |true=>
   rw[L]at b;obtain⟨M,B1⟩:=zq2 b L;clear A b L;unfold vs at*;go_wp2_with fail;refine M.out.mono ?_;rintro e w2 ⟨rfl,i,r2,E,c,d⟩;have p:=Q1.out.call i E;have y:=Fx p.rd c Q.out false;rw[d]at y;obtain⟨Q2,S⟩:=zq2 p y;clear p y i E c d;go_wp2_with fail;refine S.out.mono ?_;rintro e w3 ⟨v,rfl,k,B,r3,G,l,m⟩;have f:=Q2.out.call k G;have t:=(f.bM 0 (vs JU)).bM 1 (.int .i64 v);have z:=λj=>f.row.frozen j;have H:=f.row.cell 0;have I:=f.row.cell 1;obtain⟨N,F⟩:=zq2 t (And.intro B (And.intro l m));clear f t k G B l m;simp at H I;unfold vs at*;go_wp2;refine AB (AT (cs:=[vs JU,.int .i64 v]) UV UT RJ rfl N.out.row) rfl ?_;obtain⟨U,J,K⟩:=F.out;rw[oI R.out B1.out];refine⟨JU,v,rfl,N.out.kg,λx st e hw=>?_,r3,N.out.rd,J.map _,K⟩;obtain⟨a,e1,rfl⟩:=Ju e;rw[U a st e1 hw];rfl
  |false=>
   rw[L,Gs L]at b;obtain⟨M,B1⟩:=zq2 b L;clear A b L;unfold vs at*;go_wp2_with fail;refine M.out.mono ?_;rintro e w2 ⟨rfl,i,r2,E,c,d⟩;have p:=Q1.out.call i E;have b:=FL p.rd c Q.out (kd:=Cy) (kr:=Cy) (by decide) (by decide) (by decide) (by decide);rw[LZ,eD,d]at b;obtain⟨Q2,bX,bY⟩:=zq3 p c d;clear i E c d;cases O:o.cj Cy with
   |true=>
    rw[O]at b;obtain⟨u,B2⟩:=zq2 b O;clear p b O;unfold vs at*;go_wp2_with fail;refine u.out.mono ?_;rintro e w3 ⟨rfl,k,r3,G,l,m⟩;have f:=Q2.out.call k G;have t:=(f.bM 0 (vs Cy)).bM 1 (.int .i64 0);have z:=λj=>f.row.frozen j;have H:=f.row.cell 0;have I:=f.row.cell 1;obtain⟨N,F⟩:=zq2 t (And.intro l m);clear f t k G l m;simp at H I;unfold vs at*;go_wp2;refine AB (AT (cs:=[vs Cy,.int .i64 0]) UV UT RJ rfl N.out.row) rfl ?_;obtain⟨J,K⟩:=F.out;rw[jW R.out B1.out B2.out];refine⟨Cy,0,rfl,N.out.kg,λx st e hw=>?_,r3,N.out.rd,J.map _,K⟩;obtain⟨a,e1,rfl⟩:=Ju e;rfl
   |false=>
    rw[O,Gs O]at b;obtain⟨u,B2⟩:=zq2 b O;clear p b O;unfold vs at*;go_wp2_with fail;refine u.out.mono ?_;rintro e w3 ⟨rfl,k,r3,G,l,m⟩;have f:=Q2.out.call k G;have y:=Fx f.rd l Q.out true;rw[m,bj]at y;obtain⟨T,S⟩:=zq2 f y;clear f y k G l m;go_wp2_with fail;refine S.out.mono ?_;rintro e w4 ⟨v,rfl,V,B,r4,h4,W,X⟩;have t:=T.out.call V h4;have q5:=(t.bM 0 (vs Jy)).bM 1 (.int .i64 v);have z:=λj=>t.row.frozen j;have H:=t.row.cell 0;have I:=t.row.cell 1;obtain⟨Q5,F⟩:=zq2 q5 (And.intro B (And.intro W X));clear t q5 V h4 B W X;simp at H I;unfold vs at*;go_wp2;refine AB (AT (cs:=[vs Jy,.int .i64 v]) UV UT RJ rfl Q5.out.row) rfl ?_;obtain⟨U,J,K⟩:=F.out;rw[oG R.out B1.out B2.out];refine⟨Jy,v,rfl,Q5.out.kg,λx st e hw=>?_,r4,Q5.out.rd,J.map _,K⟩;obtain⟨a,e1,rfl⟩:=Ju e;rw[U a st e1 hw];rfl
end
def Aht (w:World) (g gp:Nat) (tl:Value) (ts:List CN) (pc:List Value) (s:Ah) (ds:List Bi) (o:AQ C5) (e:Ending) (w':World):Prop:=
 ∃(k:Ah) (n:Int) (a:Ah) (n1:Int) (b:Ah) (d j:Int),e= .returned (.agg #[vs k,.int .i64 n,vs a,.int .i64 n1,vs b,.int .i64 d,.int .i64 j])/\Kg g w w'/\
  (∀c st,o= .ok c st->st.bJ=none->[vs k,.int .i64 n,vs a,.int .i64 n1,vs b,.int .i64 d,.int .i64 j]=Di c)/\∃r',Gl w' g gp tl ts pc r'/\Bp s r' o/\r'.decls=ds
def Df {α:Type} (s:Ah) (o:AQ α):Nat:=match o with
 | .ok _ st=>left s st
 | .bad _ _=>0
def CC {α:Type} (s:Ah) (n:Nat) (o:AQ α):AQ C5:=o.bind λ_ st=>cond s n st
def bP (j:Nat) (c:C5):C5:=⟨c.k,c.bP+j⟩
def bx (s:Ah) {α:Type} (o:AQ α):AQ C5:=(QE s o).bind λa st=>(want s EY st).bind λ_ st=>(value s st).map λb=>⟨.less a b,0⟩
def Um (s:Ah) {α:Type} (o:AQ α):AQ C5:=o.bind λ_ st=>E4 s st
section
variable {α:Type}{s:Ah}{o:AQ α}
theorem pT (s:Ah) (st:PS):left s st<=s.length+1:=by unfold left;omega
theorem VW (o:AQ α):Df s o<=s.length+1:=by
 cases o with
 |ok a st=>exact pT s st
 |bad e p=>exact AM _
theorem mC {n:Nat}(h:o.cj Lg=true):CC s (n+1) o=(CC s n (D1 s Lg o)).map (bP 1):=by obtain⟨a,st,rfl,b,c⟩:=Gz (s:=s) h;rw[c];show cond s (n+1) st=_;rw[cond,Al b];rfl
theorem pS {r:Fh}(b:Bp s r o) (h:o.cj Lg=true):Df s (D1 s Lg o)<Df s o:=by obtain⟨a,st,rfl,c,d⟩:=Gz (s:=s) h;rw[d];exact D6 (AG.ok b) c (by decide) (by decide)
theorem pL (o:AQ C5) (j:Nat):(o.map (bP 1)).map (bP j)=o.map (bP (j+1)):=by
 cases o with
 |bad e p=>rfl
 |ok c st=>
  show AQ.ok (bP j (bP 1 c)) st=AQ.ok (bP (j+1) c) st;unfold bP;simp only[E5,FH 1 j]
theorem ln (o:AQ C5):o.map (bP 0)=o:=by cases o<;>rfl
theorem gD {n:Nat}(h:o.cj Lg=false):CC s (n+1) o=Um s (o.bind λ_ st=>AQ.ok () st):=by
 cases o with
 |bad e p=>rfl
 |ok a st=>
  have b:¬st.t.kind=Lg:=by simpa[AQ.cj]using h
  show cond s (n+1) st=_;rw[cond,Ai b];rfl
theorem gO (h:o.cj Fb=true):Um s o=(Tf s false (D1 s Fb o)).map λn=>⟨.full n,0⟩:=by obtain⟨a,st,rfl,b,c⟩:=Gz (s:=s) h;rw[c];show E4 s st=_;unfold E4;rw[Al b];rfl
theorem di (h:o.cj DN=true):Um s o=(Tf s false (D1 s DN o)).map λn=>⟨.empty n,0⟩:=by obtain⟨a,st,rfl,b,c⟩:=Gz (s:=s) h;rw[c];show E4 s st=_;unfold E4;rw[Ai (by rw[b];decide),Al b];rfl
theorem gM (h:o.cj Fa=true):Um s o=(Tf s false (D1 s Fa o)).map λn=>⟨.fC n,0⟩:=by obtain⟨a,st,rfl,b,c⟩:=Gz (s:=s) h;rw[c];show E4 s st=_;unfold E4;rw[Ai (by rw[b];decide),Ai (by rw[b];decide),Al b];rfl
theorem gN (b:o.cj Fb=false) (c:o.cj DN=false) (d:o.cj Fa=false):Um s o=bx s o:=by
 cases o with
 |bad e p=>rfl
 |ok a st=>
  have f:¬st.t.kind=Fb:=by simpa[AQ.cj]using b
  have h:¬st.t.kind=DN:=by simpa[AQ.cj]using c
  have i:¬st.t.kind=Fa:=by simpa[AQ.cj]using d
  show E4 s st=_;unfold E4;rw[Ai f,Ai h,Ai i];rfl
theorem lB {r:Fh}(h:Bp s r (QE s (BE s EY (QE s o)))):Bp s r (bx s o):=by
 unfold bx;cases c:QE s o with
 |bad e p=>rw[c]at h;exact h
 |ok a st1=>
  rw[c]at h;show Bp s r ((want s EY st1).bind _);have e:BE s EY (AQ.ok a st1)=want s EY st1:=rfl;rw[e]at h;cases d:want s EY st1 with
  |bad e p=>rw[d]at h;exact h
  |ok t b=>
   rw[d]at h;exact Bp.map (show Bp s r (value s b)from h) _
theorem vJ {c:C5}{st:PS}(h:bx s o= .ok c st):∃a st1 t d b,QE s o= .ok a st1/\BE s EY (QE s o)= .ok t d/\QE s (BE s EY (QE s o))= .ok b st/\c=⟨.less a b,0⟩:=by
 unfold bx at h;obtain⟨a,st1,f,i⟩:=AD h;obtain⟨t,d,j,k⟩:=AD i;obtain⟨b,l,m⟩:=NY k;have e:BE s EY (QE s o)= .ok t d:=by rw[f];exact j
 exact⟨a,st1,t,d,b,f,e,by rw[e];exact l,m.symm⟩
theorem jV {o2:AQ α}{b:Ra}{st:PS}{a:α}{c:PS}{r:Fh}(d:Bp s r o2) (e:o2= .ok a c) (h:QE s o2= .ok b st) (f:st.bJ=none):c.bJ=none:=by subst e;exact(Rz (AG.ok d) h).1.bJ f
theorem Vd {k:Ah}{c:AQ α}{a:α}{st1 b:PS}{t:M9}(d:c= .ok a st1) (h:BE s k c= .ok t b) (e:b.bJ=none):st1.bJ=none:=by subst d;obtain⟨_,_,rfl⟩:=BH (show want s k st1= .ok t b from h);exact e
end
theorem PK (w:World):(Go.sizeOf 153).run prog w= .ok 7 w:=by kernel_rfl
theorem SU (w:World):(isAgg 153).run prog w= .ok true w:=by kernel_rfl
theorem PB {w:World}{C:Nat}{t:TypeId}{a b c d e f i:Value}(h:AF w C t [a,b,c,d,e,f,i]):
  w.cell? ⟨C,0,none⟩=some a/\w.cell? ⟨C,1,none⟩=some b/\w.cell? ⟨C,2,none⟩=some c/\w.cell? ⟨C,3,none⟩=some d/\w.cell? ⟨C,4,none⟩=some e/\w.cell? ⟨C,5,none⟩=some f/\w.cell? ⟨C,6,none⟩=some i:=
 ⟨h.cell 0,h.cell 1,h.cell 2,h.cell 3,h.cell 4,h.cell 5,h.cell 6⟩
abbrev OQ:List Value:=[vs [],.int .i64 0,vs [],.int .i64 0,vs [],.int .i64 0,.int .i64 0]
section
variable {w w0:World}{g gp:Nat}{tl:Value}{ts:List CN}{pc:List Value}{r:Fh}{s:Ah}{α:Type}{o:AQ α}{C D:Nat}{ty:TypeId}{ds:List Value}
theorem ML.mb (h:ML w0 w g gp tl ts pc r ty C OQ D ds) (a b c d e f i:Value):
  ML w0 (((((((w.setCell ⟨C,0,none⟩ a).setCell ⟨C,1,none⟩ b).setCell ⟨C,2,none⟩ c).setCell ⟨C,3,none⟩ d).setCell ⟨C,4,none⟩ e).setCell ⟨C,5,none⟩ f).setCell ⟨C,6,none⟩ i) g gp tl ts pc r ty C [a,b,c,d,e,f,i] D ds:=
 ((((((h.bM 0 a).bM 1 b).bM 2 c).bM 3 d).bM 4 e).bM 5 f).bM 6 i
def SX (w:World) (E:Nat):Prop:=AF w E 9 [vs Fb,vs DN,vs Fa]
theorem SX.kg {w':World}{E:Nat}(h:SX w E) (a:Kg g w w') (b:AF w g 136 ds):SX w' E:=Ep a h (h.cZ b (by decide))
theorem X5 (h:Gl w g gp tl ts pc r) (hs:Bp s r o) (ht:Eb ts (ji s)) (hl:s.length<=1000) {n:Nat}(hn:Df s o<n):Calls prog 137 #[.pointer (some ⟨g,0,none⟩)] w (Aht w g gp tl ts pc s r.decls (CC s n o)):=by
 have q0:=ML.start (RH.start (ty:=153) h (by decide) OQ) OQ;have HT:=Aa ht;have jm:=VW (s:=s) o;have S:∃(j m:Nat) (P:AQ Unit) (r1:Fh),ML w ((w.alloc (.cells OQ.toArray 153)).alloc (.cells OQ.toArray 153)) g gp tl ts pc r1 153 w.heap.size OQ (w.heap.size+1) [vs [],.int .i64 0,vs [],.int .i64 0,vs [],.int .i64 0,.int .i64 (j:Int)]/\Bp s r1 P/\r1.decls=r.decls/\CC s n o=(CC s m P).map (bP j)/\Df s P<m/\Df s P<=Df s o/\j+Df s P<=Df s o:=by
  refine⟨0,n,o.bind λ_ st=>.ok () st,r,?_,hs.unit,rfl,?_,?_,?_,?_⟩
  ·simpa using q0
  ·rw[ln];cases o<;>rfl
  ·cases o<;>exact hn
  ·cases o<;>exact Ab _
  ·cases o<;>simp[Df,AQ.bind]
 have dL:=Aa S;clear q0 h hs ht S hn;unfold vs at*;go_enter func137,ntmps137;go_wp2_with fail
 go_loopg [] (Df s o) (λkk wr=>∃(j m:Nat) (P:AQ Unit) (r1:Fh),ML w wr g gp tl ts pc r1 153 w.heap.size OQ (w.heap.size+1) [vs [],.int .i64 0,vs [],.int .i64 0,vs [],.int .i64 0,.int .i64 (j:Int)]/\Bp s r1 P/\r1.decls=r.decls/\CC s n o=(CC s m P).map (bP j)/\Df s P<m/\Df s P<=kk/\j+Df s P<=Df s o)
 case atStart=>exact dL.out
 case round=>
  obtain⟨j,m,P,r1,Q,be,cu,U,hm,dN,hj⟩:=hrel;have d:=FL Q.rd be HT.out (kd:=Lg) (kr:=Lg) (by decide) (by decide) (by decide) (by decide);obtain⟨V,fP,cw,B⟩:=zq4 Q be cu U;obtain⟨m,rfl⟩:∃x,m=x+1:=⟨m-1,by omega⟩;cases b0:P.cj Lg with
  |true=>
   rw[b0]at d;have ju:=pS be b0;obtain⟨p,B0⟩:=zq2 d b0;clear d b0 Q be cu U;unfold vs at*;go_wp2_with fail;refine p.out.mono ?_;rintro e w2 ⟨rfl,bI,r2,h2,bJ,bK⟩;have q2:=V.out.call bI h2;have q3:=q2.cy 6 (.int .i64 ((j:Int)+1));have z:=λj=>q2.bO.frozen j;have d6:=q2.bO.cell 6;obtain⟨Q3,F⟩:=zq2 q3 (And.intro bJ bK);clear q2 q3 bI h2 bJ bK;simp at d6;go_wp2;go_roundg (Df s (D1 s Lg P))
   case measure=>omega
   case rel=>
    obtain⟨W,X⟩:=F.out;refine⟨j+1,m,_,r2,?_,W,X.trans cw.out,?_,by omega,Ab _,by omega⟩
    ·exact Q3.out
    ·rw[B.out,mC B0.out,pL]
  |false=>
   rw[b0,Gs b0]at d;obtain⟨p,B0⟩:=zq2 d b0;clear d b0 Q be cu U hm dN;unfold vs at*;go_wp2_with fail;refine p.out.mono ?_;rintro e w2 ⟨rfl,bI,r2,h2,bJ,bK⟩;have q2:=V.out.call bI h2;have Q2:=Aa (q2.alloc (.cells #[vs Fb,vs DN,vs Fa] 9));have dP:SX (w2.alloc (.cells #[vs Fb,vs DN,vs Fa] 9)) w2.heap.size:=AF.new w2 9 [vs Fb,vs DN,vs Fa];have bV:CC s n o=(Um s (P.bind λ_ st=>AQ.ok () st)).map (bP j):=by rw[B.out,gD B0.out]
   obtain⟨T,dQ,dR,dS⟩:=zq4 bV dP bJ (bK.trans cw.out);clear q2 bI h2 bJ bK bV dP B fP cw p V dL B0;generalize (P.bind λ_ st=>AQ.ok () st)=o2 at*;go_wp2;generalize w2.heap.size=E at*
   go_loopg [15] 3 (λkk fS wr=>∃(k:Nat) (K:AQ Unit) (r3:Fh),k<=3/\3-k<=kk/\fS= .int .i64 k/\ML w wr g gp tl ts pc r3 153 w.heap.size OQ (w.heap.size+1) [vs [],.int .i64 0,vs [],.int .i64 0,vs [],.int .i64 0,.int .i64 (j:Int)]/\SX wr E/\Bp s r3 K/\r3.decls=r.decls/\Um s o2=Um s K/\
    (0<k->K.cj Fb=false)/\(1<k->K.cj DN=false)/\(2<k->K.cj Fa=false))
   case atStart=>exact⟨0,o2,r2,by omega,by omega,rfl,Q2.out,dQ.out,dR.out,dS.out,rfl,by omega,by omega,by omega⟩
   case round=>
    clear Q2 dQ dR dS hj;obtain⟨k,K,r3,fT,dN,rfl,Q,hW,dU,dV,U,i0,i1,i2⟩:=hrel;obtain⟨y0,y1,y2,jE⟩:=zp4 (hW.cell 0) (hW.cell 1) (hW.cell 2) hW.lt;obtain⟨V,HW,bS,R,B⟩:=zq5 Q hW dU dV U;clear dU dV U hW;simp at y0 y1 y2;have gH:k=0\/k=1\/k=2\/k=3:=by omega
    clear fT;rcases gH with rfl|rfl|rfl|rfl
    ·have d:=FL Q.rd bS.out HT.out (kd:=Fb) (kr:=Fb) (by decide) (by decide) (by decide) (by decide);clear i0 i1 i2;clear Q;cases G:K.cj Fb with
     |true=>
      rw[G]at d;obtain⟨p,B1⟩:=zq2 d G;clear d G;unfold vs at*;go_wp2_with fail;refine p.out.mono ?_;rintro e w4 ⟨rfl,f,r4,L,i,l⟩;have q:=V.out.call f L;have M:=q.cy 0 (vs Fb);have z:=λj=>q.bO.frozen j;have d0:=q.bO.cell 0;have H:=Fx M.rd i HT.out false;rw[l]at H;obtain⟨Q5,bN⟩:=zq2 M H;clear q M f L i l H y0 y1 y2;simp at d0;unfold vs at*;go_wp2_with fail;clear z d0;refine bN.out.mono ?_;rintro e w5 ⟨v,rfl,I,N,r5,h5,u,J⟩;have A:=Q5.out.call I h5;obtain⟨e0,e1,e2,e3,e4,e5,e6⟩:=PB A.bO;obtain⟨c0,c1,c2,c3,c4,c5,c6⟩:=PB A.row;have z:=λj=>A.bO.frozen j;have y:=λj=>A.row.frozen j;have dd:¬w.heap.size=w.heap.size+1:=by omega
      have Z:=(A.cy 1 (.int .i64 v)).mb (vs Fb) (.int .i64 v) (vs []) (.int .i64 0) (vs []) (.int .i64 0) (.int .i64 j);obtain⟨Y,F⟩:=zq2 Z (And.intro N (And.intro u J));clear A Z I h5 N u J;unfold vs at*;go_wp2;refine AB (AT (cs:=[vs Fb,.int .i64 v,vs [],.int .i64 0,vs [],.int .i64 0,.int .i64 j]) UW SU PK rfl Y.out.row) rfl ?_;obtain⟨W,X,f3⟩:=F.out;rw[T.out,B.out,gO B1.out];refine⟨Fb,v,[],0,[],0,j,rfl,Y.out.kg,λc st e hw=>?_,r5,Y.out.rd,(X.map _).map _,f3.trans R.out⟩;obtain⟨c1,e1,rfl⟩:=Ju e;obtain⟨a,e2,rfl⟩:=Ju e1;rw[W a st e2 hw];simp[bP,Di,BX,Bt,IQ]
     |false=>
      rw[G,Gs G]at d;obtain⟨p,B1⟩:=zq2 d G;clear d G;unfold vs at*;go_wp2_with fail;refine p.out.mono ?_;rintro e w4 ⟨rfl,f,r4,L,i,l⟩;have q:=V.out.call f L;have O:=HW.out.kg f V.out.rd.row;obtain⟨Q4,W4,F⟩:=zq3 q O (And.intro i l);clear q f L i l O y0 y1 y2;go_wp2;go_roundg 2
      case measure=>omega
      case rel=>
       obtain⟨W,X⟩:=F.out;refine⟨1,_,r4,by omega,by omega,rfl,Q4.out,W4.out,W,X.trans R.out,?_,λ_=>(LZ (o:=K)).trans B1.out,by omega,by omega⟩;rw[B.out];cases K<;>rfl
    ·have d:=FL Q.rd bS.out HT.out (kd:=DN) (kr:=DN) (by decide) (by decide) (by decide) (by decide);have I0:=Aa (i0 (by omega));clear i0 i1 i2;clear Q;cases G:K.cj DN with
     |true=>
      rw[G]at d;obtain⟨p,B1⟩:=zq2 d G;clear d G;unfold vs at*;go_wp2_with fail;refine p.out.mono ?_;rintro e w4 ⟨rfl,f,r4,L,i,l⟩;have q:=V.out.call f L;have M:=q.cy 0 (vs DN);have z:=λj=>q.bO.frozen j;have d0:=q.bO.cell 0;have H:=Fx M.rd i HT.out false;rw[l]at H;obtain⟨Q5,bN⟩:=zq2 M H;clear q M f L i l H y0 y1 y2;simp at d0;unfold vs at*;go_wp2_with fail;clear z d0;refine bN.out.mono ?_;rintro e w5 ⟨v,rfl,I,N,r5,h5,u,J⟩;have A:=Q5.out.call I h5;obtain⟨e0,e1,e2,e3,e4,e5,e6⟩:=PB A.bO;obtain⟨c0,c1,c2,c3,c4,c5,c6⟩:=PB A.row;have z:=λj=>A.bO.frozen j;have y:=λj=>A.row.frozen j;have dd:¬w.heap.size=w.heap.size+1:=by omega
      have Z:=(A.cy 1 (.int .i64 v)).mb (vs DN) (.int .i64 v) (vs []) (.int .i64 0) (vs []) (.int .i64 0) (.int .i64 j);obtain⟨Y,F⟩:=zq2 Z (And.intro N (And.intro u J));clear A Z I h5 N u J;unfold vs at*;go_wp2;refine AB (AT (cs:=[vs DN,.int .i64 v,vs [],.int .i64 0,vs [],.int .i64 0,.int .i64 j]) UW SU PK rfl Y.out.row) rfl ?_;obtain⟨W,X,f3⟩:=F.out;rw[T.out,B.out,di B1.out];refine⟨DN,v,[],0,[],0,j,rfl,Y.out.kg,λc st e hw=>?_,r5,Y.out.rd,(X.map _).map _,f3.trans R.out⟩;obtain⟨c1,e1,rfl⟩:=Ju e;obtain⟨a,e2,rfl⟩:=Ju e1;rw[W a st e2 hw];simp[bP,Di,BX,Bt,IQ]
     |false=>
      rw[G,Gs G]at d;obtain⟨p,B1⟩:=zq2 d G;clear d G;unfold vs at*;go_wp2_with fail;refine p.out.mono ?_;rintro e w4 ⟨rfl,f,r4,L,i,l⟩;have q:=V.out.call f L;have O:=HW.out.kg f V.out.rd.row;obtain⟨Q4,W4,F⟩:=zq3 q O (And.intro i l);clear q f L i l O y0 y1 y2;go_wp2;go_roundg 1
      case measure=>omega
      case rel=>
       obtain⟨W,X⟩:=F.out;refine⟨2,_,r4,by omega,by omega,rfl,Q4.out,W4.out,W,X.trans R.out,?_,λ_=>(LZ (o:=K)).trans I0.out,λ_=>(LZ (o:=K)).trans B1.out,by omega⟩;rw[B.out];cases K<;>rfl
    ·have d:=FL Q.rd bS.out HT.out (kd:=Fa) (kr:=Fa) (by decide) (by decide) (by decide) (by decide);obtain⟨I0,I1⟩:=zq2 (i0 (by omega)) (i1 (by omega));clear i0 i1 i2;clear Q;cases G:K.cj Fa with
     |true=>
      rw[G]at d;obtain⟨p,B1⟩:=zq2 d G;clear d G;unfold vs at*;go_wp2_with fail;refine p.out.mono ?_;rintro e w4 ⟨rfl,f,r4,L,i,l⟩;have q:=V.out.call f L;have M:=q.cy 0 (vs Fa);have z:=λj=>q.bO.frozen j;have d0:=q.bO.cell 0;have H:=Fx M.rd i HT.out false;rw[l]at H;obtain⟨Q5,bN⟩:=zq2 M H;clear q M f L i l H y0 y1 y2;simp at d0;unfold vs at*;go_wp2_with fail;clear z d0;refine bN.out.mono ?_;rintro e w5 ⟨v,rfl,I,N,r5,h5,u,J⟩;have A:=Q5.out.call I h5;obtain⟨e0,e1,e2,e3,e4,e5,e6⟩:=PB A.bO;obtain⟨c0,c1,c2,c3,c4,c5,c6⟩:=PB A.row;have z:=λj=>A.bO.frozen j;have y:=λj=>A.row.frozen j;have dd:¬w.heap.size=w.heap.size+1:=by omega
      have Z:=(A.cy 1 (.int .i64 v)).mb (vs Fa) (.int .i64 v) (vs []) (.int .i64 0) (vs []) (.int .i64 0) (.int .i64 j);obtain⟨Y,F⟩:=zq2 Z (And.intro N (And.intro u J));clear A Z I h5 N u J;unfold vs at*;go_wp2;refine AB (AT (cs:=[vs Fa,.int .i64 v,vs [],.int .i64 0,vs [],.int .i64 0,.int .i64 j]) UW SU PK rfl Y.out.row) rfl ?_;obtain⟨W,X,f3⟩:=F.out;rw[T.out,B.out,gM B1.out];refine⟨Fa,v,[],0,[],0,j,rfl,Y.out.kg,λc st e hw=>?_,r5,Y.out.rd,(X.map _).map _,f3.trans R.out⟩;obtain⟨c1,e1,rfl⟩:=Ju e;obtain⟨a,e2,rfl⟩:=Ju e1;rw[W a st e2 hw];simp[bP,Di,BX,Bt,IQ]
     |false=>
      rw[G,Gs G]at d;obtain⟨p,B1⟩:=zq2 d G;clear d G;unfold vs at*;go_wp2_with fail;refine p.out.mono ?_;rintro e w4 ⟨rfl,f,r4,L,i,l⟩;have q:=V.out.call f L;have O:=HW.out.kg f V.out.rd.row;obtain⟨Q4,W4,F⟩:=zq3 q O (And.intro i l);clear q f L i l O y0 y1 y2;go_wp2;go_roundg 0
      case measure=>omega
      case rel=>
       obtain⟨W,X⟩:=F.out;refine⟨3,_,r4,by omega,by omega,rfl,Q4.out,W4.out,W,X.trans R.out,?_,λ_=>(LZ (o:=K)).trans I0.out,λ_=>(LZ (o:=K)).trans I1.out,λ_=>(LZ (o:=K)).trans B1.out⟩;rw[B.out];cases K<;>rfl
    ·have I0:=Aa (i0 (by omega));obtain⟨I1,I2⟩:=zq2 (i1 (by omega)) (i2 (by omega));clear i0 i1 i2 y0 y1 y2;have q:=Q.cy 0 (vs EY);have z:=λj=>Q.bO.frozen j;have d0:=Q.bO.cell 0;have N:=Vv q.rd bS.out HT.out;obtain⟨Q4,HV⟩:=zq2 q N;clear q N Q;simp at d0;unfold vs at*;go_wp2_with fail;clear z d0;refine HV.out.mono ?_;rintro e w5 ⟨k1,n1,rfl,I,N,r5,h5,u,J⟩;have M:=Q4.out.call I h5;have A:=(M.cy 2 (vs k1)).cy 3 (.int .i64 n1);have z:=λj=>M.bO.frozen j;have d2:=M.bO.cell 2;have d3:=M.bO.cell 3;have fC:=ET A.rd u HT.out (kd:=EY) (kr:=EY) (by decide) (by decide) (by decide) (by decide);obtain⟨Q6,iC,F1⟩:=zq3 A fC (And.intro N (And.intro u J));clear M A I h5 N u J fC;simp at d2 d3;unfold vs at*;go_wp2_with fail;clear z d2 d3;refine iC.out.mono ?_;rintro e w6 ⟨x,rfl,fD,_,r6,h6,dG,fE⟩;have Z:=Q6.out.call fD h6;have N:=Vv Z.rd dG HT.out;obtain⟨Y,iD,F2⟩:=zq3 Z N (And.intro dG fE);clear Z fD h6 dG fE N;unfold EG vs;go_wp2_with fail;refine iD.out.mono ?_;rintro e w7 ⟨k2,n2,rfl,fH,fJ,r7,h7,fK,fL⟩;have q8:=Y.out.call fH h7;obtain⟨e0,e1,e2,e3,e4,e5,e6⟩:=PB q8.bO;obtain⟨c0,c1,c2,c3,c4,c5,c6⟩:=PB q8.row;have z:=λj=>q8.bO.frozen j;have y:=λj=>q8.row.frozen j;have dd:¬w.heap.size=w.heap.size+1:=by omega
     have q9:=((q8.cy 4 (vs k2)).cy 5 (.int .i64 n2)).mb (vs EY) (.int .i64 0) (vs k1) (.int .i64 n1) (vs k2) (.int .i64 n2) (.int .i64 j);obtain⟨Q9,F3⟩:=zq2 q9 (And.intro fJ (And.intro fK fL));clear q8 q9 fH h7 fJ fK fL;unfold vs at*;go_wp2;refine AB (AT (cs:=[vs EY,.int .i64 0,vs k1,.int .i64 n1,vs k2,.int .i64 n2,.int .i64 j]) UW SU PK rfl Q9.out.row) rfl ?_;obtain⟨g1,g2,g3⟩:=F1.out;obtain⟨g4,g5⟩:=F2.out;obtain⟨g6,g7,g8⟩:=F3.out;rw[T.out,B.out,gN I0.out I1.out I2.out];refine⟨EY,0,k1,n1,k2,n2,j,rfl,Q9.out.kg,λc st e hw=>?_,r7,Q9.out.rd,(lB g7).map _,g8.trans (g5.trans (g3.trans R.out))⟩;obtain⟨c1,e1,rfl⟩:=Ju e;obtain⟨a,st1,t,lY,b,u1,u2,u3,rfl⟩:=vJ e1;have w2:=jV g4 u2 u3 hw;have w1:=Vd u1 u2 w2;have x1:=g1 a st1 u1 w1;have x2:=g6 b st u3 hw;show [vs EY,Value.int .i64 0]++[vs k1,.int .i64 n1]++[vs k2,.int .i64 n2]++[.int .i64 (j:Int)]=_;rw[x1,x2];simp[bP,Di,BX,Bt,IQ]
end
def Aog (cs:List Value):Prop:=∃(k:Ah) (n m:Int) (t:Bool) (a:Ah) (b:Int) (c:Ah) (n1:Int) (d:Ah) (e j:Int) (f:Option Addr) (l1 h:Nat) (i:Option Addr) (l2 c2:Nat) (o:Bool),
 cs=[vs k,.int .i64 n,.int .i64 m,.bool t,vs a,.int .i64 b,vs c,.int .i64 n1,vs d,.int .i64 e,.int .i64 j,.slice f l1 h,.slice i l2 c2,.bool o]
def S0 (w:World) (g gp:Nat) (tl:Value) (ts:List CN) (pc:List Value) (s:Ah) (a:List Bi) (o:AQ Az) (e:Ending) (w':World):Prop:=
 ∃cs,e= .returned (.agg cs.toArray)/\Aog cs/\Kg g w w'/\(∀x st,o= .ok x st->st.bJ=none->AN (λk=>w.heap.size<=k) w' x cs)/\∃r',Gl w' g gp tl ts pc r'/\Bp s r' o/\r'.decls=a
def zE (w:World) (g gp:Nat) (tl:Value) (ts:List CN) (pc:List Value) (s:Ah) (d:List Bi) (o:AQ Az) (e:Ending) (w':World):Prop:=
 ∃a n c,e= .returned (.slice a n c)/\Kg g w w'/\(∀b st,o= .ok b st->st.bJ=none->Ct (λk=>w.heap.size<=k) w' (.slice a n c) b)/\∃r',Gl w' g gp tl ts pc r'/\Bp s r' o/\r'.decls=d
def CZ {α:Type} (s:Ah) (n:Nat) (o:AQ α):AQ Az:=o.bind λ_ st=>block s n st
def KJ {α:Type} (s:Ah) (n:Nat) (o:AQ α):AQ Az:=o.bind λ_ st=>FA s n st
def ii (g gp:Nat) (tl:Value) (ts:List CN) (pc:List Value) (s:Ah) (n:Nat):Prop:=
 ∀(st:PS) (w:World) (r:Fh),Gl w g gp tl ts pc r->AG s r st->st.depth<=8->st.loops<=2->2*left s st+1<=n->
  Calls prog 122 #[.pointer (some ⟨g,0,none⟩)] w (S0 w g gp tl ts pc s r.decls (stmt s n st))
def Te (g gp:Nat) (tl:Value) (ts:List CN) (pc:List Value) (s:Ah) (n:Nat):Prop:=
 ∀(o:AQ Unit) (w:World) (r:Fh),Gl w g gp tl ts pc r->Bp s r o->(∀st,o= .ok () st->st.depth<=8/\st.loops<=2/\2*left s st+1<=n)->
  Calls prog 88 #[.pointer (some ⟨g,0,none⟩)] w (zE w g gp tl ts pc s r.decls (CZ s n o))
def Nz (o:AQ Unit):AQ Unit:=o.bind λ_ st=>if st.t.kind=Cx/\st.depth=8 then fail SG st else .ok () st
def nG {α:Type} (o:AQ α):AQ Unit:=o.bind λ_ st=>.ok () {st with depth:=st.depth+1}
def zW8 {α:Type} (o:AQ α):AQ Unit:=o.bind λ_ st=>.ok () {st with depth:=st.depth-1}
theorem SO:∀(b:Az),b.app .nil=b
 | .nil=>rfl
 | .bN p r=>by simp[Az.app,SO r]
 | .ite c t o e r=>by simp[Az.app,SO r]
 | .rep n c b r=>by simp[Az.app,SO r]
theorem Oj:∀(a b c:Az),(a.app b).app c=a.app (b.app c)
 | .nil,_,_=>rfl
 | .bN p r,b,c=>by simp[Az.app,Oj r]
 | .ite _ _ _ _ r,b,c=>by simp[Az.app,Oj r]
 | .rep _ _ _ r,b,c=>by simp[Az.app,Oj r]
section
variable {s:Ah}
theorem mJ (n:Nat) (o:AQ Unit):CZ s (n+1) o=(KJ s n (nG (BE s Cx (Nz o)))).bind λb st=>.ok b (next s {st with depth:=st.depth-1}):=by
 cases o with
 |bad e p=>rfl
 |ok a st=>
  show block s (n+1) st=(KJ s n (nG (BE s Cx (if st.t.kind=Cx/\st.depth=8 then fail SG st else .ok () st)))).bind _;rw[block];by_cases h:st.t.kind=Cx/\st.depth=8
  ·rw[Al h,Al h];rfl
  ·rw[Ai h,Ai h];show _=(KJ s n (nG (want s Cx st))).bind _;cases want s Cx st<;>rfl
theorem YT {o:AQ Unit}(n:Nat) (h:o.cj DC=true\/∃e p,o= .bad e p) (done:Az):
  ((KJ s (n+1) o).map λr=>done.app r).bind (λb st=>AQ.ok b (next s {st with depth:=st.depth-1}))=(zW8 (BE s DC o)).bind λ_ st=>.ok done st:=by
 rcases h with h|⟨e,p,rfl⟩
 ·obtain⟨a,st,rfl,c⟩:=AQ.iw h;have e1:KJ s (n+1) (AQ.ok a st)= .ok .nil st:=by show FA s (n+1) st=_;rw[FA,Al c]
  have d:BE s DC (AQ.ok a st)= .ok st.t (next s st):=by show want s DC st=_;unfold want;rw[Al c]
  rw[e1,d];show AQ.ok (done.app .nil) _=_;rw[SO];rfl
 ·rfl
theorem TZ {o:AQ Unit}{st:PS}(n:Nat) (h:o.cj DC=false) (c:o= .ok () st) (done:Az):
  (KJ s (n+1) o).map (λr=>done.app r)=match stmt s n st with
   | .ok x a=>(KJ s n (AQ.ok () a)).map λr=>(done.app x).app r
   | .bad e p=>.bad e p:=by
 subst c;have d:¬st.t.kind=DC:=by simpa[AQ.cj]using h
 have e1:KJ s (n+1) (AQ.ok () st)=(stmt s n st).bind λx st=>(FA s n st).map λr=>x.app r:=by show FA s (n+1) st=_;rw[FA,Ai d]
 rw[e1];cases f:stmt s n st with
 |bad e p=>rfl
 |ok x a=>
  show((FA s n a).map λr=>x.app r).map _=(FA s n a).map _;cases FA s n a with
  |bad e p=>rfl
  |ok r b=>show AQ.ok (done.app (x.app r)) b=AQ.ok ((done.app x).app r) b;rw[Oj]
end
theorem j9 {s:Ah}(n:Nat) (st:PS) {c:PS}:stmt s n st≠.ok .nil c:=by
 intro h;cases n with
 |zero=>cases h
 |succ n=>
  have b:∀{p:D4} {st1:PS},((want s AP st1).bind λ_ st=>AQ.ok (Az.bN p .nil) st)≠.ok .nil c:=by intro p st1 e;obtain⟨_,_,_,f⟩:=AD e;cases f
  rw[stmt]at h;by_cases a:st.t.kind=KP
  ·rw[Al a]at h;obtain⟨_,_,_,e⟩:=AD h;exact b e
  rw[Ai a]at h;by_cases a:st.t.kind=Et
  ·rw[Al a]at h;obtain⟨_,_,_,e⟩:=AD h;exact b e
  rw[Ai a]at h;by_cases a:st.t.kind=Io
  ·rw[Al a]at h;obtain⟨_,_,_,e⟩:=AD h;exact b e
  rw[Ai a]at h;by_cases a:st.t.kind=Dq
  ·rw[Al a]at h;obtain⟨_,_,_,e⟩:=AD h;obtain⟨_,_,_,e⟩:=AD e;exact b e
  rw[Ai a]at h;by_cases a:st.t.kind=Mo
  ·rw[Al a]at h;obtain⟨_,_,_,e⟩:=AD h;exact b e
  rw[Ai a]at h;by_cases a:st.t.kind=Mq
  ·rw[Al a]at h;obtain⟨_,_,_,e⟩:=AD h;exact b e
  rw[Ai a]at h;by_cases a:st.t.kind=Ja
  ·rw[Al a]at h;exact b h
  rw[Ai a]at h;by_cases a:st.t.kind=Jb
  ·rw[Al a]at h;exact b h
  rw[Ai a]at h;by_cases a:st.t.kind=Jk
  ·rw[Al a]at h;obtain⟨_,_,_,e⟩:=AD h;obtain⟨_,st1,_,e⟩:=AD e;by_cases d:st1.t.kind=Dn
   ·rw[Al d]at e;obtain⟨_,_,_,e⟩:=AD e;cases e
   ·rw[Ai d]at e;cases e
  rw[Ai a]at h;by_cases a:st.t.kind=Bf
  ·rw[Al a]at h;by_cases d:st.loops=2
   ·rw[Al d]at h;cases h
   ·rw[Ai d]at h;obtain⟨_,_,_,e⟩:=AD h;obtain⟨_,_,_,e⟩:=AD e;obtain⟨_,_,_,e⟩:=AD e;obtain⟨_,_,_,e⟩:=AD e;cases e
  rw[Ai a]at h;cases h
theorem Sl.qS (S:Nat->Prop) (w:World) (e:TypeId) (size:Nat):Sl S w e size (.slice none 0 0) 0 []:=⟨Cn _ _ _ _,λg a=>by cases a⟩
theorem lL:(prog.info? 155).map (λi=>(i.zero,i.size,i.bytes))=
  some (some (.agg #[vs [],.int .i64 0,.int .i64 0,.bool false,vs [],.int .i64 0,vs [],.int .i64 0,vs [],.int .i64 0,.int .i64 0,.slice none 0 0,.slice none 0 0,.bool false]),14,176):=by kernel_rfl
structure zD (g gp:Nat) (tl:Value) (ts:List CN) (pc:List Value) (s:Ah) (ds:List Bi) (w wr:World) (n:Nat) (o0:AQ Unit) (kk:Nat) (m:Nat) (o1:AQ Unit) (r1:Fh) (done:Az) (j:Nat) (cs:List Value) (a:Option Addr) (c:Nat):Prop where
 kg:Kg g w wr
 rd:Gl wr g gp tl ts pc r1
 fR:Bp s r1 o1
 decls:r1.decls=ds
 eq:KJ s n o0=(KJ s (m+1) o1).map (λr=>done.app r)
 fuel:∀st,o1= .ok () st->2*left s st+1<=m/\st.depth<=8/\st.loops<=2/\1<=st.depth
 mn:∀st,o1= .ok () st->m<n
 ghost:Df s o1<=kk
 len:j+Df s o1<=1002
 sl:Sl (λb=>w.heap.size<=b) wr 155 14 (.slice a j c) j cs
 nz:∀st,o1= .ok () st->st.bJ=none->done.length=j/\AN (λb=>w.heap.size<=b/\(Value.slice a j c).ownBlock≠some b) wr done cs
theorem MG:∀(b r:Az),(b.app r).length=b.length+r.length
 | .nil,r=>by simp[Az.app,Az.length]
 | .bN p x,r=>by simp only[Az.app,Az.length,MG x r];omega
 | .ite c t o e x,r=>by simp only[Az.app,Az.length,MG x r];omega
 | .rep n c b x,r=>by simp only[Az.app,Az.length,MG x r];omega
theorem zD.drewN {g gp:Nat}{tl:Value}{ts:List CN}{pc:List Value}{s:Ah}{b:List Bi}{w wr:World}{n:Nat}{d:AQ Unit}{f m:Nat}{i:AQ Unit}{r1:Fh}{done:Az}{j:Nat}{cs:List Value}{a:Option Addr}{c:Nat}
  (h:zD g gp tl ts pc s b w wr n d f m i r1 done j cs a c) (q:Nat):zD g gp tl ts pc s b w (wr.drewN q) n d f m i r1 done j cs a c:=
 ⟨h.kg.drewN q,h.rd.drewN q,h.fR,h.decls,h.eq,h.fuel,h.mn,h.ghost,h.len,h.sl.of_heap rfl,λst e k=>⟨(h.nz st e k).1,AN.kept (w:=wr) (w':=wr.drewN q) (λ_ _ _ _=>rfl) _ _ (h.nz st e k).2⟩⟩
section
variable {w:World}{g gp:Nat}{tl:Value}{ts:List CN}{pc:List Value}{r:Fh}{s:Ah}
theorem zD.step {ds:List Bi}{wr K W w3:World}{n:Nat}{o0:AQ Unit}{kk m:Nat}{r1 E:Fh}{done:Az}{j:Nat}{cs L:List Value}{a:Option Addr}{c:Nat}{st:PS}
  (h:zD g gp tl ts pc s ds w wr n o0 kk (m+1) (.ok () st) r1 done j cs a c) (hc:(AQ.ok () st:AQ Unit).cj DC=false)
  (M:Kg g wr K) (O:Gl K g gp tl ts pc E) (C:Bp s E (stmt s (m+1) st)) (P:E.decls=ds) (bP:∀x d,stmt s (m+1) st= .ok x d->d.bJ=none->AN (λk=>wr.heap.size<=k) K x L)
  (hL:L.length=14) (q:Ac (λb=>K.heap.size<=b) K W) (cw:K.heap.size<=W.heap.size) {g2 c2:Nat} (Q:Sl (λb=>w.heap.size<=b) w3 155 14 (.slice (some ⟨g2,0,none⟩) (j+1) c2) (j+1) (cs++L))
  (y:Ac (λb=>(Value.slice a j c).ownBlock=some b\/W.heap.size<=b) W w3) (R:(Value.slice a j c).ownBlock=some g2\/g2=W.heap.size):
  Df s ((stmt s (m+1) st).bind λ_ st=>AQ.ok () st)<Df s (AQ.ok () st:AQ Unit)/\∃G,zD g gp tl ts pc s ds w w3 n o0 (Df s ((stmt s (m+1) st).bind λ_ st=>AQ.ok () st)) m ((stmt s (m+1) st).bind λ_ st=>AQ.ok () st) E G (j+1) (cs++L) (some ⟨g2,0,none⟩) c2:=by
 obtain⟨hf,S,T,bR⟩:=h.fuel st rfl;have U:0<left s st:=Pi (AG.ok h.fR);have z:∀b,(Value.slice a j c).ownBlock=some b->w.heap.size<=b/\b<wr.heap.size/\b≠g:=λb l=>⟨h.sl.2 b l,h.sl.lt l,λe=>h.sl.bK h.rd.row (by decide) (e▸l)⟩;have k0:Kg g w W:=Kg.trans (Kg.trans h.kg M) (q.mono (λb l=>.inr l));have k3:Kg g w w3:=Ac.trans k0 (y.mono (λb l=>.inr (l.elim (λe=>(z b e).1) (λe=>Ad k0.size e))));have f:Gl W g gp tl ts pc E:=O.kg (q.mono (λb l=>.inr l)) (q.block g (by have:=O.row.lt;omega));have V:Gl w3 g gp tl ts pc E:=by
  obtain⟨N,X⟩:=f.ji;obtain⟨N',vd,e1,H⟩:=f.decls;have A:∀{t:TypeId} {cs:List Value} {n:Nat},AF W n t cs->t≠155->¬((Value.slice a j c).ownBlock=some n\/W.heap.size<=n):=by
   intro t u n B X D;rcases D with D|D
   ·have h1:=(h.sl.kept M (λb l D=>D.elim (λe=>(z b l).2.2 e) (λe=>by have:=(z b l).2.1;omega))).kept q (λb l D=>by have:=(z b l).2.1;have:=M.size;omega);exact h1.bK B (λe=>X e.symm) D
   ·have:=B.lt;omega
  have Y:∀{t:TypeId} {size n:Nat} {v:Value} {xs:List Value} {N:Nat->Prop},Sl N W t size v n xs->t≠155->Sl N w3 t size v n xs:=by intro t size n v xs N hs X;exact hs.kept y (λb l=>by obtain⟨u,B⟩:=hs.row l;exact A B X)
  exact⟨f.row.kept y (A f.row (by decide)),⟨N,Y X (by decide)⟩,f.tl,f.bQ.kept y (A f.bQ (by decide)),⟨N',vd,e1,Y H (by decide)⟩,f.dl⟩
 cases I:stmt s (m+1) st with
 |bad e p=>
  rw[I]at C;refine⟨U,done,k3,V,C,P,?_,(by intro d H;cases H),(by intro d H;cases H),Ab _,?_,Q,(by intro d H;cases H)⟩
  ·rw[h.eq,TZ (m+1) hc rfl,I];rfl
  ·have h7:=h.len;show j+1+0<=1002;have:Df s (AQ.ok () st:AQ Unit)=left s st:=rfl;omega
 |ok x d=>
  rw[I]at C;have i:=YU (AG.ok h.fR) S T I;have bS:left s d<left s st:=by
   have:=i.size;have hp:0<x.size:=by
    cases x with
    |nil=>exact absurd I (j9 _ _)
    |bN p r=>simp only[Az.size];omega
    |ite c t o e r=>simp only[Az.size];omega
    |rep n c b r=>simp only[Az.size];omega
   omega
  refine⟨bS,done.app x,k3,V,C,P,?_,?_,λZ _=>by have:=h.mn st rfl;omega,Ab _,?_,Q,?_⟩
  ·rw[h.eq,TZ (m+1) hc rfl,I];rfl
  ·intro Z J;injection J with _ J;subst J;refine⟨by omega,by rw[i.fwd.depth];exact S,by rw[i.fwd.loops];exact T,by rw[i.fwd.depth];exact bR⟩
  ·have h7:=h.len;have e1:Df s (AQ.ok () st:AQ Unit)=left s st:=rfl;show j+1+left s d<=1002;omega
  ·intro Z J hw;injection J with _ J;subst J;obtain⟨b1,b2⟩:=h.nz st rfl (i.fwd.bJ hw);have be:=bP x d I hw;have bT:x.length=1:=by have:=AN.len x L be;omega
   refine⟨by rw[MG,b1,bT],?_⟩;have bI:∀k u,(w.heap.size<=k/\(Value.slice a j c).ownBlock≠some k/\k<W.heap.size)->AF W k 155 u->w3.heap[k]?=W.heap[k]?:=λk u F B=>y.block k (λD=>D.elim F.2.1 (λh2=>by omega));have bL:∀k,k<w3.heap.size->(w.heap.size<=k/\(Value.slice a j c).ownBlock≠some k/\k<W.heap.size)->(w.heap.size<=k/\(Value.slice (some ⟨g2,0,none⟩) (j+1) c2).ownBlock≠some k):=λk _ F=>⟨F.1,λe=>by
    injection e with e;simp only at e;subst e;rcases R with h1|h1
    ·exact F.2.1 h1
    ·omega⟩
   have dd:=M.size;have dF:=h.kg.size;have p1:=AN.mono (N':=λk=>w.heap.size<=k/\(Value.slice a j c).ownBlock≠some k/\k<W.heap.size) (λk F hN=>⟨hN.1,hN.2,by omega⟩) _ _ b2;have p2:=AN.kept (w':=W) (λk u F B=>(q.block k (by have:=B.lt;omega)).trans (In M B.lt (B.cZ h.rd.row (by decide)))) _ _ p1;have p3:=AN.mono bL _ _ (AN.kept bI _ _ p2);have r1:=AN.mono (N':=λk=>w.heap.size<=k/\(Value.slice a j c).ownBlock≠some k/\k<W.heap.size) (λk F hN=>⟨by omega,λe=>by have:=(z k e).2.1;omega,by omega⟩) _ _ be;have E:=AN.kept (w':=W) (λk u F B=>q.block k (by have:=B.lt;omega)) _ _ r1;have r3:=AN.mono bL _ _ (AN.kept bI _ _ E);exact AN.app _ _ _ _ p3 r3
end
theorem Hy (w:World):(Go.sizeOf 155).run prog w= .ok 14 w:=by kernel_rfl
theorem JO (w:World):(isAgg 155).run prog w= .ok true w:=by kernel_rfl
theorem CS {w:World}{C:Nat}{t:TypeId}{e f i j k l m n o p a b c d:Value}(h:AF w C t [e,f,i,j,k,l,m,n,o,p,a,b,c,d]):
  w.cell? ⟨C,0,none⟩=some e/\w.cell? ⟨C,1,none⟩=some f/\w.cell? ⟨C,2,none⟩=some i/\w.cell? ⟨C,3,none⟩=some j/\w.cell? ⟨C,4,none⟩=some k/\w.cell? ⟨C,5,none⟩=some l/\w.cell? ⟨C,6,none⟩=some m/\
  w.cell? ⟨C,7,none⟩=some n/\w.cell? ⟨C,8,none⟩=some o/\w.cell? ⟨C,9,none⟩=some p/\w.cell? ⟨C,10,none⟩=some a/\w.cell? ⟨C,11,none⟩=some b/\w.cell? ⟨C,12,none⟩=some c/\w.cell? ⟨C,13,none⟩=some d:=
 ⟨h.cell 0,h.cell 1,h.cell 2,h.cell 3,h.cell 4,h.cell 5,h.cell 6,h.cell 7,h.cell 8,h.cell 9,h.cell 10,h.cell 11,h.cell 12,h.cell 13⟩
abbrev IN:List Value:=[vs [],.int .i64 0,.int .i64 0,.bool false,vs [],.int .i64 0,vs [],.int .i64 0,vs [],.int .i64 0,.int .i64 0,.slice none 0 0,.slice none 0 0,.bool false]
abbrev NC (w:World) (R:Nat) (e f h i j k l m n o a b c d:Value):World:=
 (((((((((((((w.setCell ⟨R,0,none⟩ e).setCell ⟨R,1,none⟩ f).setCell ⟨R,2,none⟩ h).setCell ⟨R,3,none⟩ i).setCell ⟨R,4,none⟩ j).setCell ⟨R,5,none⟩ k).setCell ⟨R,6,none⟩ l).setCell ⟨R,7,none⟩ m).setCell ⟨R,8,none⟩ n).setCell ⟨R,9,none⟩ o).setCell ⟨R,10,none⟩ a).setCell ⟨R,11,none⟩ b).setCell ⟨R,12,none⟩ c).setCell ⟨R,13,none⟩ d
abbrev Fh.nx (r:Fh):Fh:={r with k:=r.k+1}
def CA {α:Type} (o:AQ α):AQ Unit:=o.bind λ_ st=>.ok () st
theorem Bp.fS {α β:Type}{s:Ah}{r:Fh}{o:AQ α}{o':AQ β}(h:Bp s r o) (e:CA o'=CA o):Bp s r o':=by
 cases o with
 |bad k p=>
  cases o' with
  |bad c d=>injection e with e1 b;subst e1 b;exact h
  |ok a st=>cases e
 |ok a st=>
  cases o' with
  |bad c d=>cases e
  |ok f st'=>injection e with _ b;subst b;exact h
theorem aw {α:Type}(s k:Ah) (a:α) (st:PS):(take s k st).1=(AQ.ok a st).cj k:=by
 unfold take AQ.cj;by_cases h:st.t.kind=k
 ·rw[Al h];simp[h]
 ·rw[Ai h];simp[h]
theorem Vl (s k:Ah) (st:PS):(take s k st).2.bJ=st.bJ:=by unfold take;split<;>rfl
section
variable {w w0:World}{g gp:Nat}{tl:Value}{ts:List CN}{pc:List Value}{r:Fh}{s:Ah}{st:PS}{C D:Nat}{ty:TypeId}{ds:List Value}
theorem RH.dJ (a:Kg g w0 w) (h:Gl w g gp tl ts pc r) (c:mY ty) (cs:List Value) (b:C=w.heap.size):RH w0 (w.alloc (.cells cs.toArray ty)) g gp tl ts pc r ty C cs:=
 ⟨a.alloc (.inr a.size) _,h.alloc _,by rw[b];exact AF.new w ty cs,by rw[b];exact a.size,c⟩
theorem ML.dJ {cs:List Value}(h:RH w0 w g gp tl ts pc r ty C cs) (ds:List Value) (a:D=w.heap.size):ML w0 (w.alloc (.cells ds.toArray ty)) g gp tl ts pc r ty C cs D ds:=
 ⟨h.alloc _,by rw[a];exact AF.new w ty ds,by rw[a];exact h.kg.size,by have:=h.row.lt;omega⟩
theorem ML.fJ (h:ML w0 w g gp tl ts pc r ty C IN D ds) (e f i j k l m n o p a b c d:Value):
  ML w0 (NC w C e f i j k l m n o p a b c d) g gp tl ts pc r ty C [e,f,i,j,k,l,m,n,o,p,a,b,c,d] D ds:=
 (((((((((((((h.bM 0 e).bM 1 f).bM 2 i).bM 3 j).bM 4 k).bM 5 l).bM 6 m).bM 7 n).bM 8 o).bM 9 p).bM 10 a).bM 11 b).bM 12 c).bM 13 d
theorem oK {α β:Type}(s:Ah) (o:AQ α) {G:β}:CA (o.bind λ_ st=>.ok G st)=CA o:=by cases o<;>rfl
theorem zW0 {α β:Type}(s:Ah) (o:AQ α) {G:α->β}:CA (o.bind λq st=>(want s AP st).bind λ_ a=>.ok (G q) a)=CA (BE s AP o):=by
 cases o with
 |bad e p=>rfl
 |ok q st=>exact oK s (want s AP st)
def ML.iz {e f i j k l m n o p a b c d:Value} (h:ML w0 w g gp tl ts pc r ty C IN D [e,f,i,j,k,l,m,n,o,p,a,b,c,d]):=
 h.fJ e f i j k l m n o p a b c d
theorem kx (h:Gl w g gp tl ts pc r) (Q:AG s r st) (ht:Eb ts (ji s)) (R:st.t.kind=KP):
  Calls prog 122 #[.pointer (some ⟨g,0,none⟩)] w (S0 w g gp tl ts pc s r.decls ((name s false (next s st)).bind λq st=>(want s AP (take s CJ st).2).bind λ_ bM=>.ok (.bN (.put q (take s CJ st).1) .nil) bM)):=by
 obtain⟨x,hx,n⟩:=AG.tok Q ht;obtain⟨gt,ct,rfl,h1,h2,h3,h4,h5,t0,t1,t2⟩:=h.at_ hx;have o:x.is=KP:=by rw[n.1,R];decide
 rw[o]at t0;obtain⟨c0,c1,_⟩:=h.cells;have dI:=h.row.lt;have ff:=λj=>h.row.frozen j;have h8:=h.tl;have dK:r.k<ts.length:=h3;unfold maxLen at h2;have u:Kg g w (w.setCell ⟨g,1,none⟩ (.int .i64 ((r.k:Int)+1))):=(Ac.refl _ w).setCell (p:=⟨g,1,none⟩) (.inl rfl) _;have q1:=(ML.dJ (D:=w.heap.size+1) (RH.dJ (C:=w.heap.size) (ty:=155) u (h.put 1 (.int .i64 ((r.k:Int)+1)) (r':=r.nx) rfl rfl) (by decide) IN (by simp)) [vs KP,.int .i64 0,.int .i64 0,.bool false,vs [],.int .i64 0,vs [],.int .i64 0,vs [],.int .i64 0,.int .i64 0,.slice none 0 0,.slice none 0 0,.bool false] (by simp)).drewN 1;have v:Bp s r.nx (AQ.ok () (next s st)):=AG.next Q (by rw[R];decide) (by rw[R];decide);have A:(next s st).Ok s:=Ce (AG.ok Q);obtain⟨HT,dL⟩:=zq2 ht A;have B:=Fx q1.rd v HT.out false;obtain⟨bR,Q1⟩:=zq2 B q1;generalize bS:r.k=kq at*;generalize bT:ts.length=LL at*;clear hx n Q v A o R bS bT h q1 B ht t1 t2 u;unfold vs at*;go_enter Kh,Je;go_wp2;go_region;go_wp2_with fail;refine bR.out.mono ?_;rintro e w1 ⟨v1,rfl,E,F,r1,G,H,I⟩;have bU:=Aa F;clear F;have S:=Q1.out.call E G;obtain⟨T,e1,U,V,W,X,Y,Z,e8,e9,a,b,c,d⟩:=CS S.bO;have z:=λj=>S.bO.frozen j;have q2:=S.cy 1 (.int .i64 v1);have i:=FL q2.rd H HT.out (kd:=CJ) (kr:=CJ) (by decide) (by decide) (by decide) (by decide);rw[I]at i;obtain⟨bW,Q2⟩:=zq2 i q2;clear q2 i E G H I S;unfold vs at*;go_wp2_with fail;clear T e1 U V W X Y Z e8 e9 a b c d z;refine bW.out.mono ?_;rintro e w2 ⟨rfl,J,r2,K,L,f⟩;have p2:=Q2.out.call J K;obtain⟨T,e1,U,V,W,X,Y,Z,e8,e9,a,b,c,d⟩:=CS p2.bO;have z:=λj=>p2.bO.frozen j;have q3:=p2.cy 3 (.bool ((Tf s false (AQ.ok () (next s st))).cj CJ));have f:=f;have l:=ET q3.rd L HT.out (kd:=AP) (kr:=AP) (by decide) (by decide) (by decide) (by decide);rw[f]at l;obtain⟨bY,Q3⟩:=zq2 l q3;clear q3 l J K L f p2;unfold vs at*;go_wp2_with fail;clear T e1 U V W X Y Z e8 e9 a b c d z;refine bY.out.mono ?_;rintro e w3 ⟨x9,rfl,M,_,r3,N,O,P⟩;have m:=Q3.out.call M N;obtain⟨T,e1,U,V,W,X,Y,Z,e8,e9,a,b,c,d⟩:=CS m.bO;have z:=λj=>m.bO.frozen j;obtain⟨f0,f1,f2,f3,f4,f5,f6,f7,f8,f9,dU,dV,dW,dX⟩:=CS m.row;have y:=λj=>m.row.frozen j;have fc:¬w.heap.size=w.heap.size+1:=by omega
 have q9:=m.iz;obtain⟨Q9,zW16,FD⟩:=zq3 q9 O P;clear m q9 M N O P;unfold EG vs at*;go_wp2;refine AB (AT (cs:=[_,_,_,_,_,_,_,_,_,_,_,_,_,_]) Fs JO Hy rfl Q9.out.row) rfl ?_;refine⟨_,rfl,⟨_,_,_,_,_,_,_,_,_,_,_,_,_,_,_,_,_,_,rfl⟩,Q9.out.kg,λx9 fy e hw=>?_,r3,Q9.out.rd,?_,FD.out⟩
 ·obtain⟨q,st1,u1,u2⟩:=AD e;obtain⟨t9,fC,u3,u4⟩:=AD u2;injection u4 with u4 u5;subst u4 u5;have cu:st1.bJ=none:=by rw[(BH u3).2.2]at hw;exact(Vl s CJ st1).symm.trans hw
  rw[bU.out q st1 u1 cu,aw s CJ q st1,show Tf s false (AQ.ok () (next s st))= .ok q st1 from u1];exact⟨[],by simp[BZ,CR,Hc,He,C3,Dw,A6],rfl⟩
 ·refine zW16.out.fS ?_;show CA ((name s false (next s st)).bind _)=CA (BE s AP (D1 s CJ (name s false (next s st))));cases name s false (next s st)with
  |bad e p=>rfl
  |ok q st1=>
   show CA ((want s AP (take s CJ st1).2).bind _)=CA (want s AP (take s CJ st1).2);cases want s AP (take s CJ st1).2<;>rfl
theorem aK (h:Gl w g gp tl ts pc r) (hs:AG s r st) (ht:Eb ts (ji s)) (hk:st.t.kind=Dq):
  Calls prog 122 #[.pointer (some ⟨g,0,none⟩)] w (S0 w g gp tl ts pc s r.decls ((name s false (next s st)).bind λq st=>(name s false st).bind λp st=>(want s AP (take s CJ st).2).bind λ_ ci=>.ok (.bN (.shift q p (take s CJ st).1) .nil) ci)):=by
 obtain⟨x,hx,L⟩:=AG.tok hs ht;obtain⟨gt,ct,rfl,h1,h2,h3,h4,h5,t0,t1,t2⟩:=h.at_ hx;have M:x.is=Dq:=by rw[L.1,hk];decide
 rw[M]at t0;obtain⟨c0,c1,_⟩:=h.cells;have fx:=h.row.lt;have ff:=λj=>h.row.frozen j;have h8:=h.tl;have fy:r.k<ts.length:=h3;unfold maxLen at h2;have N:Kg g w (w.setCell ⟨g,1,none⟩ (.int .i64 ((r.k:Int)+1))):=(Ac.refl _ w).setCell (p:=⟨g,1,none⟩) (.inl rfl) _;have q1:=(ML.dJ (D:=w.heap.size+1) (RH.dJ (C:=w.heap.size) (ty:=155) N (h.put 1 (.int .i64 ((r.k:Int)+1)) (r':=r.nx) rfl rfl) (by decide) IN (by simp)) [vs Dq,.int .i64 0,.int .i64 0,.bool false,vs [],.int .i64 0,vs [],.int .i64 0,vs [],.int .i64 0,.int .i64 0,.slice none 0 0,.slice none 0 0,.bool false] (by simp)).drewN 1;have O:Bp s r.nx (AQ.ok () (next s st)):=AG.next hs (by rw[hk];decide) (by rw[hk];decide);have P:(next s st).Ok s:=Ce (AG.ok hs);obtain⟨HT,cw⟩:=zq2 ht P;have Q:=Fx q1.rd O HT.out false;obtain⟨cz,Q1⟩:=zq2 Q q1;generalize cB:r.k=kq at*;generalize cZ:ts.length=LL at*;clear hx L hs O P M hk cB cZ h q1 Q ht t1 t2 N;unfold vs at*;go_enter Kh,Je;go_wp2;go_region;go_wp2_with fail;refine cz.out.mono ?_;rintro e w1 ⟨v1,rfl,R,S,r1,T,U,V⟩;have da:=Aa S;clear S;have p1:=Q1.out.call R T;obtain⟨A,e1,i,B,E,F,G,H,I,J,b,c,d,f⟩:=CS p1.bO;have z:=λj=>p1.bO.frozen j;have n:=p1.cy 1 (.int .i64 v1);have o:=Fx n.rd U HT.out false;rw[V]at o;obtain⟨dd,Q2⟩:=zq2 o n;clear n o R T U V p1;unfold vs at*;go_wp2_with fail;clear A e1 i B E F G H I J b c d f z;refine dd.out.mono ?_;rintro e w2 ⟨v2,rfl,W,X,r2,Y,Z,l⟩;have dF:=Aa X;clear X;have p2:=Q2.out.call W Y;obtain⟨A,e1,i,B,E,F,G,H,I,J,b,c,d,f⟩:=CS p2.bO;have z:=λj=>p2.bO.frozen j;have q3:=p2.cy 2 (.int .i64 v2);have l:=l;have u:=FL q3.rd Z HT.out (kd:=CJ) (kr:=CJ) (by decide) (by decide) (by decide) (by decide);rw[l]at u;obtain⟨dH,Q3⟩:=zq2 u q3;clear q3 u W Y Z l p2;unfold vs at*;go_wp2_with fail;clear A e1 i B E F G H I J b c d f z;refine dH.out.mono ?_;rintro e w3 ⟨rfl,be,r3,bI,bK,m⟩;have p3:=Q3.out.call be bI;obtain⟨A,e1,i,B,E,F,G,H,I,J,b,c,d,f⟩:=CS p3.bO;have z:=λj=>p3.bO.frozen j;have q4:=p3.cy 3 (.bool ((Tf s false (Tf s false (AQ.ok () (next s st)))).cj CJ));have m:=m;have v:=ET q4.rd bK HT.out (kd:=AP) (kr:=AP) (by decide) (by decide) (by decide) (by decide);rw[m]at v;obtain⟨dK,Q4⟩:=zq2 v q4;clear q4 v be bI bK m p3;unfold vs at*;go_wp2_with fail;clear A e1 i B E F G H I J b c d f z;refine dK.out.mono ?_;rintro e w4 ⟨x9,rfl,bL,_,r4,bM,bP,bQ⟩;have K:=Q4.out.call bL bM;obtain⟨A,e1,i,B,E,F,G,H,I,J,b,c,d,f⟩:=CS K.bO;have z:=λj=>K.bO.frozen j;obtain⟨f0,f1,f2,f3,f4,f5,f6,f7,f8,f9,fK,fL,fM,fN⟩:=CS K.row;have y:=λj=>K.row.frozen j;have fO:¬w.heap.size=w.heap.size+1:=by omega
 have q9:=K.iz;obtain⟨Q9,zW16,FD⟩:=zq3 q9 bP bQ;clear K q9 bL bM bP bQ;unfold EG vs at*;go_wp2;refine AB (AT (cs:=[_,_,_,_,_,_,_,_,_,_,_,_,_,_]) Fs JO Hy rfl Q9.out.row) rfl ?_;refine⟨_,rfl,⟨_,_,_,_,_,_,_,_,_,_,_,_,_,_,_,_,_,_,rfl⟩,Q9.out.kg,λx9 fT e hw=>?_,r4,Q9.out.rd,?_,FD.out⟩
 ·obtain⟨q,st1,u1,u2⟩:=AD e;obtain⟨n,a,u3,u4⟩:=AD u2;obtain⟨t9,gI,u5,u6⟩:=AD u4;injection u6 with u6 u7;subst u6 u7;have bR:a.bJ=none:=by rw[(BH u5).2.2]at hw;exact(Vl s CJ a).symm.trans hw
  have bS:=(E7 cw.out u1).1.ok;have dP:st1.bJ=none:=(E7 bS u3).1.bJ bR;have e1:Tf s false (AQ.ok () (next s st))= .ok q st1:=u1;have i:Tf s false (Tf s false (AQ.ok () (next s st)))= .ok n a:=by rw[e1];exact u3
  rw[da.out q st1 u1 dP,dF.out n a i bR,aw s CJ n a,i];exact⟨[],by simp[BZ,CR,Hc,He,C3,Dw,A6],rfl⟩
 ·refine zW16.out.fS ?_;show CA ((name s false (next s st)).bind _)=CA (BE s AP (D1 s CJ (Tf s false (name s false (next s st)))));cases name s false (next s st)with
  |bad e p=>rfl
  |ok q st1=>
   show CA ((name s false st1).bind _)=CA (BE s AP (D1 s CJ (name s false st1)));cases name s false st1 with
   |bad e p=>rfl
   |ok n a=>
    show CA ((want s AP (take s CJ a).2).bind _)=CA (want s AP (take s CJ a).2);cases want s AP (take s CJ a).2<;>rfl
theorem Le {K:Ah}{F:Int->D4}{b:Bool}(O:K=Et/\F= .cu/\b=false\/K=Io/\F= .dV/\b=false\/K=Mo/\F= .inc/\b=true\/K=Mq/\F= .dec/\b=true) (h:Gl w g gp tl ts pc r) (P:AG s r st) (S:Eb ts (ji s)) (Q:st.t.kind=K):
  Calls prog 122 #[.pointer (some ⟨g,0,none⟩)] w (S0 w g gp tl ts pc s r.decls ((name s b (next s st)).bind λq st=>(want s AP st).bind λ_ T=>.ok (.bN (F q) .nil) T)):=by
 obtain⟨x,hx,d⟩:=AG.tok P S;obtain⟨gt,ct,rfl,h1,h2,h3,h4,h5,t0,t1,t2⟩:=h.at_ hx;have f:x.is=K:=by rw[d.1,Q];rcases O with⟨rfl,_⟩|⟨rfl,_⟩|⟨rfl,_⟩|⟨rfl,_⟩<;>decide
 rw[f]at t0;obtain⟨c0,c1,_⟩:=h.cells;have da:=h.row.lt;have ff:=λj=>h.row.frozen j;have h8:=h.tl;have dd:r.k<ts.length:=h3;unfold maxLen at h2;have i:Kg g w (w.setCell ⟨g,1,none⟩ (.int .i64 ((r.k:Int)+1))):=(Ac.refl _ w).setCell (p:=⟨g,1,none⟩) (.inl rfl) _;have U:=(ML.dJ (D:=w.heap.size+1) (RH.dJ (C:=w.heap.size) (ty:=155) i (h.put 1 (.int .i64 ((r.k:Int)+1)) (r':=r.nx) rfl rfl) (by decide) IN (by simp)) [vs K,.int .i64 0,.int .i64 0,.bool false,vs [],.int .i64 0,vs [],.int .i64 0,vs [],.int .i64 0,.int .i64 0,.slice none 0 0,.slice none 0 0,.bool false] (by simp)).drewN 1;have l:Bp s r.nx (AQ.ok () (next s st)):=AG.next P (by rw[Q];rcases O with⟨rfl,_⟩|⟨rfl,_⟩|⟨rfl,_⟩|⟨rfl,_⟩<;>decide) (by rw[Q];rcases O with⟨rfl,_⟩|⟨rfl,_⟩|⟨rfl,_⟩|⟨rfl,_⟩<;>decide);have m:(next s st).Ok s:=Ce (AG.ok P);obtain⟨HT,dF⟩:=zq2 S m;have n:=Fx U.rd l HT.out b;obtain⟨V,Q1⟩:=zq2 n U;rcases O with⟨rfl,rfl,rfl⟩|⟨rfl,rfl,rfl⟩|⟨rfl,rfl,rfl⟩|⟨rfl,rfl,rfl⟩
 all_goals
  generalize W:r.k=kq at*;generalize X:ts.length=LL at*;clear hx d P l m f Q W X h U n S t1 t2 i;unfold vs at*;go_enter Kh,Je;go_wp2;go_region;go_wp2_with fail;refine V.out.mono ?_;rintro e w1 ⟨v1,rfl,o,u,r1,v,A,B⟩;have Y:=Aa u;clear u;have R:=Q1.out.call o v;obtain⟨e0,e1,e2,e3,e4,e5,e6,e7,e8,e9,E,G,H,I⟩:=CS R.bO;have z:=λj=>R.bO.frozen j;have Z:=R.cy 1 (.int .i64 v1);have a:=ET Z.rd A HT.out (kd:=AP) (kr:=AP) (by decide) (by decide) (by decide) (by decide);rw[B]at a;obtain⟨be,Q2⟩:=zq2 a Z;clear Z a o v A B R;unfold vs at*;go_wp2_with fail;clear e0 e1 e2 e3 e4 e5 e6 e7 e8 e9 E G H I z;refine be.out.mono ?_;rintro e w2 ⟨x9,rfl,J,_,r2,L,M,N⟩;have c:=Q2.out.call J L;obtain⟨e0,e1,e2,e3,e4,e5,e6,e7,e8,e9,E,G,H,I⟩:=CS c.bO;have z:=λj=>c.bO.frozen j;obtain⟨f0,f1,f2,f3,f4,f5,f6,f7,f8,f9,dN,dO,dP,dQ⟩:=CS c.row;have y:=λj=>c.row.frozen j;have dR:¬w.heap.size=w.heap.size+1:=by omega
  have q9:=c.iz;obtain⟨Q9,zW16,FD⟩:=zq3 q9 M N;clear c q9 J L M N;unfold EG vs at*;go_wp2;refine AB (AT (cs:=[_,_,_,_,_,_,_,_,_,_,_,_,_,_]) Fs JO Hy rfl Q9.out.row) rfl ?_;refine⟨_,rfl,⟨_,_,_,_,_,_,_,_,_,_,_,_,_,_,_,_,_,_,rfl⟩,Q9.out.kg,λx9 dW e hw=>?_,r2,Q9.out.rd,?_,FD.out⟩
  ·obtain⟨q,st1,u1,u2⟩:=AD e;obtain⟨t9,fd,u3,u4⟩:=AD u2;injection u4 with u4 u5;subst u4 u5;have bL:st1.bJ=none:=by rw[(BH u3).2.2]at hw;exact hw
   rw[Y.out q st1 u1 bL];exact⟨[],by simp[BZ,CR,Hc,He,C3,Dw,A6],rfl⟩
  ·exact zW16.out.fS (zW0 s _)
theorem T3 {K:Ah}{F:D4}(u:K=Ja/\F= .drop\/K=Jb/\F= .bump) (h:Gl w g gp tl ts pc r) (v:AG s r st) (B:Eb ts (ji s)) (A:st.t.kind=K):
  Calls prog 122 #[.pointer (some ⟨g,0,none⟩)] w (S0 w g gp tl ts pc s r.decls ((want s AP (next s st)).bind λ_ E=>.ok (.bN F .nil) E)):=by
 obtain⟨x,N,b⟩:=AG.tok v B;obtain⟨gt,ct,rfl,h1,P,Q,h4,h5,R,S,T⟩:=h.at_ N;have c:x.is=K:=by rw[b.1,A];rcases u with⟨rfl,_⟩|⟨rfl,_⟩<;>decide
 rw[c]at R;obtain⟨c0,c1,_⟩:=h.cells;have U:=h.row.lt;have ff:=λj=>h.row.frozen j;have h8:=h.tl;have V:r.k<ts.length:=Q;unfold maxLen at P;have d:Kg g w (w.setCell ⟨g,1,none⟩ (.int .i64 ((r.k:Int)+1))):=(Ac.refl _ w).setCell (p:=⟨g,1,none⟩) (.inl rfl) _;have G:=(ML.dJ (D:=w.heap.size+1) (RH.dJ (C:=w.heap.size) (ty:=155) d (h.put 1 (.int .i64 ((r.k:Int)+1)) (r':=r.nx) rfl rfl) (by decide) IN (by simp)) [vs K,.int .i64 0,.int .i64 0,.bool false,vs [],.int .i64 0,vs [],.int .i64 0,vs [],.int .i64 0,.int .i64 0,.slice none 0 0,.slice none 0 0,.bool false] (by simp)).drewN 1;have f:Bp s r.nx (AQ.ok () (next s st)):=AG.next v (by rw[A];rcases u with⟨rfl,_⟩|⟨rfl,_⟩<;>decide) (by rw[A];rcases u with⟨rfl,_⟩|⟨rfl,_⟩<;>decide);have i:(next s st).Ok s:=Ce (AG.ok v);obtain⟨W,X⟩:=zq2 B i;have l:=ET G.rd f W.out (kd:=AP) (kr:=AP) (by decide) (by decide) (by decide) (by decide);obtain⟨H,Y⟩:=zq2 l G;rcases u with⟨rfl,rfl⟩|⟨rfl,rfl⟩
 all_goals
  generalize I:r.k=kq at*;generalize J:ts.length=LL at*;clear N b v f i c A I J h G l B S T d;unfold vs at*;go_enter Kh,Je;go_wp2;go_region;go_wp2_with fail;refine H.out.mono ?_;rintro e w1 ⟨Z,rfl,m,_,r1,n,o,q⟩;have a:=Y.out.call m n;obtain⟨e0,e1,e2,e3,e4,e5,e6,e7,e8,e9,be,bI,bJ,bK⟩:=CS a.bO;have z:=λj=>a.bO.frozen j;obtain⟨f0,f1,f2,f3,f4,f5,f6,f7,f8,f9,bL,bM,bP,bQ⟩:=CS a.row;have y:=λj=>a.row.frozen j;have bR:¬w.heap.size=w.heap.size+1:=by omega
  have O:=a.iz;obtain⟨L,zW16,FD⟩:=zq3 O o q;clear a O m n o q;unfold EG vs at*;go_wp2;refine AB (AT (cs:=[_,_,_,_,_,_,_,_,_,_,_,_,_,_]) Fs JO Hy rfl L.out.row) rfl ?_;refine⟨_,rfl,⟨_,_,_,_,_,_,_,_,_,_,_,_,_,_,_,_,_,_,rfl⟩,L.out.kg,λZ bU e hw=>?_,r1,L.out.rd,?_,FD.out⟩
  ·obtain⟨t9,bV,u3,M⟩:=AD e;injection M with M u5;subst M u5;exact⟨[],by simp[BZ,CR,Hc,He,C3,Dw,A6],rfl⟩
  ·exact zW16.out.fS (oK s _)
end
structure RP (B:Nat) (w:World) (g gp:Nat) (tl:Value) (ts:List CN) (f:Int) (vr vh vm:Value) (ms:Bool) (r:Fh) (vd:Value):Prop where
 rd:Gl w g gp tl ts [vd,.int .i64 f,vr,vh,vm,.bool ms] r
 g0:B<=g
 p0:B<=gp
 sl:Sl (λb=>B<=b) w 87 3 vd r.decls.length (r.decls.flatMap FN)
 sz:B<=w.heap.size
section
variable {B:Nat}{w w':World}{g gp:Nat}{tl:Value}{ts:List CN}{f:Int}{vr vh vm:Value}{ms:Bool}{r r':Fh}{vd:Value}{s:Ah}{st:PS}
theorem RP.call (h:RP B w g gp tl ts f vr vh vm ms r vd) (a:Kg g w w') (d:Gl w' g gp tl ts [vd,.int .i64 f,vr,vh,vm,.bool ms] r') (i:r'.decls=r.decls):RP B w' g gp tl ts f vr vh vm ms r' vd:=by refine⟨d,h.g0,h.p0,?_,Ad h.sz a.size⟩;rw[i];exact h.sl.kept a (λb c j=>j.elim (λe=>h.sl.bK h.rd.row (by decide) (e▸c)) (λe=>by have:=h.sl.lt c;omega))
theorem VX {B g:Nat}{w w':World}(a:Kg g w w') (c:B<=g) (d:B<=w.heap.size):Ac (λb=>B<=b) w w':=a.mono (λb i=>i.elim (λe=>e▸c) (λh=>Ad d h))
def sK (B:Nat) (w:World) (g gp:Nat) (tl:Value) (ts:List CN) (s:Ah) (n:Nat) (o:AQ Unit) (e:Ending) (w':World):Prop:=
 e= .returned (.tuple #[])/\Ac (λb=>B<=b) w w'/\∃c a r',RP B w' g gp tl ts c A6 A6 A6 false r' a/\Bp s r' o/\(∀st',o= .ok () st'->c=st'.bI)/\r'.decls.length<=n+1
abbrev Fh.fq (r:Fh):Fh:={r with k:=r.k+1,fE:=r.fE+1}
def frO (s:Ah) (st:PS):PS:={next s st with bX:=true}
theorem AG.jd (h:AG s r st) (b:st.t.kind≠Ek) (c:st.t.kind≠Bx):AG s r.fq (frO s st):=by have a:=h.next b c;exact⟨a.pos.of rfl rfl,⟨a.ok.i,a.ok.pos,a.ok.more,a.ok.num,a.ok.name⟩,a.deep,a.loops,a.bad,a.bJ,a.decls,a.bI,by have:=h.f0;show true=decide (0<r.fE+1);simp;omega,by have:=h.f0;show 0<=r.fE+1;omega,by have:=h.fk;show r.fE+1<=((r.k+1:Nat):Int);omega⟩
def ue (s:Ah) (st:PS):PS:=if st.bX then note CY st.t.pos (frO s st)else frO s st
theorem Zr (b:st.t.kind=Cy):decl s st=(number s 1 99 (ue s st)).bind λn st=>(want s AP {st with bI:=n}).bind λ_ st=>.ok () st:=by
 unfold decl;simp only;rw[Al b];have e:({(if(next s st).bX then note CY st.t.pos (next s st)else next s st)with bX:=true}:PS)=ue s st:=by
  unfold ue frO;show({(if st.bX then note CY st.t.pos (next s st)else next s st)with bX:=true}:PS)=_;cases st.bX with
  |false=>rfl
  |true=>
   show({note CY st.t.pos (next s st)with bX:=true}:PS)=note CY st.t.pos {next s st with bX:=true};unfold note;cases a:st.bJ with
   |none=>simp only[next,a]
   |some x=>simp only[next,a]
 rw[e]
def frF {α:Type} (o:AQ α) (n:Int):AQ Unit:=o.bind λ_ st=>.ok () {st with bI:=n}
theorem Bp.qt {α:Type}{o:AQ α}(h:Bp s r o) (n:Int):Bp s {r with bI:=n} (frF o n):=by
 cases o with
 |bad e p=>
  have b:DM s r e p:=h;exact⟨b.lt,b.bad,b.fT,b.ne,b.fk⟩
 |ok a st=>
  have b:AG s r st:=h;exact⟨b.pos.of rfl rfl,⟨b.ok.i,b.ok.pos,b.ok.more,b.ok.num,b.ok.name⟩,b.deep,b.loops,b.bad,b.bJ,b.decls,rfl,b.seen,b.f0,b.fk⟩
abbrev Fh.fr (r:Fh) (n:Int):Fh:={r with bI:=n}
theorem RP.gI (h:RP B w g gp tl ts f vr vh vm ms r vd) (n:Int):RP B (w.setCell ⟨gp,1,none⟩ (.int .i64 n)) g gp tl ts n vr vh vm ms (r.fr n) vd:=by have i:Ac (λb=>b=gp) w (w.setCell ⟨gp,1,none⟩ (.int .i64 n)):=Ac.one w ⟨gp,1,none⟩ _;obtain⟨N,j⟩:=h.rd.ji;have c:=h.rd.bQ.cZ h.rd.row (by decide);have a:=h.sl.kept i (λb d e=>h.sl.bK h.rd.bQ (by decide) (e▸d));exact⟨⟨h.rd.row.dK (λe=>c e.symm) _,⟨N,j.kept i (λb d e=>j.bK h.rd.bQ (by decide) (e▸d))⟩,h.rd.tl,h.rd.bQ.bM 1 _,⟨_,vd,rfl,a⟩,h.rd.dl⟩,h.g0,h.p0,a,by simpa using h.sz⟩
theorem eX (h:RP B w g gp tl ts f A6 A6 A6 false r vd) (L:AG s r st) (ht:Eb ts (ji s)) (M:st.t.kind=Cy) (fc:r.decls.length<=900):
  Calls prog 54 #[.pointer (some ⟨g,0,none⟩)] w (sK B w g gp tl ts s r.decls.length (decl s st)):=by
 obtain⟨x,hx,A⟩:=AG.tok L ht;obtain⟨gt,ct,rfl,h1,h2,h3,h4,h5,t0,t1,t2⟩:=h.rd.at_ hx;have N:x.is=Cy:=by rw[A.1,M];decide
 have O:x.pos=st.t.pos:=A.2.1;rw[N]at t0;obtain⟨c0,c1,_,_,_,_,_,_,c8,c9⟩:=h.rd.cells;have fG:=h.rd.row.lt;have ff:=λj=>h.rd.row.frozen j;have h8:=h.rd.tl;have fH:r.k<ts.length:=h3;obtain⟨fJ,fK,P⟩:=zp3 L.f0 L.fk L.seen;unfold maxLen at h2;have C:Bp s r.fq (AQ.ok () (frO s st)):=L.jd (by rw[M];decide) (by rw[M];decide);have D:Kg g w (((w.setCell ⟨g,1,none⟩ (.int .i64 ((r.k:Int)+1))).setCell ⟨g,9,none⟩ (.int .i64 (r.fE+1))).alloc (.cells #[vs Cy,vs x.bZ,.int .i64 x.pos] 138)).drew:=
  ((((Ac.refl _ w).setCell (p:=⟨g,1,none⟩) (.inl rfl) _).setCell (p:=⟨g,9,none⟩) (.inl rfl) _).alloc (.inr (by simp)) _).drew
 have q1:=h.call (r':=r.fq) D ((((h.rd.put 1 (.int .i64 ((r.k:Int)+1)) (r':=r.nx) rfl rfl).put 9 (.int .i64 (r.fE+1)) (r':=r.fq) rfl rfl).alloc (.cells #[vs Cy,vs x.bZ,.int .i64 x.pos] 138)).drewN 1) rfl;have Q:=H6 (e:=CY) q1.rd C (by decide) x.pos;have R:∀(W:World) (q:Fh),Ac (λb=>B<=b) w W->RP B W g gp (.slice (some ⟨gt,0,none⟩) ts.length ct) ts f A6 A6 A6 false q vd->Bp s q (AQ.ok () (ue s st))->q.decls=r.decls->True:=λ_ _ _ _ _ _=>trivial;obtain⟨HT,Q1,E,S,T,cy,HP,cz⟩:=zq8 ht q1 D Q C (Zr (s:=s) M) h O;have U:=Aa P;generalize cB:r.k=kq at*;generalize cZ:ts.length=LL at*;clear hx A L C N M cB cZ h q1 D ht Q R O P;unfold vs at*;go_enter func54,ntmps54;go_wp2;go_region;go_upto_if 37 with fail;go_cut [] (λwx=>Kg g w wx/\∃q,RP B wx g gp (.slice (some ⟨gt,0,none⟩) LL ct) ts f A6 A6 A6 false q vd/\Bp s q (AQ.ok () (ue s st))/\q.decls=r.decls)
 case first=>
  by_cases V:0<r.fE
  ·have e1:decide (1<r.fE+1)=true:=by simp;omega
   have G:=Aa (show st.bX=true by rw[U.out];simpa using V);go_wp2_with fail;refine S.out.mono ?_;rintro e w2 ⟨rfl,i,q,X,l,d⟩;have F:=Aa (And.intro i (And.intro X (And.intro l d)));clear i X l d;go_wp2;go_meet;obtain⟨Y,f2,u,Z⟩:=F.out;refine⟨Kg.trans E.out Y,q,Q1.out.call Y f2 Z,?_,Z⟩;unfold ue;rw[Al G.out,←cz.out];exact u
  ·have e1:decide (1<r.fE+1)=false:=by simp;omega
   have G:=Aa (show¬st.bX=true by rw[U.out];simpa using V);go_wp2;go_meet;refine⟨E.out,r.fq,Q1.out,?_,rfl⟩;unfold ue;rw[Ai G.out];exact T.out
 case rest=>
  obtain⟨i,q,y,l,d⟩:=hcut;clear c0 c1 c8 c9 t0 t1 t2 Q1 E S T;have m:=Kw (y.rd.drewN 1) l HT.out 1 99;rw[d]at m;obtain⟨_,_,_,_,_,_,_,_,c8,_⟩:=y.rd.cells;obtain⟨be,a,bJ,bK⟩:=zq4 m y i d;clear m y l d i;go_wp2_with fail
  go_region_law (first|(go_simp;go_at_call 85;refine be.out.mono ?_;rintro e w3 ⟨v,rfl,bL,hv,r3,o,bN,bO⟩;have p1:=o.bQ.cell 1;have pf:=o.bQ.frozen 1;have dd:=o.cells.2.2.2.2.2.2.2.2.1;have z:=Aa (And.intro bL (And.intro hv (And.intro o (And.intro bN bO))));clear bL hv o bN bO;simp at p1))
  all_goals
   have bP:=(a.out.call ((Ac.refl _ wc).drewN 1) (a.out.rd.drewN 1) rfl).call z.out.1 z.out.2.2.1 (z.out.2.2.2.2.trans bK.out.symm);have H:=bP.gI v;have bR:Ac (λb=>B<=b) w (w3.setCell ⟨gp,1,none⟩ (.int .i64 v)):=((VX bJ.out HP.out.g0 HP.out.sz).trans (VX ((Ac.refl _ wc).drewN 1) a.out.g0 a.out.sz)).trans ((VX z.out.1 a.out.g0 a.out.sz).trans ((Ac.one w3 ⟨gp,1,none⟩ _).mono (λb hb=>hb▸a.out.p0)));have bS:=z.out.2.2.2.1.qt v;have I:=ET H.rd bS HT.out (kd:=AP) (kr:=AP) (by decide) (by decide) (by decide) (by decide);have J:(r3.fr v).decls=r.decls:=z.out.2.2.2.2;rw[J]at I;have hv:=z.out.2.1;obtain⟨bT,K,dF,HV,dG⟩:=zq5 I H bR hv J;clear bP H bR bS I hv J p1 pf dd z c8 be a bJ bK;unfold vs at*;go_wp2_with fail;refine bT.out.mono ?_;rintro e w5 ⟨x5,rfl,bU,_,r5,bV,bW,bY⟩;have F:=Aa (And.intro bU (And.intro bV (And.intro bW bY)));clear bU bV bW bY bT;unfold EG vs;go_wp2;go_end0;obtain⟨Y,f2,u,Z⟩:=F.out;rw[cy.out];refine⟨rfl,dF.out.trans (VX Y K.out.g0 K.out.sz),v,vd,r5,K.out.call Y f2 (Z.trans dG.out.symm),?_,?_,by rw[Z];omega⟩
   ·cases hn:number s 1 99 (ue s st)with
    |bad e p=>
     have e1:Hg s 1 99 (AQ.ok () (ue s st))= .bad e p:=hn;rw[e1]at u;exact u
    |ok n c=>
     have e1:Hg s 1 99 (AQ.ok () (ue s st))= .ok n c:=hn;have ev:=HV.out n c e1;rw[e1]at u;show Bp s r5 ((want s AP {c with bI:=n}).bind _);have e2:BE s AP (frF (AQ.ok n c) v)=want s AP {c with bI:=v}:=rfl;rw[e2,ev]at u;cases hw:want s AP {c with bI:=n}with
     |bad e p=>rw[hw]at u;exact u
     |ok t dI=>rw[hw]at u;exact u
   ·intro st' e;obtain⟨n,c,e1,e2⟩:=AD e;obtain⟨t,dI,e3,e4⟩:=AD e2;injection e4 with _ e4;rw[←e4,(BH e3).2.2];exact HV.out n c e1
end
end Go.Proofs.YtodkkholbjeioaaGreatDoor.Ev
