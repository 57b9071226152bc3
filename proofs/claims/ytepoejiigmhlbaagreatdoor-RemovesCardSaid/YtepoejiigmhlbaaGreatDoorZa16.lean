/- Lemmas for a law's walk. Conditions: none. -/
import Derived.Test.YtepoejiigmhlbaaGreatDoorZa09
set_option linter.all false
set_option maxRecDepth 100000
set_option maxHeartbeats 8000000
namespace Go.Proofs.YtepoejiigmhlbaaGreatDoor.Ev
open _root_.Go.Proofs.Tryz
abbrev Ky:Ah:=[110,117,109]
def GS (k:Ah):Ah:=if k=Bv then Ky else k
def final (t:MS):Bool:=t.kind==Eh||t.kind==Bw
def Io (s:Ah):Nat->Nat->List MS
 |0,_=>[]
 |n+1,i=>if final (EY s i).1 then [(EY s i).1]else(EY s i).1::Io s n (EY s i).2
def jj (s:Ah):List MS:=Io s (s.length+1) 0
theorem qE {t:MS}(h:final t=false):t.kind≠Eh/\t.kind≠Bw:=by unfold final at h;simp only[Bool.or_eq_false_iff,BH,ne_eq]at h;exact h
def Ph (s:Ah) (k:Nat) (st:PS):Prop:=
 ∃n i,(jj s).drop k=Io s (n+1) i/\st.t=(EY s i).1/\st.i=(EY s i).2/\i<=s.length/\s.length<i+(n+1)
theorem Ph.get {s:Ah}{k:Nat}{st:PS}(h:Ph s k st):(jj s)[k]?=some st.t:=by
 obtain⟨n,i,a,b,_⟩:=h;have e:((jj s).drop k)[0]?=some st.t:=by rw[a,Io,b];split<;>rfl
 rw[Ln]at e;simpa using e
theorem Ph.lt {s:Ah}{k:Nat}{st:PS}(h:Ph s k st):k<(jj s).length:=(Aj.1 h.get).1
theorem Ph.next {s:Ah}{k:Nat}{st:PS}(h:Ph s k st) (g:st.t.kind≠Eh) (j:st.t.kind≠Bw):Ph s (k+1) (next s st):=by
 obtain⟨n,i,e1,e,f,l,p⟩:=h;have m:final (EY s i).1=false:=by rw[←e];unfold final;simp[g,j]
 obtain⟨a,b,c,d⟩:=JX s i l;rw[←e,←f]at d;have:=d g j;rw[←e]at a;rw[←f]at c;rw[Io,m]at e1;simp only[Ap,A8]at e1;have o:(jj s).drop (k+1)=Io s n (EY s i).2:=by rw[←List.drop_drop,e1];rfl
 cases n with
 |zero=>omega
 |succ n=>
  refine⟨n,st.i,by rw[o,f],rfl,rfl,c,?_⟩;omega
theorem Ph.start (s:Ah):Ph s 0 (start s):=⟨s.length,0,rfl,rfl,rfl,AQ _,by omega⟩
theorem Ph.of {s:Ah}{k:Nat}{st st':PS}(h:Ph s k st) (a:st'.t=st.t) (b:st'.i=st.i):Ph s k st':=by obtain⟨n,i,e1,c,d,e,f⟩:=h;exact⟨n,i,e1,a.trans c,b.trans d,e,f⟩
theorem Ra (s:Ah):∀(n i:Nat),(Io s n i).length<=n
 |0,_=>Ab _
 |n+1,i=>by
  rw[Io];split
  ·simp
  ·have:=Ra s n (EY s i).2;simp;omega
theorem nY (s:Ah):(jj s).length<=s.length+1:=Ra s _ _
structure CM where
 is:Ah
 br:Ah
 pos:Nat
def CM.Of (x:CM) (t:MS):Prop:=x.is=GS t.kind/\x.pos=t.pos/\(t.kind≠Bw->x.br=t.text)
def Rk (s:Ah) (a:Nat):CM×Nat:=
 let i:=skip blank s a
 match s[i]? with
 |none=>(⟨Eh,[],i⟩,i)
 |some c=>
  if low c then
   (if 8<skip low s i-i then⟨Bw,Dk s i (skip low s i),i⟩else⟨if A0.contains (Dk s i (skip low s i))then Dk s i (skip low s i)else Cf,Dk s i (skip low s i),i⟩,skip low s i)
  else if Gn c then
   (if 3<skip Gn s i-i then⟨Bw,Dk s i (skip Gn s i),i⟩else⟨Ky,Dk s i (skip Gn s i),i⟩,skip Gn s i)
  else if Ie c then(⟨[c],[c],i⟩,i+1)
  else(⟨Bw,[],i⟩,i)
theorem an:Eh=GS Eh:=by decide
theorem U9:Bw=GS Bw:=by decide
theorem zF:Cf=GS Cf:=by decide
theorem ak:Ky=GS Bv:=by decide
theorem ac (s:Ah) (i:Nat):(Rk s i).1.Of (EY s i).1/\(final (EY s i).1=false->(Rk s i).2=(EY s i).2):=by
 unfold Rk EY CM.Of;simp only;cases d:s[skip blank s i]? with
 |none=>(refine⟨⟨?_,?_,?_⟩,?_⟩<;>first|trivial|exact λ_=>trivial|exact an|exact U9|exact ak|exact λ_=>rfl|exact λh=>absurd rfl h|(intro h;simp[final]at h))
 |some c=>
  simp only;cases f:low c with
  |true=>
   simp only[A6];by_cases a:8<skip low s (skip blank s i)-skip blank s i
   ·simp only[Al a]
    (refine⟨⟨?_,?_,?_⟩,?_⟩<;>first|trivial|exact λ_=>trivial|exact an|exact U9|exact ak|exact λ_=>rfl|exact λh=>absurd rfl h|(intro h;simp[final]at h))
   ·simp only[Ai a];refine⟨⟨?_,by trivial,by first|exact λ_=>trivial|exact λ_=>rfl|trivial⟩,by first|exact λ_=>trivial|exact λ_=>rfl|trivial⟩;split
    ·rename_i b;unfold GS;rw[Ai];intro e;rw[e]at b;exact absurd (CO.1 b) TE
    ·exact zF
  |false=>
   simp only[Ap,A8];cases g:Gn c with
   |true=>
    simp only[A6];by_cases a:3<skip Gn s (skip blank s i)-skip blank s i
    ·simp only[Al a]
     (refine⟨⟨?_,?_,?_⟩,?_⟩<;>first|trivial|exact λ_=>trivial|exact an|exact U9|exact ak|exact λ_=>rfl|exact λh=>absurd rfl h|(intro h;simp[final]at h))
    ·simp only[Ai a]
     (refine⟨⟨?_,?_,?_⟩,?_⟩<;>first|trivial|exact λ_=>trivial|exact an|exact U9|exact ak|exact λ_=>rfl|exact λh=>absurd rfl h|(intro h;simp[final]at h))
   |false=>
    simp only[Ap,A8];cases j:Ie c with
    |true=>
     simp only[A6];refine⟨⟨?_,by trivial,by first|exact λ_=>trivial|exact λ_=>rfl|trivial⟩,by first|exact λ_=>trivial|exact λ_=>rfl|trivial⟩;unfold GS;rw[Ai];intro e;have:=AG List.length e;simp at this
    |false=>
     simp only[Ap,A8]
     (refine⟨⟨?_,?_,?_⟩,?_⟩<;>first|trivial|exact λ_=>trivial|exact an|exact U9|exact ak|exact λ_=>rfl|exact λh=>absurd rfl h|(intro h;simp[final]at h))
def D6:List CM->List MS->Prop
 | [],[]=>True
 |x::l,t::m=>x.Of t/\D6 l m
 |_,_=>False
theorem D6.len:∀{l:List CM}{m:List MS},D6 l m->l.length=m.length
 | [],[],_=>rfl
 |_::_,_::_,h=>by simp[D6.len h.2]
 | [],_::_,h=>h.elim
 |_::_,[],h=>h.elim
theorem D6.get:∀{l:List CM}{m:List MS}{k:Nat}{t:MS},D6 l m->m[k]?=some t->∃x,l[k]?=some x/\x.Of t
 |_::_,_::_,0,_,h,e=>by
  simp only[AI,Cm]at e;exact⟨_,rfl,e▸h.1⟩
 |_::l,_::m,k+1,_,h,e=>D6.get (l:=l) (m:=m) (k:=k) h.2 e
 | [],[],_,_,_,e=>by simp at e
 | [],_::_,_,_,h,_=>h.elim
 |_::_,[],_,_,h,_=>h.elim
structure Fc where
 k:Nat
 deep:Int
 loops:Int
 bad:Nat
 fm:Nat
 bC:Nat
 lu:Nat
 decls:List Bi
 aD:Int
 eW:Int
def rx (x:Option (Nat×Nat)) (r:Fc):Prop:=
 match x with
 |none=>r.bC=0
 |some y=>r.bC=y.1/\r.lu=y.2/\y.1≠0
structure AF (s:Ah) (r:Fc) (st:PS):Prop where
 pos:Ph s r.k st
 ok:st.Ok s
 deep:r.deep=st.depth
 loops:r.loops=st.loops
 bad:r.bad=0
 bC:rx st.bC r
 decls:r.decls=st.decls
 aD:r.aD=st.aD
 seen:st.bp=decide (0<r.eW)
 f0:0<=r.eW
 fk:r.eW<=r.k
structure DI (s:Ah) (r:Fc) (e pos:Nat):Prop where
 lt:r.k<(jj s).length
 bad:r.bad=e
 fm:r.fm=pos
 ne:e≠0
 fk:0<=r.eW/\r.eW<=r.k
def Bo {α:Type} (s:Ah) (r:Fc):AO α->Prop
 | .ok _ st=>AF s r st
 | .bad e pos=>DI s r e pos
def AO.bu {α:Type} (o:AO α) (k:Ah):Bool:=
 match o with
 | .ok _ st=>st.t.kind==k
 | .bad _ _=>false
theorem AO.iP {α:Type}{o:AO α}{k:Ah}(h:o.bu k=true):∃a st,o= .ok a st/\st.t.kind=k:=by
 cases o with
 |ok a st=>exact⟨a,st,rfl,by simpa[AO.bu]using h⟩
 |bad e p=>cases h
section
variable {α β:Type}{s:Ah}{r:Fc}{o:AO α}{st:PS}
theorem Bo.lt (h:Bo s r o):r.k<(jj s).length:=by
 cases o with
 |ok a st=>exact AF.pos h|>.lt
 |bad e p=>exact DI.lt h
theorem AF.next (h:AF s r st) (a:st.t.kind≠Eh) (b:st.t.kind≠Bw):AF s {r with k:=r.k+1} (next s st):=
 ⟨h.pos.next a b,Cc h.ok,h.deep,h.loops,h.bad,h.bC,h.decls,h.aD,h.seen,h.f0,by have:=h.fk;show r.eW<=((r.k+1:Nat):Int);omega⟩
theorem AF.note {e pos:Nat}(h:AF s r st) (c:e≠0):AF s (if r.bC=0 then {r with bC:=e,lu:=pos}else r) (note e pos st):=by
 have a:=h.bC;cases b:st.bC with
 |none=>
  rw[b]at a;rw[Al (show r.bC=0 from a)];have e1:Ev.note e pos st={st with bC:=some (e,pos)}:=by unfold Ev.note;rw[b]
  rw[e1];exact⟨h.pos.of rfl rfl,⟨h.ok.i,h.ok.pos,h.ok.more,h.ok.num,h.ok.name⟩,h.deep,h.loops,h.bad,⟨rfl,rfl,c⟩,h.decls,h.aD,h.seen,h.f0,h.fk⟩
 |some y=>
  rw[b]at a;have e1:Ev.note e pos st=st:=by unfold Ev.note;rw[b]
  have d:¬r.bC=0:=by rw[a.1];exact a.2.2
  rw[Ai d,e1];exact h
theorem AF.fail {e:Nat}(h:AF s r st) (a:e≠0):DI s {r with bad:=e,fm:=st.t.pos} e st.t.pos:=
 ⟨h.pos.lt,rfl,rfl,a,h.f0,h.fk⟩
end
theorem pk {k:Ah}(h:k∈A0):k≠Ky:=by intro e;rw[e]at h;exact absurd h (by decide)
theorem kK (s:Ah) (i:Nat):(EY s i).1.kind≠Ky:=by
 have n1:Bw≠Ky:=by decide
 have a:Cf≠Ky:=by decide
 have n3:Bv≠Ky:=by decide
 have b:Eh≠Ky:=by decide
 unfold EY;simp only;cases f:s[skip blank s i]? with
 |none=>exact b
 |some c=>
  simp only;split
  ·split
   ·exact n1
   ·show(if A0.contains _=true then _ else _)≠Ky;split
    ·rename_i d;exact pk (CO.1 d)
    ·exact a
  ·split
   ·split
    ·exact n1
    ·exact n3
   ·split
    ·intro e;have:=AG List.length e;simp at this
    ·exact n1
theorem Ph.pL {s:Ah}{k:Nat}{st:PS}(h:Ph s k st):st.t.kind≠Ky:=by obtain⟨n,i,_,a,_⟩:=h;rw[a];exact kK s i
theorem aC {a b:Ah}(f:a≠Ky) (g:b≠Ky):(GS a==GS b)=(a==b):=by
 unfold GS;by_cases d:a=Bv
 ·by_cases c:b=Bv
  ·rw[d,c];rfl
  ·have e:(a==b)=false:=by rw[BH];intro e;exact c (e▸d)
   rw[Al d,Ai c,e,BH];intro e;exact g e.symm
 ·by_cases c:b=Bv
  ·have e:(a==b)=false:=by rw[BH];intro e;exact d (e.trans c)
   rw[Ai d,Al c,e,BH];exact f
  ·rw[Ai d,Ai c]
theorem AF.tok {s:Ah}{r:Fc}{st:PS}(h:AF s r st) {ts:List CM}(a:D6 ts (jj s)):∃x,ts[r.k]?=some x/\x.Of st.t:=a.get h.pos.get
theorem Bo.tok {α:Type}{s:Ah}{r:Fc}{o:AO α}(h:Bo s r o) {ts:List CM}(a:D6 ts (jj s)):∃x,ts[r.k]?=some x:=by have:=h.lt;rw[←a.len]at this;exact⟨_,Ae this⟩
theorem uV {α:Type}{s:Ah}{k:Nat}{a:α}{st:PS}{x:CM}(b:Ph s k st) (c:x.Of st.t) {kd:Ah}(d:kd≠Ky):(x.is==GS kd)=(AO.ok a st).bu kd:=by rw[c.1,aC b.pL d];rfl
end Go.Proofs.YtepoejiigmhlbaaGreatDoor.Ev
namespace Go.Proofs.YtepoejiigmhlbaaGreatDoor.Ev
open _root_.Go.Proofs.Tryz
open Go Go.RowKit
abbrev kh:Ah:=[110,117,109]
def DR:Qw->Ah
 | .num _=>kh
 | .var _=>Jo
 | .len _=>JK
 | .aD=>Cx
def Fk (v:Qw):List Value:=[vs (DR v),.int .i64 (C4 v)]
def BV:CK->Ah
 | .full _=>E4
 | .empty _=>DJ
 | .eU _=>E3
 | .less _ _=>ER
def IC:CK->List Value
 | .less a b=>Fk a++Fk b
 |_=>[vs [],.int .i64 0,vs [],.int .i64 0]
def Dg (c:C3):List Value:=[vs (BV c.k),.int .i64 (Bs c.k)]++IC c.k++[.int .i64 c.bI]
def Du:List Value:=[vs [],.int .i64 0,vs [],.int .i64 0,vs [],.int .i64 0,.int .i64 0]
def BY (p:D0):List Value:=[vs (CQ p),.int .i64 (G8 p),.int .i64 (G9 p),.bool (C1 p)]++Du++[A4,A4,.bool false]
def Ju (c:C3) (a:Value) (o:Bool) (ve:Value):List Value:=[vs Ja,.int .i64 0,.int .i64 0,.bool false]++Dg c++[a,ve,.bool o]
def H6 (n:Int) (c:C3) (a:Value):List Value:=[vs Bf,.int .i64 n,.int .i64 0,.bool false]++Dg c++[a,A4,.bool false]
theorem aB (c:CK):(IC c).length=4:=by cases c<;>rfl
theorem R7 (c:C3):(Dg c).length=7:=by simp[Dg,aB]
theorem YV (p:D0):(BY p).length=14:=rfl
theorem fx (c:C3) (a:Value) (o:Bool) (ve:Value):(Ju c a o ve).length=14:=by simp[Ju,R7]
theorem bS (n:Int) (c:C3) (a:Value):(H6 n c a).length=14:=by simp[H6,R7]
abbrev mu (N:Nat->Prop) (w:World) (v:Value) (n:Nat) (cs:List Value):Prop:=Sl N w 262 14 v n cs
def AL (N:Nat->Prop) (w:World):Az->List Value->Prop
 | .nil,cs=>cs=[]
 | .bG p r,cs=>∃rest,cs=BY p++rest/\AL N w r rest
 | .ite c t o e r,cs=>∃a ve rest,cs=Ju c a o ve++rest/\(∃d,mu N w a t.length d/\AL N w t d)/\
   (if o then∃f,mu N w ve e.length f/\AL N w e f else ve=A4/\e= .nil)/\AL N w r rest
 | .rep n c b r,cs=>∃a rest,cs=H6 n c a++rest/\(∃d,mu N w a b.length d/\AL N w b d)/\AL N w r rest
def Cs (N:Nat->Prop) (w:World) (v:Value) (b:Az):Prop:=∃cs,mu N w v b.length cs/\AL N w b cs
section
variable {N N':Nat->Prop}{w w':World}
theorem mu.hU {v:Value}{n:Nat}{cs:List Value}(h:mu N w v n cs) (f:∀k cs,N k->AE w k 262 cs->w'.heap[k]?=w.heap[k]?):mu N w' v n cs:=by
 obtain⟨⟨i,b⟩,d⟩:=h;refine⟨⟨i,?_⟩,d⟩;rcases b with b|⟨g,c,a,rfl,j,e,l⟩
 ·exact .inl b
 ·exact .inr ⟨g,c,a,rfl,j,(f g a.toList (d g rfl) (by unfold AE;simpa using e)).trans e,l⟩
theorem mu.eS {v:Value}{n:Nat}{cs:List Value}(h:mu N w v n cs) (b:∀k,k<w.heap.size->N k->N' k):mu N' w v n cs:=
 ⟨h.1,λg a=>b g (h.lt a) (h.2 g a)⟩
theorem AL.kept (a:∀k cs,N k->AE w k 262 cs->w'.heap[k]?=w.heap[k]?):∀(b:Az) (cs:List Value),AL N w b cs->AL N w' b cs
 | .nil,_,h=>h
 | .bG p r,cs,⟨rest,d,f⟩=>⟨rest,d,AL.kept a r rest f⟩
 | .ite c t o e r,cs,⟨i,ve,rest,d,⟨g,f,j⟩,m,l⟩=>⟨i,ve,rest,d,⟨g,f.hU a,AL.kept a t g j⟩,by
   cases o with
   |false=>exact m
   |true=>
    obtain⟨q,s,u⟩:=m;exact⟨q,s.hU a,AL.kept a e q u⟩,AL.kept a r rest l⟩
 | .rep n c b r,cs,⟨i,rest,d,⟨g,f,j⟩,l⟩=>⟨i,rest,d,⟨g,f.hU a,AL.kept a b g j⟩,AL.kept a r rest l⟩
theorem AL.mono (a:∀k,k<w.heap.size->N k->N' k):∀(b:Az) (cs:List Value),AL N w b cs->AL N' w b cs
 | .nil,_,h=>h
 | .bG p r,cs,⟨rest,d,f⟩=>⟨rest,d,AL.mono a r rest f⟩
 | .ite c t o e r,cs,⟨i,ve,rest,d,⟨g,f,j⟩,m,l⟩=>⟨i,ve,rest,d,⟨g,f.eS a,AL.mono a t g j⟩,by
   cases o with
   |false=>exact m
   |true=>
    obtain⟨q,s,u⟩:=m;exact⟨q,s.eS a,AL.mono a e q u⟩,AL.mono a r rest l⟩
 | .rep n c b r,cs,⟨i,rest,d,⟨g,f,j⟩,l⟩=>⟨i,rest,d,⟨g,f.eS a,AL.mono a b g j⟩,AL.mono a r rest l⟩
theorem AL.len:∀(b:Az) (cs:List Value),AL N w b cs->cs.length=b.length*14
 | .nil,_,h=>by rw[show _=[]from h];rfl
 | .bG p r,cs,⟨rest,a,f⟩=>by rw[a,Ao,YV,AL.len r rest f];simp[Az.length,GP,FA]
 | .ite c t o e r,cs,⟨g,ve,rest,a,_,_,d⟩=>by rw[a,Ao,fx,AL.len r rest d];simp[Az.length,GP,FA]
 | .rep n c b r,cs,⟨g,rest,a,_,d⟩=>by rw[a,Ao,bS,AL.len r rest d];simp[Az.length,GP,FA]
theorem AL.app:∀(b:Az) (cs:List Value) (r:Az) (a:List Value),AL N w b cs->AL N w r a->AL N w (b.app r) (cs++a)
 | .nil,_,r,a,h,d=>by rw[show _=[]from h];exact d
 | .bG p x,cs,r,a,⟨rest,f,g⟩,d=>⟨rest++a,by rw[f,AK],AL.app x rest r a g d⟩
 | .ite c t o e x,cs,r,a,⟨i,ve,rest,f,g,k,j⟩,d=>⟨i,ve,rest++a,by rw[f,AK],g,k,AL.app x rest r a j d⟩
 | .rep n c b x,cs,r,a,⟨i,rest,f,g,j⟩,d=>⟨i,rest++a,by rw[f,AK],g,AL.app x rest r a j d⟩
theorem Cs.kept {v:Value}{b:Az}(h:Cs N w v b) (a:∀k cs,N k->AE w k 262 cs->w'.heap[k]?=w.heap[k]?):Cs N w' v b:=by obtain⟨cs,c,d⟩:=h;exact⟨cs,c.hU a,AL.kept a b cs d⟩
theorem Cs.mono {v:Value}{b:Az}(h:Cs N w v b) (a:∀k,k<w.heap.size->N k->N' k):Cs N' w v b:=by obtain⟨cs,c,d⟩:=h;exact⟨cs,c.eS a,AL.mono a b cs d⟩
end
def Le (x:CM):List Value:=[vs x.is,vs x.br,.int .i64 x.pos]
def B5 (k:Nat):Ah:=if k=2 then Jo else if k=1 then Ge else EK
def FL (d:Bi):List Value:=[vs (B5 d.kind),vs d.name,.int .i64 d.max]
def Pn (tl:Value) (gp:Nat) (r:Fc):List Value:=
 [tl,.int .i64 r.k,.int .i64 r.deep,.int .i64 r.loops,.int .i64 r.bad,.int .i64 r.fm,.int .i64 r.bC,.int .i64 r.lu,.pointer (some ⟨gp,0,none⟩),.int .i64 r.eW]
structure Gj (w:World) (g gp:Nat) (tl:Value) (ts:List CM) (pc:List Value) (r:Fc):Prop where
 row:AE w g 253 (Pn tl gp r)
 jj:∃N,Sl N w 255 3 tl ts.length (ts.flatMap Le)
 tl:ts.length<=1000
 ba:AE w gp 222 pc
 decls:∃N vd,pc[0]?=some vd/\Sl N w 224 3 vd r.decls.length (r.decls.flatMap FL)
 dl:r.decls.length<=1000
section
variable {w w':World}{g gp:Nat}{tl:Value}{ts:List CM}{pc:List Value}{r r':Fc}
theorem Gj.dv (h:Gj w g gp tl ts pc r) (c:Kg g w w') (k:AE w' g 253 (Pn tl gp r')) (d:r'.decls=r.decls):Gj w' g gp tl ts pc r':=by
 have f:∀{t:TypeId} {size n:Nat} {v:Value} {xs:List Value},t≠253->(∃N,Sl N w t size v n xs)->∃N,Sl N w' t size v n xs:=by rintro t size n v xs l ⟨N,a⟩;exact⟨N,a.kept c (λb i m=>m.elim (λe=>a.bD h.row l (e▸i)) (λj=>by have:=a.lt i;omega))⟩
 refine⟨k,f (by decide) h.jj,h.tl,(If c h.ba.lt (h.ba.bt h.row (by decide))).trans h.ba,?_,by rw[d];exact h.dl⟩;obtain⟨N,p,q,j⟩:=h.decls;obtain⟨N',u⟩:=f (by decide) ⟨N,j⟩;rw[d];exact⟨N',p,q,u⟩
theorem Gj.kg (h:Gj w g gp tl ts pc r) (a:Kg g w w') (b:w'.heap[g]?=w.heap[g]?):Gj w' g gp tl ts pc r:=h.dv a (b.trans h.row) rfl
theorem Gj.drewN (h:Gj w g gp tl ts pc r) (n:Nat):Gj (w.drewN n) g gp tl ts pc r:=h.kg (zAr.drewN n) rfl
theorem Gj.alloc (h:Gj w g gp tl ts pc r) (o:Obj):Gj (w.alloc o) g gp tl ts pc r:=h.kg (zAr.alloc (.inr (Ab _)) o) (FT w o g h.row.lt)
theorem Gj.dc (h:Gj w g gp tl ts pc r) {n:Nat}{t:TypeId}{cs:List Value}(a:AE w n t cs) (c:t≠253/\t≠222/\t≠224) (d:tl.ownBlock≠some n) (i:Nat) (u:Value):
  Gj (w.setCell ⟨n,i,none⟩ u) g gp tl ts pc r:=by
 have j:Ac (λb=>b=n) w (w.setCell ⟨n,i,none⟩ u):=Ac.one w ⟨n,i,none⟩ u;obtain⟨N,l⟩:=h.jj;obtain⟨N',m,p,k⟩:=h.decls;exact⟨h.row.dc (h.row.bt a (λe=>c.1 e.symm)) u,⟨N,l.kept j (λb f e=>d (e▸f))⟩,h.tl,h.ba.dc (h.ba.bt a (λe=>c.2.1 e.symm)) u,⟨N',m,p,k.kept j (λb f e=>k.bD a (λe'=>c.2.2 e'.symm) (e▸f))⟩,h.dl⟩
theorem Gj.cells (h:Gj w g gp tl ts pc r):w.cell? ⟨g,0,none⟩=some tl/\w.cell? ⟨g,1,none⟩=some (.int .i64 r.k)/\w.cell? ⟨g,2,none⟩=some (.int .i64 r.deep)/\w.cell? ⟨g,3,none⟩=some (.int .i64 r.loops)/\w.cell? ⟨g,4,none⟩=some (.int .i64 r.bad)/\
  w.cell? ⟨g,5,none⟩=some (.int .i64 r.fm)/\w.cell? ⟨g,6,none⟩=some (.int .i64 r.bC)/\w.cell? ⟨g,7,none⟩=some (.int .i64 r.lu)/\w.cell? ⟨g,8,none⟩=some (.pointer (some ⟨gp,0,none⟩))/\w.cell? ⟨g,9,none⟩=some (.int .i64 r.eW):=
 ⟨h.row.cell 0,h.row.cell 1,h.row.cell 2,h.row.cell 3,h.row.cell 4,h.row.cell 5,h.row.cell 6,h.row.cell 7,h.row.cell 8,h.row.cell 9⟩
theorem Gj.at_ (h:Gj w g gp tl ts pc r) {k:Nat}{x:CM}(d:ts[k]?=some x):∃a b,tl= .slice (some ⟨a,0,none⟩) ts.length b/\ts.length<=b/\b<=maxLen/\k<ts.length/\a≠g/\a<w.heap.size/\
  w.cell? ⟨a,k*3,none⟩=some (vs x.is)/\w.cell? ⟨a,k*3+1,none⟩=some (vs x.br)/\w.cell? ⟨a,k*3+2,none⟩=some (.int .i64 x.pos):=by
 obtain⟨N,c⟩:=h.jj;have f:=(Aj.1 d).1;obtain⟨a,b,rfl,_,i,l,m⟩:=c.form (by omega);refine⟨a,b,rfl,i,l,f,λe=>c.bD h.row (by decide) (e▸rfl),m,c.at_ (λ_=>rfl) d (j:=0) (by omega),c.at_ (λ_=>rfl) d (j:=1) (by omega),c.at_ (λ_=>rfl) d (j:=2) (by omega)⟩
end
def Ah8 (w:World) (b:Bool) (e:Ending) (w':World):Prop:=e= .returned (.bool b)/\∃n,w'=w.drewN n
section
variable {w:World}{g gp:Nat}{tl:Value}{ts:List CM}{pc:List Value}{r:Fc}{s:Ah}{α:Type}{o:AO α}
theorem Ka (h:Gj w g gp tl ts pc r) (b:Bo s r o) (j:D6 ts (jj s)) {kd kr:Ah}(n:kd≠Ky) (c:GS kd=kr):Calls prog 117 #[.pointer (some ⟨g,0,none⟩),vs kr] w (Ah8 w (o.bu kd)):=by
 obtain⟨u,v,_,_,c4,_⟩:=h.cells;cases o with
 |bad e pos=>
  have d:r.bad≠0:=by rw[DI.bad b];exact DI.ne b
  have e1:((r.bad:Int)==0)=false:=by simpa using d
  have y:decide ((r.bad:Int)=0)=false:=by simpa using d
  have l:(AO.bad e pos:AO α).bu kd=false:=rfl;rw[l];clear b h l d c;go_enter func117,ntmps117;go_wp2;go_quiet (fail);go_wp2;go_ret;exact⟨rfl,_,rfl⟩
 |ok a st=>
  obtain⟨x,m,f⟩:=AF.tok b j;obtain⟨z,A,rfl,B,p,q,C,D,E,_⟩:=h.at_ m;have i:=uV (a:=a) (AF.pos b) f n;rw[c]at i;have d:(r.bad:Int)=0:=by rw[AF.bad b];rfl
  rw[d]at c4;rw[←i];unfold maxLen at p;have t:r.k<ts.length:=q;generalize r.k=k at*;generalize ts.length=L at*;clear b h d m f i c j;unfold vs at*;go_enter func117,ntmps117;go_wp2;go_quiet (fail);go_wp2;go_ret;exact⟨rfl,nq,rfl⟩
def rL {β:Type} (w:World) (g gp:Nat) (tl:Value) (ts:List CM) (pc:List Value) (s:Ah) (a:List Bi) (v:Value) (o:AO β) (e:Ending) (w':World):Prop:=
 e= .returned v/\Kg g w w'/\∃r',Gj w' g gp tl ts pc r'/\Bo s r' o/\r'.decls=a
def AO.lv {α:Type} (o:AO α) (e:Nat):AO α:=o.bind λ_ st=>fail e st
theorem M7 (h:Gj w g gp tl ts pc r) (b:Bo s r o) (q:D6 ts (jj s)) {e:Nat}(y:e≠0):Calls prog 140 #[.pointer (some ⟨g,0,none⟩),.int .i64 e] w (rL w g gp tl ts pc s r.decls (.tuple #[]) (o.lv e)):=by
 obtain⟨E,F,_,_,c4,c5,_⟩:=h.cells;have G:=λj=>h.row.frozen j;cases o with
 |bad k pos=>
  have d:r.bad≠0:=by rw[DI.bad b];exact DI.ne b
  have e1:((r.bad:Int)==0)=false:=by simpa using d
  have H:decide ((r.bad:Int)=0)=false:=by simpa using d
  obtain⟨m,n⟩:=zq2 h b;clear b h d;go_enter func140,ntmps140;go_wp2;go_end0;exact⟨rfl,Ac.refl _ _,r,m.out,n.out,rfl⟩
 |ok a st=>
  obtain⟨x,u,f⟩:=AF.tok b q;obtain⟨I,J,rfl,K,z,A,M,N,_,_,B⟩:=h.at_ u;have d:(r.bad:Int)=0:=by rw[AF.bad b];rfl
  rw[d]at c4;unfold maxLen at z;have C:r.k<ts.length:=A;have c:x.pos=st.t.pos:=f.2.1;rw[c]at B;obtain⟨m,n⟩:=zq2 h b;generalize i:r.k=k at*;generalize v:ts.length=L at*;obtain⟨D,O⟩:=zq2 i v;clear b h d u f q i v c;go_enter func140,ntmps140;go_wp2
  (refine Ds 14 (by kernel_rfl) (by kernel_rfl) ?_;simp only[Au,AH,Av,AJ];repeat still_step);refine BS ?_
  go_wp2;go_end0;have l:Kg g w (((w.setCell ⟨g,4,none⟩ (.int .i64 e)).setCell ⟨g,5,none⟩ (.int .i64 st.t.pos)).drewN 1):=(((Ac.refl _ w).setCell (p:=⟨g,4,none⟩) (.inl rfl) _).setCell (p:=⟨g,5,none⟩) (.inl rfl) _).drewN 1;refine⟨rfl,l,{r with bad:=e,fm:=st.t.pos},m.out.dv l ?_ rfl,n.out.fail y,rfl⟩;have:=(m.out.row.bF 4 (.int .i64 e)).bF 5 (.int .i64 st.t.pos);exact this
def DY {α:Type} (s kd:Ah) (o:AO α):AO Unit:=o.bind λ_ st=>.ok () (take s kd st).2
theorem Gx {s kd:Ah}{o:AO α}(h:o.bu kd=true):∃a st,o= .ok a st/\st.t.kind=kd/\DY s kd o= .ok () (next s st):=by obtain⟨a,st,rfl,b⟩:=AO.iP h;refine⟨a,st,rfl,b,?_⟩;show AO.ok () (take s kd st).2=_;unfold take;rw[Al b]
theorem Gq {s kd:Ah}{o:AO α}(h:o.bu kd=false):DY s kd o=o.bind λ_ st=>.ok () st:=by
 cases o with
 |bad e p=>rfl
 |ok a st=>
  have b:¬st.t.kind=kd:=by simpa[AO.bu]using h
  show AO.ok () (take s kd st).2= .ok () st;unfold take;rw[Ai b]
theorem Bo.unit {s:Ah}{r:Fc}{o:AO α}(h:Bo s r o):Bo s r (o.bind λ_ st=>.ok () st):=by
 cases o with
 |bad e p=>exact h
 |ok a st=>exact h
theorem FI (h:Gj w g gp tl ts pc r) (i:Bo s r o) (v:D6 ts (jj s)) {kd kr:Ah}(D:kd≠Ky) (d:GS kd=kr) (x:kd≠Eh) (y:kd≠Bw):
  Calls prog 137 #[.pointer (some ⟨g,0,none⟩),vs kr] w (rL w g gp tl ts pc s r.decls (.bool (o.bu kd)) (DY s kd o)):=by
 have b:=Ka h i v D d;obtain⟨E,F,_⟩:=h.cells;have G:=λj=>h.row.frozen j;have H:=h.tl;have m:=i.lt;rw[←v.len]at m;obtain⟨z,I⟩:=zq2 h i;cases l:o.bu kd with
 |true=>
  obtain⟨a,st,rfl,f,c⟩:=Gx (s:=s) l;have q:=AF.next i (by rw[f];exact x) (by rw[f];exact y);rw[l]at b;obtain⟨A,J,B⟩:=zq3 b q c;generalize t:r.k=k at*;generalize C:ts.length=L at*;obtain⟨K,M⟩:=zq2 t C;clear b i h l f q c v t C d;unfold vs at*;go_enter gK,Zw;go_wp2_with fail;refine A.out.mono ?_;rintro e w1 ⟨rfl,n,rfl⟩;go_wp2;go_ret;have u:Kg g w ((w.setCell ⟨g,1,none⟩ (.int .i64 (k+1))).drewN n):=((Ac.refl _ w).setCell (p:=⟨g,1,none⟩) (.inl rfl) _).drewN n;rw[B.out];refine⟨rfl,u,{r with k:=k+1},z.out.dv u ?_ rfl,J.out,rfl⟩;have:=z.out.row.bF 1 (.int .i64 (k+1));exact this
 |false=>
  have c:=Gq (s:=s) l;rw[l]at b;obtain⟨A,B⟩:=zq2 b c;clear b i h l c v d E F G m H;unfold vs at*;go_enter gK,Zw;go_wp2_with fail;refine A.out.mono ?_;rintro e w1 ⟨rfl,n,rfl⟩;go_wp2;go_ret;rw[B.out];exact⟨rfl,zAr.drewN n,r,z.out.drewN n,I.out.unit,rfl⟩
def ED (x:CM):Value:=.agg #[vs x.is,vs x.br,.int .i64 x.pos]
def Anr (w:World) (g gp:Nat) (tl:Value) (ts:List CM) (pc:List Value) (s:Ah) (a:List Bi) (o:AO MS) (e:Ending) (w':World):Prop:=
 ∃x:CM,e= .returned (ED x)/\Kg g w w'/\(∀t st,o= .ok t st->x.Of t)/\∃r',Gj w' g gp tl ts pc r'/\Bo s r' o/\r'.decls=a
def BC {α:Type} (s kd:Ah) (o:AO α):AO MS:=o.bind λ_ st=>want s kd st
theorem Xi {s kd:Ah}{o:AO α}(h:o.bu kd=true):∃a st,o= .ok a st/\DY s kd o= .ok () (next s st)/\BC s kd o= .ok st.t (next s st):=by obtain⟨a,st,rfl,b,c⟩:=Gx (s:=s) h;refine⟨a,st,rfl,c,?_⟩;show want s kd st=_;unfold want;rw[Al b]
theorem ZJ {s kd:Ah}{o:AO α}(h:o.bu kd=false) {r:Fc}(b:Bo s r ((DY s kd o).lv D5)):Bo s r (BC s kd o)/\∀t st,BC s kd o≠.ok t st:=by
 rw[Gq h]at b;cases o with
 |bad e p=>exact⟨b,λt st e=>by cases e⟩
 |ok a st=>
  have c:¬st.t.kind=kd:=by simpa[AO.bu]using h
  have e:BC s kd (.ok a st)= .bad D5 st.t.pos:=by show want s kd st=_;unfold want;rw[Ai c];rfl
  rw[e];exact⟨b,λt st e=>by cases e⟩
theorem Em {w w':World}{g:Nat}(b:Kg g w w') {n:Nat}{t:TypeId}{cs:List Value}(a:AE w n t cs) (c:n≠g):AE w' n t cs:=(If b a.lt c).trans a
theorem jc (w:World):(isAgg 255).run prog w= .ok true w:=by kernel_rfl
theorem Z0 (w:World):(Go.sizeOf 255).run prog w= .ok 3 w:=by kernel_rfl
theorem EO (h:Gj w g gp tl ts pc r) (K:Bo s r o) (M:D6 ts (jj s)) {kd kr:Ah}(hk:kd≠Ky) (q:GS kd=kr) (c:kd≠Eh) (d:kd≠Bw):
  Calls prog 120 #[.pointer (some ⟨g,0,none⟩),vs kr] w (Anr w g gp tl ts pc s r.decls (BC s kd o)):=by
 have b:=λW (hW:Gj W g gp tl ts pc r)=>FI hW K M hk q c d;obtain⟨c0,c1,_⟩:=h.cells;have bE:=h.row.lt;obtain⟨x,O⟩:=K.tok M;obtain⟨gt,ct,rfl,h1,h2,h3,h4,h5,t0,t1,t2⟩:=h.at_ O;unfold maxLen at h2;have bI:r.k<ts.length:=h3;have h8:=h.tl;obtain⟨HR,HS,HX,u,HT⟩:=zq5 h K O M b;generalize v:r.k=k at*;generalize hL:ts.length=L at*;obtain⟨P,HL⟩:=zq2 v hL;clear K h O M v hL b q;cases hb:o.bu kd
 all_goals
  have Q:=Aa hb;clear hb;unfold vs at*;go_enter func120,ntmps120;go_wp2;go_region;go_wp2_with fail;have y:Gj ((w.alloc (.cells #[vs [],vs [],.int .i64 0] 255)).alloc (.cells #[vs x.is,vs x.br,.int .i64 x.pos] 255)).drew g gp (.slice (some ⟨gt,0,none⟩) L ct) ts pc r:=((HR.out.alloc _).alloc _).drewN 1;have x0:AE ((w.alloc (.cells #[vs [],vs [],.int .i64 0] 255)).alloc (.cells #[vs x.is,vs x.br,.int .i64 x.pos] 255)).drew w.heap.size 255 [vs [],vs [],.int .i64 0]:=(AE.new w _ _).alloc _;have x1:AE ((w.alloc (.cells #[vs [],vs [],.int .i64 0] 255)).alloc (.cells #[vs x.is,vs x.br,.int .i64 x.pos] 255)).drew (w.heap.size+1) 255 [vs x.is,vs x.br,.int .i64 x.pos]:=by have:=AE.new (w.alloc (.cells #[vs [],vs [],.int .i64 0] 255)) 255 [vs x.is,vs x.br,.int .i64 x.pos];simp only[Ib]at this;exact this
  have z:Kg g w ((w.alloc (.cells #[vs [],vs [],.int .i64 0] 255)).alloc (.cells #[vs x.is,vs x.br,.int .i64 x.pos] 255)).drew:=(((Ac.refl _ w).alloc (.inr (Ab _)) _).alloc (.inr (by simp)) _).drew;have i:=HT.out _ y;rw[Q.out]at i;obtain⟨R,X0,X1,KK⟩:=zq4 i x0 x1 z;clear y i x0 x1 z;unfold vs at*;refine R.out.mono ?_;rintro e w1 ⟨rfl,c,r',A,B,C⟩;have D:=Aa C;clear C;obtain⟨n,E,F⟩:=zq3 c A B;clear c A B
  first
   |(go_wp2_with fail
     refine(M7 E.out F.out u.out (e:=2) (by decide)).mono ?_;rintro e w2 ⟨rfl,d,r2,G,H,I⟩;have S:=Aa I;clear I;obtain⟨T,U,V⟩:=zq3 d G H;clear d G H)
   |skip
  first
   |have l:=Em T.out (Em n.out X0.out (by omega)) (by omega)
   |have l:=Em n.out X0.out (by omega)
  first
   |have J:=Em T.out (Em n.out X1.out (by omega)) (by omega)
   |have J:=Em n.out X1.out (by omega)
  obtain⟨d0,d1,d2,e0,X,Y⟩:=zp6 (l.cell 0) (l.cell 1) (l.cell 2) (J.cell 0) (J.cell 1) (J.cell 2);have fz:=λj=>l.frozen j;have Y0:=Aa l;clear l J;simp at d0 d1 d2 e0 X Y;go_wp2;have q1:=Y0.out;have m:(Value.slice (some ⟨gt,0,none⟩) L ct).ownBlock≠some w.heap.size:=λe=>by injection e with e;simp only at e;omega
  first
   |have g0:=U.out
   |have g0:=E.out
  first
   |have z:Kg g w _:=(KK.out.trans n.out).trans T.out
   |have z:Kg g w _:=KK.out.trans n.out
  have g1:=g0.dc q1 (by decide) m 0 (.string ⟨x.is.toArray⟩);have q2:=q1.bF 0 (.string ⟨x.is.toArray⟩);have g2:=g1.dc q2 (by decide) m 1 (.string ⟨x.br.toArray⟩);have q3:=q2.bF 1 (.string ⟨x.br.toArray⟩);have g3:=g2.dc q3 (by decide) m 2 (.int .i64 x.pos);have q4:=q3.bF 2 (.int .i64 x.pos);have k4:=((z.setCell (p:=⟨w.heap.size,0,none⟩) (.inr (Ab _)) (.string ⟨x.is.toArray⟩)).setCell (p:=⟨w.heap.size,1,none⟩) (.inr (Ab _)) (.string ⟨x.br.toArray⟩)).setCell (p:=⟨w.heap.size,2,none⟩) (.inr (Ab _)) (.int .i64 x.pos);refine AA (AP (cs:=[.string ⟨x.is.toArray⟩,.string ⟨x.br.toArray⟩,.int .i64 x.pos]) Tryz.results120 jc Z0 rfl q4) rfl ?_;refine⟨x,rfl,k4,?_⟩
  first
   |(obtain⟨a,st,rfl,e1,N⟩:=Xi (s:=s) Q.out
     refine⟨λt st' e=>?_,_,g3,?_,D.out⟩;rw[N]at e;injection e with e3 e4;obtain⟨x',f,Z⟩:=AF.tok HS.out u.out;rw[P.out,HX.out]at f;injection f with f;rw[←e3,f];exact Z;rw[N];have h9:=F.out;rw[e1]at h9;exact h9)
   |(obtain⟨e1,N⟩:=ZJ Q.out V.out
     exact⟨λt st' e=>absurd e (N t st'),_,g3,e1,S.out.trans D.out⟩)
end
def OM {α:Type} (e pos:Nat) (o:AO α):AO Unit:=o.bind λ_ st=>.ok () (note e pos st)
section
variable {w:World}{g gp:Nat}{tl:Value}{ts:List CM}{pc:List Value}{r:Fc}{s:Ah}{α:Type}{o:AO α}
theorem Hu (h:Gj w g gp tl ts pc r) (b:Bo s r o) {e:Nat}(t:e≠0) (pos:Nat):Calls prog 135 #[.pointer (some ⟨g,0,none⟩),.int .i64 e,.int .i64 pos] w (rL w g gp tl ts pc s r.decls (.tuple #[]) (OM e pos o)):=by
 obtain⟨_,_,_,_,c4,_,u,_⟩:=h.cells;have y:=λj=>h.row.frozen j;have m:=Aa h;cases o with
 |bad k p=>
  have c:r.bad≠0:=by rw[DI.bad b];exact DI.ne b
  have e1:((r.bad:Int)==0)=false:=by simpa using c
  have v:decide ((r.bad:Int)=0)=false:=by simpa using c
  have x:=Aa b;clear b h c;go_enter func135,ntmps135;go_wp2;go_end0;exact⟨rfl,Ac.refl _ _,r,m.out,x.out,rfl⟩
 |ok a st=>
  have c:(r.bad:Int)=0:=by rw[AF.bad b];rfl
  rw[c]at c4;have d:=AF.note (pos:=pos) b t;have q:=Aa d;by_cases f:r.bC=0
  ·have i:(r.bC:Int)=0:=by omega
   rw[i]at u;have n:=Aa f;clear b h c d f i;go_enter func135,ntmps135;go_wp2;go_end0;have l:Kg g w ((w.setCell ⟨g,6,none⟩ (.int .i64 e)).setCell ⟨g,7,none⟩ (.int .i64 pos)):=((Ac.refl _ w).setCell (p:=⟨g,6,none⟩) (.inl rfl) _).setCell (p:=⟨g,7,none⟩) (.inl rfl) _;refine⟨rfl,l,{r with bC:=e,lu:=pos},m.out.dv l ?_ rfl,?_,rfl⟩
   ·have:=(m.out.row.bF 6 (.int .i64 e)).bF 7 (.int .i64 pos);exact this
   ·have:=q.out;rw[Al n.out]at this;exact this
  ·have e1:((r.bC:Int)==0)=false:=by simpa using f
   have v:decide ((r.bC:Int)=0)=false:=by simpa using f
   have n:=Aa f;clear b h c d f;go_enter func135,ntmps135;go_wp2;go_end0;refine⟨rfl,Ac.refl _ _,r,m.out,?_,rfl⟩;have:=q.out;rw[Ai n.out]at this;exact this
end
theorem Po {S:Nat->Prop}(name:Ah) (gp:Nat) (l:List Bi) (z:Value) (w:World) (q:Sl S w 224 3 z l.length (l.flatMap FL)) (M:l.length<=1000) (N:gp<w.heap.size) (B:w.cell? ⟨gp,0,none⟩=some z):
  Calls prog 104 #[.pointer (some ⟨gp,0,none⟩),vs name] w λe w'=>e= .returned (.int .i64 (find l name))/\Below w.heap.size w w':=by
 obtain⟨O,F,rfl⟩:=q.bz;obtain⟨G,P⟩:=zq2 q B;clear q;go_enter func104,ntmps104;go_wp2
 go_loopg [12] l.length (λH t wr=>∃c:Nat,c<=l.length/\l.length-c<=H/\t= .int .i64 c/\Below w.heap.size w wr/\(∀(j:Nat) (d:Bi),j<c->l[j]?=some d->d.name≠name))
 case atStart=>exact⟨0,AQ _,by omega,rfl,Lo _ w,λj d C=>absurd C (Uy _)⟩
 case round=>
  obtain⟨c,I,J,rfl,D,a⟩:=hrel;obtain⟨k,A⟩:=zq2 D a;clear D a B;by_cases u:c<l.length
  ·obtain⟨x,v⟩:∃x,l[c]?=some x:=⟨_,Ae u⟩;obtain⟨m,rfl,f,b⟩:=G.out.nC (λ_=>rfl) v;have Q:wr.cell? ⟨m,c*3,none⟩=some (vs (B5 x.kind)):=(k.out.cell (p:=⟨m,c*3,none⟩) f).trans (b 0 (by omega));have R:wr.cell? ⟨m,c*3+1,none⟩=some (vs x.name):=(k.out.cell (p:=⟨m,c*3+1,none⟩) f).trans (b 1 (by omega));have c2:wr.cell? ⟨m,c*3+2,none⟩=some (.int .i64 x.max):=(k.out.cell (p:=⟨m,c*3+2,none⟩) f).trans (b 2 (by omega));have n:=k.out.size;have K:¬m=wr.heap.size:=by omega
   have E:=Aa v;clear v b f;unfold vs at*;by_cases h:x.name=name
   ·have e1:(x.name==name)=true:=by simpa using h
    have L:decide (x.name=name)=true:=by simpa using h
    have y:=Aa h;clear h;go_wp2;go_ret;refine⟨?_,k.out.alloc n _⟩;unfold find;rw[NO name l 0 c x E.out y.out A.out,DH];rfl
   ·have e1:(x.name==name)=false:=by simpa using h
    have L:decide (x.name=name)=false:=by simpa using h
    have y:=Aa h;clear h;go_wp2;go_roundg (l.length-(c+1))
    case measure=>omega
    case rel=>
     refine⟨c+1,by omega,by omega,by go_num,k.out.alloc n _,λj d C i=>?_⟩;by_cases e:j=c
     ·subst e;rw[E.out]at i;injection i with i;exact i▸y.out
     ·exact A.out j d (by omega) i
  ·have:c=l.length:=by omega
   subst this;go_wp2;go_ret;refine⟨?_,k.out⟩;unfold find;rw[MK name l 0 (λj d i=>A.out j d (Aj.1 i).1 i)];rfl
theorem me {l:Ah}{k:Nat}(a:k<l.length):atoi (l.take (k+1))=10*atoi (l.take k)+((l[k].toNat:Int)-48):=by unfold atoi;rw[gU a,List.foldl_append];rfl
def Ant (w:World) (g gp:Nat) (tl:Value) (ts:List CM) (pc:List Value) (s:Ah) (a:List Bi) (o:AO Int) (e:Ending) (w':World):Prop:=
 ∃v:Int,e= .returned (.int .i64 v)/\Kg g w w'/\(∀n st,o= .ok n st->v=n)/\∃r',Gj w' g gp tl ts pc r'/\Bo s r' o/\r'.decls=a
def Ha {α:Type} (s:Ah) (a b:Int) (o:AO α):AO Int:=o.bind λ_ st=>number s a b st
theorem uF {α:Type}(s:Ah) (b c:Int) (o:AO α):Ha s b c o=(BC s Bv o).bind λt st=>.ok (atoi t.text) (if atoi t.text<b\/atoi t.text>c then note Lh t.pos st else st):=by
 cases o with
 |bad e p=>rfl
 |ok a st=>rfl
theorem jw {α:Type}{s:Ah}{o:AO α}{t:MS}{st:PS}{r:Fc}(d:Bo s r o) (h:BC s Bv o= .ok t st):Ux t.text/\t.kind=Bv:=by
 cases o with
 |bad e p=>cases h
 |ok a b=>
  obtain⟨c,rfl,_⟩:=BF (show want s Bv b= .ok t st from h);exact⟨(AF.ok d).num c,c⟩
section
variable {w:World}{g gp:Nat}{tl:Value}{ts:List CM}{pc:List Value}{r:Fc}{s:Ah}{α:Type}{o:AO α}
theorem Kl (h:Gj w g gp tl ts pc r) (Z:Bo s r o) (ht:D6 ts (jj s)) (a i:Int):Calls prog 136 #[.pointer (some ⟨g,0,none⟩),.int .i64 a,.int .i64 i] w (Ant w g gp tl ts pc s r.decls (Ha s a i o)):=by
 have m:=EO h Z ht (kd:=Bv) (kr:=Ky) (by decide) (by decide) (by decide) (by decide);rw[uF];have Q:=λt st=>jw (t:=t) (st:=st) Z;generalize BC s Bv o=o1 at*;obtain⟨HN,R⟩:=zq2 m Q;clear m Q h Z;go_enter func136,ntmps136;unfold vs at*;go_wp2_with fail;refine HN.out.mono ?_;rintro e w1 ⟨x,rfl,E,hx,r1,X,j,S⟩;have G:=X.row.lt;have bC:¬g=w1.heap.size:=by omega
 obtain⟨_,_,_,_,c4,_⟩:=X.cells;unfold ED vs;obtain⟨Y,N,O⟩:=zq3 (X.alloc (.cells #[vs x.is,vs x.br,.int .i64 x.pos] 255)) (E.alloc (.inr E.size) (.cells #[vs x.is,vs x.br,.int .i64 x.pos] 255)) S;clear X E S HN;unfold vs at*;cases o1 with
 |bad k p=>
  have P:r1.bad≠0:=by rw[DI.bad j];exact DI.ne j
  have e1:((r1.bad:Int)==0)=false:=by simpa using P
  have e2:decide ((r1.bad:Int)=0)=false:=by simpa using P
  have T:=Aa j;clear P j hx;have hL:=Aa (show(x.br.length:Int)=(x.br.length:Int)from rfl);go_wp2
  go_loopg [8,9] 0 (λgg s8 s9 wr=>s8= .int .i64 0/\s9= .int .i64 0/\wr=w1.alloc (.cells #[.string ⟨x.is.toArray⟩,.string ⟨x.br.toArray⟩,.int .i64 x.pos] 255))
  case atStart=>exact⟨rfl,rfl,rfl⟩
  case round=>
   obtain⟨rfl,rfl,rfl⟩:=hrel;have A:∀(c:Bool),(0:Int)<a\/i<0->Calls prog 135 #[.pointer (some ⟨g,0,none⟩),.int .i64 7,.int .i64 x.pos] (w1.alloc (.cells #[.string ⟨x.is.toArray⟩,.string ⟨x.br.toArray⟩,.int .i64 x.pos] 255)) (rL (w1.alloc (.cells #[.string ⟨x.is.toArray⟩,.string ⟨x.br.toArray⟩,.int .i64 x.pos] 255)) g gp tl ts pc s r1.decls (.tuple #[]) (OM Lh x.pos (AO.bad k p:AO MS))):=λ_ _=>Hu (e:=Lh) Y.out T.out (by decide) x.pos;have B:=Aa A;clear A;by_cases hz:(0:Int)<(x.br.length:Int)
   all_goals
    by_cases c1:(0:Int)<a
    ·go_wp2_with fail;refine(B.out true (.inl c1)).mono ?_;rintro e w3 ⟨rfl,b,z,q,d,f⟩;have F:=Aa (And.intro b (And.intro q (And.intro d f)));clear b q d f;go_wp2;go_ret;obtain⟨H,I,J,K⟩:=F.out;exact⟨0,rfl,Kg.trans N.out H,λn st e=>(by cases e),z,I,J,K.trans O.out⟩
    ·by_cases c2:i<0
     ·go_wp2_with fail;refine(B.out true (.inr c2)).mono ?_;rintro e w3 ⟨rfl,b,z,q,d,f⟩;have F:=Aa (And.intro b (And.intro q (And.intro d f)));clear b q d f;go_wp2;go_ret;obtain⟨H,I,J,K⟩:=F.out;exact⟨0,rfl,Kg.trans N.out H,λn st e=>(by cases e),z,I,J,K.trans O.out⟩
     ·go_wp2;go_ret;exact⟨0,rfl,N.out,λn st e=>(by cases e),r1,Y.out,T.out,O.out⟩
 |ok t st=>
  have P:(r1.bad:Int)=0:=by rw[AF.bad j];rfl
  rw[P]at c4;have T:=Aa j;have L:=hx t st rfl;obtain⟨⟨n1,n2,n3⟩,U⟩:=R.out t st rfl;have C:x.pos=t.pos:=L.2.1;have M:x.br=t.text:=L.2.2 (by rw[U];decide);obtain⟨HP,bg⟩:=zq2 C M;rw[←M]at n1 n2 n3;have D:∀(k:Nat) (hk:k<x.br.length),48<=(x.br[k]).toNat/\(x.br[k]).toNat<=57:=λk hk=>by have:=n3 _ (Ed hk);simp only[Gn,Ee,Eu,DW]at this;exact this
  have V:=Aa D;have u:Calls prog 135 #[.pointer (some ⟨g,0,none⟩),.int .i64 7,.int .i64 x.pos] (w1.alloc (.cells #[.string ⟨x.is.toArray⟩,.string ⟨x.br.toArray⟩,.int .i64 x.pos] 255)) (rL (w1.alloc (.cells #[.string ⟨x.is.toArray⟩,.string ⟨x.br.toArray⟩,.int .i64 x.pos] 255)) g gp tl ts pc s r1.decls (.tuple #[]) (OM Lh x.pos (AO.ok t st))):=Hu (e:=Lh) Y.out T.out (by decide) x.pos;have y:=Aa u;clear u j hx L n3 C M P U R D;go_wp2
  go_loopg [8,9] x.br.length (λgg s8 s9 wr=>∃(k:Nat) (v:Int),k<=x.br.length/\x.br.length-k<=gg/\s9= .int .i64 k/\s8= .int .i64 v/\v=atoi (x.br.take k)/\0<=v/\(k=0->v=0)/\(k=1->v<=9)/\(k=2->v<=99)/\v<=999/\wr=w1.alloc (.cells #[.string ⟨x.is.toArray⟩,.string ⟨x.br.toArray⟩,.int .i64 x.pos] 255))
  case atStart=>exact⟨0,0,by omega,by omega,rfl,rfl,rfl,by omega,by omega,by omega,by omega,by omega,rfl⟩
  case round=>
   obtain⟨k,v,hk,hg,rfl,rfl,hv,v0,v1,v2,v3,v4,rfl⟩:=hrel;have HV:=Aa hv;clear hv;by_cases G:k<x.br.length
   ·obtain⟨d1,d2⟩:=V.out k G;have ha:=me G;have HA:=Aa ha;clear ha;go_wp2;go_roundg (x.br.length-(k+1))
    case measure=>omega
    case rel=>
     refine⟨k+1,10*v+((x.br[k].toNat:Int)-48),by omega,by omega,by go_num,?_,?_,by omega,by omega,by omega,by omega,by omega,rfl⟩
     ·have e0:(⟨x.br.toArray⟩:ByteArray)[k]=x.br[k]:=rfl;rw[e0];congr 1;omega
     ·rw[HA.out,HV.out]
   ·have bi:k=x.br.length:=by omega
    subst bi;have W:v=atoi t.text:=by rw[HV.out,J7,bg.out]
    have l:=Aa W;clear W;by_cases c1:v<a
    ·go_wp2_with fail;refine y.out.mono ?_;rintro e w3 ⟨rfl,b,z,q,d,f⟩;have F:=Aa (And.intro b (And.intro q (And.intro d f)));clear b q d f;go_wp2;go_ret;obtain⟨H,I,J,K⟩:=F.out;refine⟨v,rfl,Kg.trans N.out H,λn st' e=>?_,z,I,?_,K.trans O.out⟩
     ·injection e with e _;rw[l.out,e]
     ·show AF s z (if _ then _ else _);rw[←l.out,Al (.inl c1),←HP.out];exact J
    ·by_cases c2:v>i
     ·go_wp2_with fail;refine y.out.mono ?_;rintro e w3 ⟨rfl,b,z,q,d,f⟩;have F:=Aa (And.intro b (And.intro q (And.intro d f)));clear b q d f;go_wp2;go_ret;obtain⟨H,I,J,K⟩:=F.out;refine⟨v,rfl,Kg.trans N.out H,λn st' e=>?_,z,I,?_,K.trans O.out⟩
      ·injection e with e _;rw[l.out,e]
      ·show AF s z (if _ then _ else _);rw[←l.out,Al (.inr c2),←HP.out];exact J
     ·go_wp2;go_ret;refine⟨v,rfl,N.out,λn st' e=>?_,r1,Y.out,?_,O.out⟩
      ·injection e with e _;rw[l.out,e]
      ·show AF s r1 (if _ then _ else _);rw[←l.out,Ai (by omega)];exact T.out
end
theorem Sl.pV {N:Nat->Prop}{w w':World}{t:TypeId}{size n:Nat}{v:Value}{xs:List Value}(h:Sl N w t size v n xs) (a:Below w.heap.size w w'):Sl N w' t size v n xs:=
 h.kept (Ac.cY a (S:=λb=>w.heap.size<=b) (λk c=>c)) (λb a e=>by have:=h.lt a;omega)
theorem Wu {k:Nat}(h:k=2):B5 k=Jo:=by unfold B5;rw[Al h]
theorem YA {k:Nat}(h:¬k=2):(B5 k==Jo)=false:=by unfold B5;rw[Ai h];split<;>decide
def Agy (w:World) (g gp:Nat) (tl:Value) (ts:List CM) (pc:List Value) (s:Ah) (a:List Bi) (o:AO Int) (e:Ending) (w':World):Prop:=
 ∃v:Nat,e= .returned (.int .i64 v)/\Kg g w w'/\(∀n st,o= .ok n st->st.bC=none->n=v)/\∃r',Gj w' g gp tl ts pc r'/\Bo s r' o/\r'.decls=a
def SH {α:Type} (s:Ah) (b:Bool) (o:AO α):AO Int:=o.bind λ_ st=>name s b st
theorem zP {α:Type}(s:Ah) (b:Bool) (o:AO α):SH s b o=(BC s Cf o).bind λt st=>.ok (find st.decls t.text) (Cv b t st):=by
 cases o with
 |bad e p=>rfl
 |ok a st=>rfl
def nw (a:List Bi) (x:CM) (o:AO MS):Prop:=∀t st,o= .ok t st->x.pos=t.pos/\x.br=t.text/\st.decls=a
section
variable {s:Ah}{r r2:Fc}{x:CM}{o:AO MS}{b:Bool}{i:Nat}{d:Bi}
theorem uH (h:nw r.decls x o) (f:find r.decls x.br= -1) (a:Bo s r2 (OM X7 x.pos o)):
  Bo s r2 (o.bind λt st=>.ok (find st.decls t.text) (Cv b t st))/\∀n st,(o.bind λt st=>AO.ok (find st.decls t.text) (Cv b t st))= .ok n st->st.bC=none->n=((0:Nat):Int):=by
 cases o with
 |bad e p=>exact⟨a,λn st e=>by cases e⟩
 |ok t st=>
  obtain⟨j,k,l⟩:=h t st rfl;have e:Cv b t st=note X7 t.pos st:=by unfold Cv;rw[l,←k,f];rfl
  refine⟨?_,λn st' e' c=>?_⟩
  ·show AF s r2 (Cv b t st);rw[e,←j];exact a
  ·injection e' with _ e';rw[←e',e]at c;exact absurd c (Fu _ _ _)
theorem iE (h:nw r.decls x o) (u:r.decls[i]?=some d) (f:find r.decls x.br=(i:Int)) (j:Aq r.decls (i:Int)=d) (k:((d.kind==2)!=b)=true) (a:Bo s r2 (OM TV x.pos o)):
  Bo s r2 (o.bind λt st=>.ok (find st.decls t.text) (Cv b t st))/\∀n st,(o.bind λt st=>AO.ok (find st.decls t.text) (Cv b t st))= .ok n st->st.bC=none->n=(i:Int):=by
 cases o with
 |bad e p=>exact⟨a,λn st e=>by cases e⟩
 |ok t st=>
  obtain⟨l,m,q⟩:=h t st rfl;have e:Cv b t st=note TV t.pos st:=by unfold Cv;rw[q,←m,f,Ai (by omega),j,Al k]
  refine⟨?_,λn st' e' c=>?_⟩
  ·show AF s r2 (Cv b t st);rw[e,←l];exact a
  ·injection e' with _ e';rw[←e',e]at c;exact absurd c (Fu _ _ _)
theorem xC (h:nw r.decls x o) (m:r.decls[i]?=some d) (a:find r.decls x.br=(i:Int)) (k:Aq r.decls (i:Int)=d) (l:((d.kind==2)!=b)=false) (c:Bo s r2 o):
  Bo s r2 (o.bind λt st=>.ok (find st.decls t.text) (Cv b t st))/\∀n st,(o.bind λt st=>AO.ok (find st.decls t.text) (Cv b t st))= .ok n st->st.bC=none->n=(i:Int):=by
 cases o with
 |bad e p=>exact⟨c,λn st e=>by cases e⟩
 |ok t st=>
  obtain⟨q,f,j⟩:=h t st rfl;have e:Cv b t st=st:=by unfold Cv;rw[j,←f,a,Ai (by omega),k,l];rfl
  refine⟨?_,λn st' e' u=>?_⟩
  ·show AF s r2 (Cv b t st);rw[e];exact c
  ·injection e' with e1 e';rw[←e1,j,←f,a]
end
section
variable {w:World}{g gp:Nat}{tl:Value}{ts:List CM}{pc:List Value}{r:Fc}{s:Ah}{α:Type}{o:AO α}
theorem ZK {t:MS}{st:PS}{x:CM}(h:BC s Cf o= .ok t st) (j:x.Of t) {r1:Fc}(k:Bo s r1 (BC s Cf o)):x.pos=t.pos/\x.br=t.text/\st.decls=r1.decls:=by
 cases o with
 |bad e p=>cases h
 |ok a f=>
  have c:=k;rw[h]at c;obtain⟨l,rfl,m⟩:=BF (show want s Cf f= .ok t st from h);exact⟨j.2.1,j.2.2 (by rw[l];decide),(AF.decls c).symm⟩
theorem Ft (h:Gj w g gp tl ts pc r) (hs:Bo s r o) (ht:D6 ts (jj s)) (b:Bool):Calls prog 138 #[.pointer (some ⟨g,0,none⟩),.bool b] w (Agy w g gp tl ts pc s r.decls (SH s b o)):=by
 have m:=EO h hs ht (kd:=Cf) (kr:=Cf) (by decide) (by decide) (by decide) (by decide);rw[zP];have I:=λt st x r1 J j v=>ZK (s:=s) (o:=o) (t:=t) (st:=st) (x:=x) (r1:=r1) J j v;generalize BC s Cf o=o1 at*;obtain⟨HN,K⟩:=zq2 m I;clear m I h hs;go_enter func138,ntmps138;unfold vs at*;go_wp2_with fail;refine HN.out.mono ?_;rintro e w1 ⟨x,rfl,B,hx,r1,J,C,M⟩;have cW:=J.row.lt;have cX:¬g=w1.heap.size:=by omega
 have D:=J.alloc (.cells #[vs x.is,vs x.br,.int .i64 x.pos] 255);have H:=D.drewN 1;have O:=(B.alloc (.inr B.size) (.cells #[vs x.is,vs x.br,.int .i64 x.pos] 255)).drewN 1;have x0:=(AE.new w1 255 [vs x.is,vs x.br,.int .i64 x.pos]);obtain⟨N,vd,p0,E⟩:=H.decls;have n:=Po x.br gp r1.decls vd _ E H.dl H.ba.lt ((H.ba.cell 0).trans p0);obtain⟨_,_,_,_,_,_,_,_,c8,_⟩:=D.cells;have d1:=x0.cell 1;simp at d1;have P:nw r1.decls x o1:=λt st ho=>K.out t st x r1 ho (hx t st ho) C;obtain⟨HF,HA,bj,X0,bn,HS,Q,p⟩:=zq8 n H O x0 E C M P;have P0:=Aa p0;clear n H D O x0 J B C M E P HN K p0 hx;unfold ED;unfold vs at*;go_wp2_with fail
 (refine Ds 6 (by kernel_rfl) (by kernel_rfl) ?_;simp only[Au,AH,Av,AJ];repeat still_step)
 refine BS ?_;go_wp2_with fail;refine HF.out.mono ?_;rintro e w2 ⟨rfl,k⟩;have j:=HA.out.kg (Jn k) (k.block g HA.out.row.lt);have R:=Kg.trans bj.out (Jn k);have x2:AE w2 w1.heap.size 255 [vs x.is,vs x.br,.int .i64 x.pos]:=(k.block _ (by simp)).trans X0.out;have d2:=x2.cell 2;simp at d2;obtain⟨_,_,_,_,_,_,_,_,di,_⟩:=j.cells;have q0:=(j.ba.cell 0).trans P0.out;have S:=bn.out.pV k;have n5:=Hu (e:=X7) j HS.out (by decide) x.pos;have n6:=Hu (e:=TV) j HS.out (by decide) x.pos;obtain⟨N5,N6,T,H2,q⟩:=zq5 n5 n6 S j R;clear n5 n6 j R x2 k c8 d1 S;rcases VO r1.decls x.br with G|⟨i,d,hi,G,hd⟩
 ·rw[G];have l:=Aa G;clear G;go_wp2_with fail;refine N5.out.mono ?_;rintro e w3 ⟨rfl,a,U,v,c,f⟩;have F:=Aa (And.intro a (And.intro v (And.intro c f)));clear a v c f;go_wp2;go_ret;obtain⟨V,X,Y,Z⟩:=F.out;obtain⟨y,z⟩:=uH (b:=b) p.out l.out Y;exact⟨0,rfl,Kg.trans q.out V,z,U,X,y,Z.trans Q.out⟩
 ·obtain⟨ao,dm,rfl⟩:=T.out.bz;obtain⟨gd,rfl,bp,u⟩:=T.out.nC (λ_=>rfl) hi;have y0:w2.cell? ⟨gd,i*3,none⟩=some (vs (B5 d.kind)):=u 0 (by omega);have dv:i<r1.decls.length:=(Aj.1 hi).1;rw[G];obtain⟨l,HI,A⟩:=zq3 G hi hd;have dy:=H2.out.dl;clear u hd hi G bp;generalize hL:r1.decls.length=L at*;have HL:=Aa hL;clear hL;by_cases j:d.kind=2
  ·rw[Wu j]at y0;have hk:=Aa (show(d.kind==2)=true by simpa using j);clear j;unfold vs at*;cases b with
   |true=>
    go_wp2;go_ret;obtain⟨y,z⟩:=xC (b:=true) p.out HI.out l.out A.out (by rw[hk.out];rfl) HS.out;exact⟨i,rfl,q.out,z,r1,H2.out,y,Q.out⟩
   |false=>
    go_wp2_with fail;refine N6.out.mono ?_;rintro e w3 ⟨rfl,a,U,v,c,f⟩;have F:=Aa (And.intro a (And.intro v (And.intro c f)));clear a v c f;go_wp2;go_ret;obtain⟨V,X,Y,Z⟩:=F.out;obtain⟨y,z⟩:=iE (b:=false) p.out HI.out l.out A.out (by rw[hk.out];rfl) Y;exact⟨i,rfl,Kg.trans q.out V,z,U,X,y,Z.trans Q.out⟩
  ·have e1:=YA j;have e2:decide (B5 d.kind=Jo)=false:=by simpa using e1
   have hk:=Aa (show(d.kind==2)=false by simpa using j);clear j;unfold vs at*;generalize B5 d.kind=W at*;cases b with
   |false=>
    go_wp2;go_ret;obtain⟨y,z⟩:=xC (b:=false) p.out HI.out l.out A.out (by rw[hk.out];rfl) HS.out;exact⟨i,rfl,q.out,z,r1,H2.out,y,Q.out⟩
   |true=>
    go_wp2_with fail;refine N6.out.mono ?_;rintro e w3 ⟨rfl,a,U,v,c,f⟩;have F:=Aa (And.intro a (And.intro v (And.intro c f)));clear a v c f;go_wp2;go_ret;obtain⟨V,X,Y,Z⟩:=F.out;obtain⟨y,z⟩:=iE (b:=true) p.out HI.out l.out A.out (by rw[hk.out];rfl) Y;exact⟨i,rfl,Kg.trans q.out V,z,U,X,y,Z.trans Q.out⟩
end
def mp (t:TypeId):Prop:=t≠253/\t≠222/\t≠224/\t≠255
instance (t:TypeId):Decidable (mp t):=by unfold mp;exact inferInstance
section
variable {w w':World}{g gp:Nat}{tl:Value}{ts:List CM}{pc:List Value}{r r':Fc}
theorem Gj.eV (h:Gj w g gp tl ts pc r) {n:Nat}{t:TypeId}{cs:List Value}(b:AE w n t cs) (a:mp t) (i:Nat) (u:Value):Gj (w.setCell ⟨n,i,none⟩ u) g gp tl ts pc r:=by obtain⟨N,c⟩:=h.jj;exact h.dc b ⟨a.1,a.2.1,a.2.2.1⟩ (c.bD b (λe=>a.2.2.2 e.symm)) i u
theorem Gj.put (h:Gj w g gp tl ts pc r) (i:Nat) (u:Value) {r':Fc}(a:(Pn tl gp r).set i u=Pn tl gp r') (b:r'.decls=r.decls):Gj (w.setCell ⟨g,i,none⟩ u) g gp tl ts pc r':=
 h.dv ((Ac.refl _ w).setCell (p:=⟨g,i,none⟩) (.inl rfl) u) (by have:=h.row.bF i u;rw[a]at this;exact this) b
end
structure RH (w0 w:World) (g gp:Nat) (tl:Value) (ts:List CM) (pc:List Value) (r:Fc) (ty:TypeId) (C:Nat) (cs:List Value):Prop where
 kg:Kg g w0 w
 rd:Gj w g gp tl ts pc r
 row:AE w C ty cs
 new:w0.heap.size<=C
 lE:mp ty
structure Mx (w0 w:World) (g gp:Nat) (tl:Value) (ts:List CM) (pc:List Value) (r:Fc) (ty:TypeId) (C:Nat) (cs:List Value) (D:Nat) (ds:List Value):Prop extends RH w0 w g gp tl ts pc r ty C cs where
 bH:AE w D ty ds
 ic:w0.heap.size<=D
 ne:C≠D
section
variable {w0 w w':World}{g gp:Nat}{tl:Value}{ts:List CM}{pc:List Value}{r r':Fc}{ty:TypeId}{C D:Nat}{cs ds:List Value}
theorem RH.start (h:Gj w g gp tl ts pc r) (a:mp ty) (cs:List Value):RH w (w.alloc (.cells cs.toArray ty)) g gp tl ts pc r ty w.heap.size cs:=
 ⟨(Ac.refl _ w).alloc (.inr (Ab _)) _,h.alloc _,AE.new w ty cs,Ab _,a⟩
theorem RH.call (h:RH w0 w g gp tl ts pc r ty C cs) (a:Kg g w w') (b:Gj w' g gp tl ts pc r'):RH w0 w' g gp tl ts pc r' ty C cs:=
 ⟨Kg.trans h.kg a,b,Em a h.row (h.row.bt h.rd.row h.lE.1),h.new,h.lE⟩
theorem RH.bF (h:RH w0 w g gp tl ts pc r ty C cs) (i:Nat) (u:Value):RH w0 (w.setCell ⟨C,i,none⟩ u) g gp tl ts pc r ty C (cs.set i u):=
 ⟨h.kg.setCell (p:=⟨C,i,none⟩) (.inr h.new) u,h.rd.eV h.row h.lE i u,h.row.bF i u,h.new,h.lE⟩
theorem RH.alloc (h:RH w0 w g gp tl ts pc r ty C cs) (o:Obj):RH w0 (w.alloc o) g gp tl ts pc r ty C cs:=
 ⟨h.kg.alloc (.inr h.kg.size) o,h.rd.alloc o,h.row.alloc o,h.new,h.lE⟩
theorem RH.drewN (h:RH w0 w g gp tl ts pc r ty C cs) (n:Nat):RH w0 (w.drewN n) g gp tl ts pc r ty C cs:=⟨h.kg.drewN n,h.rd.drewN n,h.row.drewN n,h.new,h.lE⟩
theorem Mx.start (h:RH w0 w g gp tl ts pc r ty C cs) (ds:List Value):Mx w0 (w.alloc (.cells ds.toArray ty)) g gp tl ts pc r ty C cs w.heap.size ds:=
 ⟨h.alloc _,AE.new w ty ds,h.kg.size,by have:=h.row.lt;omega⟩
theorem Mx.call (h:Mx w0 w g gp tl ts pc r ty C cs D ds) (a:Kg g w w') (b:Gj w' g gp tl ts pc r'):Mx w0 w' g gp tl ts pc r' ty C cs D ds:=
 ⟨h.toRH.call a b,Em a h.bH (h.bH.bt h.rd.row h.lE.1),h.ic,h.ne⟩
theorem Mx.bF (h:Mx w0 w g gp tl ts pc r ty C cs D ds) (i:Nat) (u:Value):Mx w0 (w.setCell ⟨C,i,none⟩ u) g gp tl ts pc r ty C (cs.set i u) D ds:=
 ⟨h.toRH.bF i u,h.bH.dc (λe=>h.ne e.symm) u,h.ic,h.ne⟩
theorem Mx.cL (h:Mx w0 w g gp tl ts pc r ty C cs D ds) (i:Nat) (u:Value):Mx w0 (w.setCell ⟨D,i,none⟩ u) g gp tl ts pc r ty C cs D (ds.set i u):=
 ⟨⟨h.kg.setCell (p:=⟨D,i,none⟩) (.inr h.ic) u,h.rd.eV h.bH h.lE i u,h.row.dc h.ne u,h.new,h.lE⟩,h.bH.bF i u,h.ic,h.ne⟩
theorem Mx.alloc (h:Mx w0 w g gp tl ts pc r ty C cs D ds) (o:Obj):Mx w0 (w.alloc o) g gp tl ts pc r ty C cs D ds:=⟨h.toRH.alloc o,h.bH.alloc o,h.ic,h.ne⟩
theorem Mx.drewN (h:Mx w0 w g gp tl ts pc r ty C cs D ds) (n:Nat):Mx w0 (w.drewN n) g gp tl ts pc r ty C cs D ds:=⟨h.toRH.drewN n,h.bH.drewN n,h.ic,h.ne⟩
theorem Mx.put (h:Mx w0 w g gp tl ts pc r ty C cs D ds) (i:Nat) (u:Value) {r':Fc}(a:(Pn tl gp r).set i u=Pn tl gp r') (b:r'.decls=r.decls):Mx w0 (w.setCell ⟨g,i,none⟩ u) g gp tl ts pc r' ty C cs D ds:=
 h.call ((Ac.refl _ w).setCell (p:=⟨g,i,none⟩) (.inl rfl) u) (h.rd.put i u a b)
end
def Ano (w:World) (g gp:Nat) (tl:Value) (ts:List CM) (pc:List Value) (s:Ah) (ds:List Bi) (o:AO Qw) (e:Ending) (w':World):Prop:=
 ∃(k:Ah) (n:Int),e= .returned (.agg #[vs k,.int .i64 n])/\Kg g w w'/\(∀v st,o= .ok v st->st.bC=none->[vs k,.int .i64 n]=Fk v)/\∃r',Gj w' g gp tl ts pc r'/\Bo s r' o/\r'.decls=ds
def Qd {α:Type} (s:Ah) (o:AO α):AO Qw:=o.bind λ_ st=>value s st
theorem Jk {α β:Type}{f:α->β}{o:AO α}{b:β}{st:PS}(h:o.map f= .ok b st):∃a,o= .ok a st/\f a=b:=NF h
theorem Bo.map {α β:Type}{s:Ah}{r:Fc}{o:AO α}(h:Bo s r o) (f:α->β):Bo s r (o.map f):=by
 cases o with
 |bad e p=>exact h
 |ok a st=>exact h
section
variable {α:Type}{s:Ah}{o:AO α}
theorem nR (h:o.bu Bv=true):Qd s o=(Ha s 0 999 o).map .num:=by obtain⟨a,st,rfl,b⟩:=AO.iP h;show value s st=_;unfold value;rw[Al b];rfl
theorem nS (d:o.bu Bv=false) (h:o.bu JK=true):Qd s o=(SH s false (DY s JK o)).map .len:=by obtain⟨a,st,rfl,b,c⟩:=Gx (s:=s) h;rw[c];show value s st=_;unfold value;rw[Ai (by rw[b];decide),Al b];rfl
theorem jB (d:o.bu Bv=false) (e:o.bu JK=false) (h:o.bu Cx=true):Qd s o=(DY s Cx o).map λ_=>.aD:=by obtain⟨a,st,rfl,b,c⟩:=Gx (s:=s) h;rw[c];show value s st=_;unfold value;rw[Ai (by rw[b];decide),Ai (by rw[b];decide),Al b];rfl
theorem nQ (b:o.bu Bv=false) (c:o.bu JK=false) (d:o.bu Cx=false):Qd s o=(SH s true o).map .var:=by
 cases o with
 |bad e p=>rfl
 |ok a st=>
  have f:¬st.t.kind=Bv:=by simpa[AO.bu]using b
  have h:¬st.t.kind=JK:=by simpa[AO.bu]using c
  have i:¬st.t.kind=Cx:=by simpa[AO.bu]using d
  show value s st=_;unfold value;rw[Ai f,Ai h,Ai i];rfl
theorem LK {k:Ah}:(o.bind λ_ st=>AO.ok () st).bu k=o.bu k:=by cases o<;>rfl
theorem dM {k:Ah}:DY s k (o.bind λ_ st=>AO.ok () st)=DY s k o:=by cases o<;>rfl
theorem aJ {b:Bool}:SH s b (o.bind λ_ st=>AO.ok () st)=SH s b o:=by cases o<;>rfl
end
theorem Rg (w:World):(Go.sizeOf 258).run prog w= .ok 2 w:=by kernel_rfl
theorem Us (w:World):(isAgg 258).run prog w= .ok true w:=by kernel_rfl
section
variable {w:World}{g gp:Nat}{tl:Value}{ts:List CM}{pc:List Value}{r:Fc}{s:Ah}{α:Type}{o:AO α}
theorem U1 (h:Gj w g gp tl ts pc r) (Y:Bo s r o) (Z:D6 ts (jj s)):Calls prog 169 #[.pointer (some ⟨g,0,none⟩)] w (Ano w g gp tl ts pc s r.decls (Qd s o)):=by
 have q0:=RH.start (ty:=258) h (by decide) [vs [],.int .i64 0];have q:=Ka q0.rd Y Z (kd:=Bv) (kr:=Ky) (by decide) (by decide);obtain⟨Q0,Q,HS⟩:=zq3 q0 Z Y;cases P:o.bu Bv with
 |true=>
  rw[P]at q;obtain⟨HI,R⟩:=zq2 q P;clear q0 h q Z Y P;unfold vs at*;go_enter func169,ntmps169;go_wp2_with fail;refine HI.out.mono ?_;rintro e w1 ⟨rfl,n,rfl⟩;have A:=Q0.out.drewN n;have y:=Kl A.rd HS.out Q.out 0 999;obtain⟨Q1,S⟩:=zq2 A y;clear A y;go_wp2_with fail;refine S.out.mono ?_;rintro e w2 ⟨v,rfl,i,B,r2,E,c,d⟩;have p:=Q1.out.call i E;have f:=(p.bF 0 (vs kh)).bF 1 (.int .i64 v);have z:=λj=>p.row.frozen j;have H:=p.row.cell 0;have I:=p.row.cell 1;obtain⟨T,F⟩:=zq2 f (And.intro B (And.intro c d));clear p f i E B c d;simp at H I;unfold vs at*;go_wp2;refine AA (AP (cs:=[vs kh,.int .i64 v]) Ut Us Rg rfl T.out.row) rfl ?_;obtain⟨U,J,K⟩:=F.out;rw[nR R.out];refine⟨kh,v,rfl,T.out.kg,λx st e _=>?_,r2,T.out.rd,J.map _,K⟩;obtain⟨a,e1,rfl⟩:=Jk e;rw[U a st e1];rfl
 |false=>
  rw[P]at q;obtain⟨HI,R⟩:=zq2 q P;clear q0 h q Z Y P;unfold vs at*;go_enter func169,ntmps169;go_wp2_with fail;refine HI.out.mono ?_;rintro e w1 ⟨rfl,n,rfl⟩;have A:=Q0.out.drewN n;have b:=FI A.rd HS.out Q.out (kd:=JK) (kr:=JK) (by decide) (by decide) (by decide) (by decide);have Q1:=Aa A;cases L:o.bu JK with
  |true=>
   rw[L]at b;obtain⟨M,B1⟩:=zq2 b L;clear A b L;unfold vs at*;go_wp2_with fail;refine M.out.mono ?_;rintro e w2 ⟨rfl,i,r2,E,c,d⟩;have p:=Q1.out.call i E;have y:=Ft p.rd c Q.out false;rw[d]at y;obtain⟨Q2,S⟩:=zq2 p y;clear p y i E c d;go_wp2_with fail;refine S.out.mono ?_;rintro e w3 ⟨v,rfl,k,B,r3,G,l,m⟩;have f:=Q2.out.call k G;have t:=(f.bF 0 (vs JK)).bF 1 (.int .i64 v);have z:=λj=>f.row.frozen j;have H:=f.row.cell 0;have I:=f.row.cell 1;obtain⟨N,F⟩:=zq2 t (And.intro B (And.intro l m));clear f t k G B l m;simp at H I;unfold vs at*;go_wp2;refine AA (AP (cs:=[vs JK,.int .i64 v]) Ut Us Rg rfl N.out.row) rfl ?_;obtain⟨U,J,K⟩:=F.out;rw[nS R.out B1.out];refine⟨JK,v,rfl,N.out.kg,λx st e hw=>?_,r3,N.out.rd,J.map _,K⟩;obtain⟨a,e1,rfl⟩:=Jk e;rw[U a st e1 hw];rfl
  |false=>
   rw[L,Gq L]at b;obtain⟨M,B1⟩:=zq2 b L;clear A b L;unfold vs at*;go_wp2_with fail;refine M.out.mono ?_;rintro e w2 ⟨rfl,i,r2,E,c,d⟩;have p:=Q1.out.call i E;have b:=FI p.rd c Q.out (kd:=Cx) (kr:=Cx) (by decide) (by decide) (by decide) (by decide);rw[LK,dM,d]at b;obtain⟨Q2,bz,bC⟩:=zq3 p c d;clear i E c d;cases O:o.bu Cx with
   |true=>
    rw[O]at b;obtain⟨u,B2⟩:=zq2 b O;clear p b O;unfold vs at*;go_wp2_with fail;refine u.out.mono ?_;rintro e w3 ⟨rfl,k,r3,G,l,m⟩;have f:=Q2.out.call k G;have t:=(f.bF 0 (vs Cx)).bF 1 (.int .i64 0);have z:=λj=>f.row.frozen j;have H:=f.row.cell 0;have I:=f.row.cell 1;obtain⟨N,F⟩:=zq2 t (And.intro l m);clear f t k G l m;simp at H I;unfold vs at*;go_wp2;refine AA (AP (cs:=[vs Cx,.int .i64 0]) Ut Us Rg rfl N.out.row) rfl ?_;obtain⟨J,K⟩:=F.out;rw[jB R.out B1.out B2.out];refine⟨Cx,0,rfl,N.out.kg,λx st e hw=>?_,r3,N.out.rd,J.map _,K⟩;obtain⟨a,e1,rfl⟩:=Jk e;rfl
   |false=>
    rw[O,Gq O]at b;obtain⟨u,B2⟩:=zq2 b O;clear p b O;unfold vs at*;go_wp2_with fail;refine u.out.mono ?_;rintro e w3 ⟨rfl,k,r3,G,l,m⟩;have f:=Q2.out.call k G;have y:=Ft f.rd l Q.out true;rw[m,aJ]at y;obtain⟨T,S⟩:=zq2 f y;clear f y k G l m;go_wp2_with fail;refine S.out.mono ?_;rintro e w4 ⟨v,rfl,V,B,r4,h4,W,X⟩;have t:=T.out.call V h4;have q5:=(t.bF 0 (vs Jo)).bF 1 (.int .i64 v);have z:=λj=>t.row.frozen j;have H:=t.row.cell 0;have I:=t.row.cell 1;obtain⟨Q5,F⟩:=zq2 q5 (And.intro B (And.intro W X));clear t q5 V h4 B W X;simp at H I;unfold vs at*;go_wp2;refine AA (AP (cs:=[vs Jo,.int .i64 v]) Ut Us Rg rfl Q5.out.row) rfl ?_;obtain⟨U,J,K⟩:=F.out;rw[nQ R.out B1.out B2.out];refine⟨Jo,v,rfl,Q5.out.kg,λx st e hw=>?_,r4,Q5.out.rd,J.map _,K⟩;obtain⟨a,e1,rfl⟩:=Jk e;rw[U a st e1 hw];rfl
end
def Ag2 (w:World) (g gp:Nat) (tl:Value) (ts:List CM) (pc:List Value) (s:Ah) (ds:List Bi) (o:AO C3) (e:Ending) (w':World):Prop:=
 ∃(k:Ah) (n:Int) (a:Ah) (n1:Int) (b:Ah) (d j:Int),e= .returned (.agg #[vs k,.int .i64 n,vs a,.int .i64 n1,vs b,.int .i64 d,.int .i64 j])/\Kg g w w'/\
  (∀c st,o= .ok c st->st.bC=none->[vs k,.int .i64 n,vs a,.int .i64 n1,vs b,.int .i64 d,.int .i64 j]=Dg c)/\∃r',Gj w' g gp tl ts pc r'/\Bo s r' o/\r'.decls=ds
def Dd {α:Type} (s:Ah) (o:AO α):Nat:=match o with
 | .ok _ st=>left s st
 | .bad _ _=>0
def CB {α:Type} (s:Ah) (n:Nat) (o:AO α):AO C3:=o.bind λ_ st=>cond s n st
def bI (j:Nat) (c:C3):C3:=⟨c.k,c.bI+j⟩
def aR (s:Ah) {α:Type} (o:AO α):AO C3:=(Qd s o).bind λa st=>(want s ER st).bind λ_ st=>(value s st).map λb=>⟨.less a b,0⟩
def TX (s:Ah) {α:Type} (o:AO α):AO C3:=o.bind λ_ st=>ET s st
section
variable {α:Type}{s:Ah}{o:AO α}
theorem pi (s:Ah) (st:PS):left s st<=s.length+1:=by unfold left;omega
theorem Vp (o:AO α):Dd s o<=s.length+1:=by
 cases o with
 |ok a st=>exact pi s st
 |bad e p=>exact AQ _
theorem lY {n:Nat}(h:o.bu KU=true):CB s (n+1) o=(CB s n (DY s KU o)).map (bI 1):=by obtain⟨a,st,rfl,b,c⟩:=Gx (s:=s) h;rw[c];show cond s (n+1) st=_;rw[cond,Al b];rfl
theorem ph {r:Fc}(b:Bo s r o) (h:o.bu KU=true):Dd s (DY s KU o)<Dd s o:=by obtain⟨a,st,rfl,c,d⟩:=Gx (s:=s) h;rw[d];exact D3 (AF.ok b) c (by decide) (by decide)
theorem oZ (o:AO C3) (j:Nat):(o.map (bI 1)).map (bI j)=o.map (bI (j+1)):=by
 cases o with
 |bad e p=>rfl
 |ok c st=>
  show AO.ok (bI j (bI 1 c)) st=AO.ok (bI (j+1) c) st;unfold bI;simp only[EU,FA 1 j]
theorem kD (o:AO C3):o.map (bI 0)=o:=by cases o<;>rfl
theorem fL {n:Nat}(h:o.bu KU=false):CB s (n+1) o=TX s (o.bind λ_ st=>AO.ok () st):=by
 cases o with
 |bad e p=>rfl
 |ok a st=>
  have b:¬st.t.kind=KU:=by simpa[AO.bu]using h
  show cond s (n+1) st=_;rw[cond,Ai b];rfl
theorem fX (h:o.bu E4=true):TX s o=(SH s false (DY s E4 o)).map λn=>⟨.full n,0⟩:=by obtain⟨a,st,rfl,b,c⟩:=Gx (s:=s) h;rw[c];show ET s st=_;unfold ET;rw[Al b];rfl
theorem cG (h:o.bu DJ=true):TX s o=(SH s false (DY s DJ o)).map λn=>⟨.empty n,0⟩:=by obtain⟨a,st,rfl,b,c⟩:=Gx (s:=s) h;rw[c];show ET s st=_;unfold ET;rw[Ai (by rw[b];decide),Al b];rfl
theorem fV (h:o.bu E3=true):TX s o=(SH s false (DY s E3 o)).map λn=>⟨.eU n,0⟩:=by obtain⟨a,st,rfl,b,c⟩:=Gx (s:=s) h;rw[c];show ET s st=_;unfold ET;rw[Ai (by rw[b];decide),Ai (by rw[b];decide),Al b];rfl
theorem fW (b:o.bu E4=false) (c:o.bu DJ=false) (d:o.bu E3=false):TX s o=aR s o:=by
 cases o with
 |bad e p=>rfl
 |ok a st=>
  have f:¬st.t.kind=E4:=by simpa[AO.bu]using b
  have h:¬st.t.kind=DJ:=by simpa[AO.bu]using c
  have i:¬st.t.kind=E3:=by simpa[AO.bu]using d
  show ET s st=_;unfold ET;rw[Ai f,Ai h,Ai i];rfl
theorem kL {r:Fc}(h:Bo s r (Qd s (BC s ER (Qd s o)))):Bo s r (aR s o):=by
 unfold aR;cases c:Qd s o with
 |bad e p=>rw[c]at h;exact h
 |ok a st1=>
  rw[c]at h;show Bo s r ((want s ER st1).bind _);have e:BC s ER (AO.ok a st1)=want s ER st1:=rfl;rw[e]at h;cases d:want s ER st1 with
  |bad e p=>rw[d]at h;exact h
  |ok t b=>
   rw[d]at h;exact Bo.map (show Bo s r (value s b)from h) _
theorem uQ {c:C3}{st:PS}(h:aR s o= .ok c st):∃a st1 t d b,Qd s o= .ok a st1/\BC s ER (Qd s o)= .ok t d/\Qd s (BC s ER (Qd s o))= .ok b st/\c=⟨.less a b,0⟩:=by
 unfold aR at h;obtain⟨a,st1,f,i⟩:=AC h;obtain⟨t,d,j,k⟩:=AC i;obtain⟨b,l,m⟩:=NF k;have e:BC s ER (Qd s o)= .ok t d:=by rw[f];exact j
 exact⟨a,st1,t,d,b,f,e,by rw[e];exact l,m.symm⟩
theorem jA {o2:AO α}{b:Qw}{st:PS}{a:α}{c:PS}{r:Fc}(d:Bo s r o2) (e:o2= .ok a c) (h:Qd s o2= .ok b st) (f:st.bC=none):c.bC=none:=by subst e;exact(QY (AF.ok d) h).1.bC f
theorem UM {k:Ah}{c:AO α}{a:α}{st1 b:PS}{t:MS}(d:c= .ok a st1) (h:BC s k c= .ok t b) (e:b.bC=none):st1.bC=none:=by subst d;obtain⟨_,_,rfl⟩:=BF (show want s k st1= .ok t b from h);exact e
end
theorem Pm (w:World):(Go.sizeOf 260).run prog w= .ok 7 w:=by kernel_rfl
theorem Sp (w:World):(isAgg 260).run prog w= .ok true w:=by kernel_rfl
theorem Pc {w:World}{C:Nat}{t:TypeId}{a b c d e f i:Value}(h:AE w C t [a,b,c,d,e,f,i]):
  w.cell? ⟨C,0,none⟩=some a/\w.cell? ⟨C,1,none⟩=some b/\w.cell? ⟨C,2,none⟩=some c/\w.cell? ⟨C,3,none⟩=some d/\w.cell? ⟨C,4,none⟩=some e/\w.cell? ⟨C,5,none⟩=some f/\w.cell? ⟨C,6,none⟩=some i:=
 ⟨h.cell 0,h.cell 1,h.cell 2,h.cell 3,h.cell 4,h.cell 5,h.cell 6⟩
abbrev Ow:List Value:=[vs [],.int .i64 0,vs [],.int .i64 0,vs [],.int .i64 0,.int .i64 0]
section
variable {w w0:World}{g gp:Nat}{tl:Value}{ts:List CM}{pc:List Value}{r:Fc}{s:Ah}{α:Type}{o:AO α}{C D:Nat}{ty:TypeId}{ds:List Value}
theorem Mx.lx (h:Mx w0 w g gp tl ts pc r ty C Ow D ds) (a b c d e f i:Value):
  Mx w0 (((((((w.setCell ⟨C,0,none⟩ a).setCell ⟨C,1,none⟩ b).setCell ⟨C,2,none⟩ c).setCell ⟨C,3,none⟩ d).setCell ⟨C,4,none⟩ e).setCell ⟨C,5,none⟩ f).setCell ⟨C,6,none⟩ i) g gp tl ts pc r ty C [a,b,c,d,e,f,i] D ds:=
 ((((((h.bF 0 a).bF 1 b).bF 2 c).bF 3 d).bF 4 e).bF 5 f).bF 6 i
def Ss (w:World) (E:Nat):Prop:=AE w E 9 [vs E4,vs DJ,vs E3]
theorem Ss.kg {w':World}{E:Nat}(h:Ss w E) (a:Kg g w w') (b:AE w g 253 ds):Ss w' E:=Em a h (h.bt b (by decide))
theorem Xx (h:Gj w g gp tl ts pc r) (hs:Bo s r o) (ht:D6 ts (jj s)) (hl:s.length<=1000) {n:Nat}(hn:Dd s o<n):Calls prog 166 #[.pointer (some ⟨g,0,none⟩)] w (Ag2 w g gp tl ts pc s r.decls (CB s n o)):=by
 have q0:=Mx.start (RH.start (ty:=260) h (by decide) Ow) Ow;have HT:=Aa ht;have iS:=Vp (s:=s) o;have S:∃(j m:Nat) (P:AO Unit) (r1:Fc),Mx w ((w.alloc (.cells Ow.toArray 260)).alloc (.cells Ow.toArray 260)) g gp tl ts pc r1 260 w.heap.size Ow (w.heap.size+1) [vs [],.int .i64 0,vs [],.int .i64 0,vs [],.int .i64 0,.int .i64 (j:Int)]/\Bo s r1 P/\r1.decls=r.decls/\CB s n o=(CB s m P).map (bI j)/\Dd s P<m/\Dd s P<=Dd s o/\j+Dd s P<=Dd s o:=by
  refine⟨0,n,o.bind λ_ st=>.ok () st,r,?_,hs.unit,rfl,?_,?_,?_,?_⟩
  ·simpa using q0
  ·rw[kD];cases o<;>rfl
  ·cases o<;>exact hn
  ·cases o<;>exact Ab _
  ·cases o<;>simp[Dd,AO.bind]
 have dh:=Aa S;clear q0 h hs ht S hn;unfold vs at*;go_enter func166,ntmps166;go_wp2_with fail
 go_loopg [] (Dd s o) (λkk wr=>∃(j m:Nat) (P:AO Unit) (r1:Fc),Mx w wr g gp tl ts pc r1 260 w.heap.size Ow (w.heap.size+1) [vs [],.int .i64 0,vs [],.int .i64 0,vs [],.int .i64 0,.int .i64 (j:Int)]/\Bo s r1 P/\r1.decls=r.decls/\CB s n o=(CB s m P).map (bI j)/\Dd s P<m/\Dd s P<=kk/\j+Dd s P<=Dd s o)
 case atStart=>exact dh.out
 case round=>
  obtain⟨j,m,P,r1,Q,aD,bE,U,hm,di,hj⟩:=hrel;have d:=FI Q.rd aD HT.out (kd:=KU) (kr:=KU) (by decide) (by decide) (by decide) (by decide);obtain⟨V,fi,bF,B⟩:=zq4 Q aD bE U;obtain⟨m,rfl⟩:∃x,m=x+1:=⟨m-1,by omega⟩;cases b0:P.bu KU with
  |true=>
   rw[b0]at d;have iV:=ph aD b0;obtain⟨p,B0⟩:=zq2 d b0;clear d b0 Q aD bE U;unfold vs at*;go_wp2_with fail;refine p.out.mono ?_;rintro e w2 ⟨rfl,ba,r2,h2,be,bf⟩;have q2:=V.out.call ba h2;have q3:=q2.cL 6 (.int .i64 ((j:Int)+1));have z:=λj=>q2.bH.frozen j;have d6:=q2.bH.cell 6;obtain⟨Q3,F⟩:=zq2 q3 (And.intro be bf);clear q2 q3 ba h2 be bf;simp at d6;go_wp2;go_roundg (Dd s (DY s KU P))
   case measure=>omega
   case rel=>
    obtain⟨W,X⟩:=F.out;refine⟨j+1,m,_,r2,?_,W,X.trans bF.out,?_,by omega,Ab _,by omega⟩
    ·exact Q3.out
    ·rw[B.out,lY B0.out,oZ]
  |false=>
   rw[b0,Gq b0]at d;obtain⟨p,B0⟩:=zq2 d b0;clear d b0 Q aD bE U hm di;unfold vs at*;go_wp2_with fail;refine p.out.mono ?_;rintro e w2 ⟨rfl,ba,r2,h2,be,bf⟩;have q2:=V.out.call ba h2;have Q2:=Aa (q2.alloc (.cells #[vs E4,vs DJ,vs E3] 9));have dm:Ss (w2.alloc (.cells #[vs E4,vs DJ,vs E3] 9)) w2.heap.size:=AE.new w2 9 [vs E4,vs DJ,vs E3];have br:CB s n o=(TX s (P.bind λ_ st=>AO.ok () st)).map (bI j):=by rw[B.out,fL B0.out]
   obtain⟨T,dr,dt,dv⟩:=zq4 br dm be (bf.trans bF.out);clear q2 ba h2 be bf br dm B fi bF p V dh B0;generalize (P.bind λ_ st=>AO.ok () st)=o2 at*;go_wp2;generalize w2.heap.size=E at*
   go_loopg [15] 3 (λkk fm wr=>∃(k:Nat) (K:AO Unit) (r3:Fc),k<=3/\3-k<=kk/\fm= .int .i64 k/\Mx w wr g gp tl ts pc r3 260 w.heap.size Ow (w.heap.size+1) [vs [],.int .i64 0,vs [],.int .i64 0,vs [],.int .i64 0,.int .i64 (j:Int)]/\Ss wr E/\Bo s r3 K/\r3.decls=r.decls/\TX s o2=TX s K/\
    (0<k->K.bu E4=false)/\(1<k->K.bu DJ=false)/\(2<k->K.bu E3=false))
   case atStart=>exact⟨0,o2,r2,by omega,by omega,rfl,Q2.out,dr.out,dt.out,dv.out,rfl,by omega,by omega,by omega⟩
   case round=>
    clear Q2 dr dt dv hj;obtain⟨k,K,r3,fo,di,rfl,Q,hW,dy,dz,U,i0,i1,i2⟩:=hrel;obtain⟨y0,y1,y2,jh⟩:=zp4 (hW.cell 0) (hW.cell 1) (hW.cell 2) hW.lt;obtain⟨V,HW,bo,R,B⟩:=zq5 Q hW dy dz U;clear dy dz U hW;simp at y0 y1 y2;have ft:k=0\/k=1\/k=2\/k=3:=by omega
    clear fo;rcases ft with rfl|rfl|rfl|rfl
    ·have d:=FI Q.rd bo.out HT.out (kd:=E4) (kr:=E4) (by decide) (by decide) (by decide) (by decide);clear i0 i1 i2;clear Q;cases G:K.bu E4 with
     |true=>
      rw[G]at d;obtain⟨p,B1⟩:=zq2 d G;clear d G;unfold vs at*;go_wp2_with fail;refine p.out.mono ?_;rintro e w4 ⟨rfl,f,r4,L,i,l⟩;have q:=V.out.call f L;have M:=q.cL 0 (vs E4);have z:=λj=>q.bH.frozen j;have d0:=q.bH.cell 0;have H:=Ft M.rd i HT.out false;rw[l]at H;obtain⟨Q5,bi⟩:=zq2 M H;clear q M f L i l H y0 y1 y2;simp at d0;unfold vs at*;go_wp2_with fail;clear z d0;refine bi.out.mono ?_;rintro e w5 ⟨v,rfl,I,N,r5,h5,u,J⟩;have A:=Q5.out.call I h5;obtain⟨e0,e1,e2,e3,e4,e5,e6⟩:=Pc A.bH;obtain⟨c0,c1,c2,c3,c4,c5,c6⟩:=Pc A.row;have z:=λj=>A.bH.frozen j;have y:=λj=>A.row.frozen j;have cW:¬w.heap.size=w.heap.size+1:=by omega
      have Z:=(A.cL 1 (.int .i64 v)).lx (vs E4) (.int .i64 v) (vs []) (.int .i64 0) (vs []) (.int .i64 0) (.int .i64 j);obtain⟨Y,F⟩:=zq2 Z (And.intro N (And.intro u J));clear A Z I h5 N u J;unfold vs at*;go_wp2;refine AA (AP (cs:=[vs E4,.int .i64 v,vs [],.int .i64 0,vs [],.int .i64 0,.int .i64 j]) Uu Sp Pm rfl Y.out.row) rfl ?_;obtain⟨W,X,f3⟩:=F.out;rw[T.out,B.out,fX B1.out];refine⟨E4,v,[],0,[],0,j,rfl,Y.out.kg,λc st e hw=>?_,r5,Y.out.rd,(X.map _).map _,f3.trans R.out⟩;obtain⟨c1,e1,rfl⟩:=Jk e;obtain⟨a,e2,rfl⟩:=Jk e1;rw[W a st e2 hw];simp[bI,Dg,BV,Bs,IC]
     |false=>
      rw[G,Gq G]at d;obtain⟨p,B1⟩:=zq2 d G;clear d G;unfold vs at*;go_wp2_with fail;refine p.out.mono ?_;rintro e w4 ⟨rfl,f,r4,L,i,l⟩;have q:=V.out.call f L;have O:=HW.out.kg f V.out.rd.row;obtain⟨Q4,W4,F⟩:=zq3 q O (And.intro i l);clear q f L i l O y0 y1 y2;go_wp2;go_roundg 2
      case measure=>omega
      case rel=>
       obtain⟨W,X⟩:=F.out;refine⟨1,_,r4,by omega,by omega,rfl,Q4.out,W4.out,W,X.trans R.out,?_,λ_=>(LK (o:=K)).trans B1.out,by omega,by omega⟩;rw[B.out];cases K<;>rfl
    ·have d:=FI Q.rd bo.out HT.out (kd:=DJ) (kr:=DJ) (by decide) (by decide) (by decide) (by decide);have I0:=Aa (i0 (by omega));clear i0 i1 i2;clear Q;cases G:K.bu DJ with
     |true=>
      rw[G]at d;obtain⟨p,B1⟩:=zq2 d G;clear d G;unfold vs at*;go_wp2_with fail;refine p.out.mono ?_;rintro e w4 ⟨rfl,f,r4,L,i,l⟩;have q:=V.out.call f L;have M:=q.cL 0 (vs DJ);have z:=λj=>q.bH.frozen j;have d0:=q.bH.cell 0;have H:=Ft M.rd i HT.out false;rw[l]at H;obtain⟨Q5,bi⟩:=zq2 M H;clear q M f L i l H y0 y1 y2;simp at d0;unfold vs at*;go_wp2_with fail;clear z d0;refine bi.out.mono ?_;rintro e w5 ⟨v,rfl,I,N,r5,h5,u,J⟩;have A:=Q5.out.call I h5;obtain⟨e0,e1,e2,e3,e4,e5,e6⟩:=Pc A.bH;obtain⟨c0,c1,c2,c3,c4,c5,c6⟩:=Pc A.row;have z:=λj=>A.bH.frozen j;have y:=λj=>A.row.frozen j;have cW:¬w.heap.size=w.heap.size+1:=by omega
      have Z:=(A.cL 1 (.int .i64 v)).lx (vs DJ) (.int .i64 v) (vs []) (.int .i64 0) (vs []) (.int .i64 0) (.int .i64 j);obtain⟨Y,F⟩:=zq2 Z (And.intro N (And.intro u J));clear A Z I h5 N u J;unfold vs at*;go_wp2;refine AA (AP (cs:=[vs DJ,.int .i64 v,vs [],.int .i64 0,vs [],.int .i64 0,.int .i64 j]) Uu Sp Pm rfl Y.out.row) rfl ?_;obtain⟨W,X,f3⟩:=F.out;rw[T.out,B.out,cG B1.out];refine⟨DJ,v,[],0,[],0,j,rfl,Y.out.kg,λc st e hw=>?_,r5,Y.out.rd,(X.map _).map _,f3.trans R.out⟩;obtain⟨c1,e1,rfl⟩:=Jk e;obtain⟨a,e2,rfl⟩:=Jk e1;rw[W a st e2 hw];simp[bI,Dg,BV,Bs,IC]
     |false=>
      rw[G,Gq G]at d;obtain⟨p,B1⟩:=zq2 d G;clear d G;unfold vs at*;go_wp2_with fail;refine p.out.mono ?_;rintro e w4 ⟨rfl,f,r4,L,i,l⟩;have q:=V.out.call f L;have O:=HW.out.kg f V.out.rd.row;obtain⟨Q4,W4,F⟩:=zq3 q O (And.intro i l);clear q f L i l O y0 y1 y2;go_wp2;go_roundg 1
      case measure=>omega
      case rel=>
       obtain⟨W,X⟩:=F.out;refine⟨2,_,r4,by omega,by omega,rfl,Q4.out,W4.out,W,X.trans R.out,?_,λ_=>(LK (o:=K)).trans I0.out,λ_=>(LK (o:=K)).trans B1.out,by omega⟩;rw[B.out];cases K<;>rfl
    ·have d:=FI Q.rd bo.out HT.out (kd:=E3) (kr:=E3) (by decide) (by decide) (by decide) (by decide);obtain⟨I0,I1⟩:=zq2 (i0 (by omega)) (i1 (by omega));clear i0 i1 i2;clear Q;cases G:K.bu E3 with
     |true=>
      rw[G]at d;obtain⟨p,B1⟩:=zq2 d G;clear d G;unfold vs at*;go_wp2_with fail;refine p.out.mono ?_;rintro e w4 ⟨rfl,f,r4,L,i,l⟩;have q:=V.out.call f L;have M:=q.cL 0 (vs E3);have z:=λj=>q.bH.frozen j;have d0:=q.bH.cell 0;have H:=Ft M.rd i HT.out false;rw[l]at H;obtain⟨Q5,bi⟩:=zq2 M H;clear q M f L i l H y0 y1 y2;simp at d0;unfold vs at*;go_wp2_with fail;clear z d0;refine bi.out.mono ?_;rintro e w5 ⟨v,rfl,I,N,r5,h5,u,J⟩;have A:=Q5.out.call I h5;obtain⟨e0,e1,e2,e3,e4,e5,e6⟩:=Pc A.bH;obtain⟨c0,c1,c2,c3,c4,c5,c6⟩:=Pc A.row;have z:=λj=>A.bH.frozen j;have y:=λj=>A.row.frozen j;have cW:¬w.heap.size=w.heap.size+1:=by omega
      have Z:=(A.cL 1 (.int .i64 v)).lx (vs E3) (.int .i64 v) (vs []) (.int .i64 0) (vs []) (.int .i64 0) (.int .i64 j);obtain⟨Y,F⟩:=zq2 Z (And.intro N (And.intro u J));clear A Z I h5 N u J;unfold vs at*;go_wp2;refine AA (AP (cs:=[vs E3,.int .i64 v,vs [],.int .i64 0,vs [],.int .i64 0,.int .i64 j]) Uu Sp Pm rfl Y.out.row) rfl ?_;obtain⟨W,X,f3⟩:=F.out;rw[T.out,B.out,fV B1.out];refine⟨E3,v,[],0,[],0,j,rfl,Y.out.kg,λc st e hw=>?_,r5,Y.out.rd,(X.map _).map _,f3.trans R.out⟩;obtain⟨c1,e1,rfl⟩:=Jk e;obtain⟨a,e2,rfl⟩:=Jk e1;rw[W a st e2 hw];simp[bI,Dg,BV,Bs,IC]
     |false=>
      rw[G,Gq G]at d;obtain⟨p,B1⟩:=zq2 d G;clear d G;unfold vs at*;go_wp2_with fail;refine p.out.mono ?_;rintro e w4 ⟨rfl,f,r4,L,i,l⟩;have q:=V.out.call f L;have O:=HW.out.kg f V.out.rd.row;obtain⟨Q4,W4,F⟩:=zq3 q O (And.intro i l);clear q f L i l O y0 y1 y2;go_wp2;go_roundg 0
      case measure=>omega
      case rel=>
       obtain⟨W,X⟩:=F.out;refine⟨3,_,r4,by omega,by omega,rfl,Q4.out,W4.out,W,X.trans R.out,?_,λ_=>(LK (o:=K)).trans I0.out,λ_=>(LK (o:=K)).trans I1.out,λ_=>(LK (o:=K)).trans B1.out⟩;rw[B.out];cases K<;>rfl
    ·have I0:=Aa (i0 (by omega));obtain⟨I1,I2⟩:=zq2 (i1 (by omega)) (i2 (by omega));clear i0 i1 i2 y0 y1 y2;have q:=Q.cL 0 (vs ER);have z:=λj=>Q.bH.frozen j;have d0:=Q.bH.cell 0;have N:=U1 q.rd bo.out HT.out;obtain⟨Q4,HV⟩:=zq2 q N;clear q N Q;simp at d0;unfold vs at*;go_wp2_with fail;clear z d0;refine HV.out.mono ?_;rintro e w5 ⟨k1,n1,rfl,I,N,r5,h5,u,J⟩;have M:=Q4.out.call I h5;have A:=(M.cL 2 (vs k1)).cL 3 (.int .i64 n1);have z:=λj=>M.bH.frozen j;have d2:=M.bH.cell 2;have d3:=M.bH.cell 3;have eT:=EO A.rd u HT.out (kd:=ER) (kr:=ER) (by decide) (by decide) (by decide) (by decide);obtain⟨Q6,hU,F1⟩:=zq3 A eT (And.intro N (And.intro u J));clear M A I h5 N u J eT;simp at d2 d3;unfold vs at*;go_wp2_with fail;clear z d2 d3;refine hU.out.mono ?_;rintro e w6 ⟨x,rfl,eU,_,r6,h6,cY,eV⟩;have Z:=Q6.out.call eU h6;have N:=U1 Z.rd cY HT.out;obtain⟨Y,hY,F2⟩:=zq3 Z N (And.intro cY eV);clear Z eU h6 cY eV N;unfold ED vs;go_wp2_with fail;refine hY.out.mono ?_;rintro e w7 ⟨k2,n2,rfl,eY,eZ,r7,h7,fa,fb⟩;have q8:=Y.out.call eY h7;obtain⟨e0,e1,e2,e3,e4,e5,e6⟩:=Pc q8.bH;obtain⟨c0,c1,c2,c3,c4,c5,c6⟩:=Pc q8.row;have z:=λj=>q8.bH.frozen j;have y:=λj=>q8.row.frozen j;have cW:¬w.heap.size=w.heap.size+1:=by omega
     have q9:=((q8.cL 4 (vs k2)).cL 5 (.int .i64 n2)).lx (vs ER) (.int .i64 0) (vs k1) (.int .i64 n1) (vs k2) (.int .i64 n2) (.int .i64 j);obtain⟨Q9,F3⟩:=zq2 q9 (And.intro eZ (And.intro fa fb));clear q8 q9 eY h7 eZ fa fb;unfold vs at*;go_wp2;refine AA (AP (cs:=[vs ER,.int .i64 0,vs k1,.int .i64 n1,vs k2,.int .i64 n2,.int .i64 j]) Uu Sp Pm rfl Q9.out.row) rfl ?_;obtain⟨g1,g2,g3⟩:=F1.out;obtain⟨g4,g5⟩:=F2.out;obtain⟨g6,g7,g8⟩:=F3.out;rw[T.out,B.out,fW I0.out I1.out I2.out];refine⟨ER,0,k1,n1,k2,n2,j,rfl,Q9.out.kg,λc st e hw=>?_,r7,Q9.out.rd,(kL g7).map _,g8.trans (g5.trans (g3.trans R.out))⟩;obtain⟨c1,e1,rfl⟩:=Jk e;obtain⟨a,st1,t,lw,b,u1,u2,u3,rfl⟩:=uQ e1;have w2:=jA g4 u2 u3 hw;have w1:=UM u1 u2 w2;have x1:=g1 a st1 u1 w1;have x2:=g6 b st u3 hw;show [vs ER,Value.int .i64 0]++[vs k1,.int .i64 n1]++[vs k2,.int .i64 n2]++[.int .i64 (j:Int)]=_;rw[x1,x2];simp[bI,Dg,BV,Bs,IC]
end
def Ann (cs:List Value):Prop:=∃(k:Ah) (n m:Int) (t:Bool) (a:Ah) (b:Int) (c:Ah) (n1:Int) (d:Ah) (e j:Int) (f:Option Addr) (l1 h:Nat) (i:Option Addr) (l2 c2:Nat) (o:Bool),
 cs=[vs k,.int .i64 n,.int .i64 m,.bool t,vs a,.int .i64 b,vs c,.int .i64 n1,vs d,.int .i64 e,.int .i64 j,.slice f l1 h,.slice i l2 c2,.bool o]
def Sw (w:World) (g gp:Nat) (tl:Value) (ts:List CM) (pc:List Value) (s:Ah) (a:List Bi) (o:AO Az) (e:Ending) (w':World):Prop:=
 ∃cs,e= .returned (.agg cs.toArray)/\Ann cs/\Kg g w w'/\(∀x st,o= .ok x st->st.bC=none->AL (λk=>w.heap.size<=k) w' x cs)/\∃r',Gj w' g gp tl ts pc r'/\Bo s r' o/\r'.decls=a
def yW (w:World) (g gp:Nat) (tl:Value) (ts:List CM) (pc:List Value) (s:Ah) (d:List Bi) (o:AO Az) (e:Ending) (w':World):Prop:=
 ∃a n c,e= .returned (.slice a n c)/\Kg g w w'/\(∀b st,o= .ok b st->st.bC=none->Cs (λk=>w.heap.size<=k) w' (.slice a n c) b)/\∃r',Gj w' g gp tl ts pc r'/\Bo s r' o/\r'.decls=d
def CY {α:Type} (s:Ah) (n:Nat) (o:AO α):AO Az:=o.bind λ_ st=>block s n st
def Ks {α:Type} (s:Ah) (n:Nat) (o:AO α):AO Az:=o.bind λ_ st=>Fw s n st
def gO (g gp:Nat) (tl:Value) (ts:List CM) (pc:List Value) (s:Ah) (n:Nat):Prop:=
 ∀(st:PS) (w:World) (r:Fc),Gj w g gp tl ts pc r->AF s r st->st.depth<=8->st.loops<=2->2*left s st+1<=n->
  Calls prog 157 #[.pointer (some ⟨g,0,none⟩)] w (Sw w g gp tl ts pc s r.decls (stmt s n st))
def SG (g gp:Nat) (tl:Value) (ts:List CM) (pc:List Value) (s:Ah) (n:Nat):Prop:=
 ∀(o:AO Unit) (w:World) (r:Fc),Gj w g gp tl ts pc r->Bo s r o->(∀st,o= .ok () st->st.depth<=8/\st.loops<=2/\2*left s st+1<=n)->
  Calls prog 139 #[.pointer (some ⟨g,0,none⟩)] w (yW w g gp tl ts pc s r.decls (CY s n o))
def Nh (o:AO Unit):AO Unit:=o.bind λ_ st=>if st.t.kind=Cw/\st.depth=8 then fail Sa st else .ok () st
def mP {α:Type} (o:AO α):AO Unit:=o.bind λ_ st=>.ok () {st with depth:=st.depth+1}
def zL {α:Type} (o:AO α):AO Unit:=o.bind λ_ st=>.ok () {st with depth:=st.depth-1}
theorem Si:∀(b:Az),b.app .nil=b
 | .nil=>rfl
 | .bG p r=>by simp[Az.app,Si r]
 | .ite c t o e r=>by simp[Az.app,Si r]
 | .rep n c b r=>by simp[Az.app,Si r]
theorem NX:∀(a b c:Az),(a.app b).app c=a.app (b.app c)
 | .nil,_,_=>rfl
 | .bG p r,b,c=>by simp[Az.app,NX r]
 | .ite _ _ _ _ r,b,c=>by simp[Az.app,NX r]
 | .rep _ _ _ r,b,c=>by simp[Az.app,NX r]
section
variable {s:Ah}
theorem ma (n:Nat) (o:AO Unit):CY s (n+1) o=(Ks s n (mP (BC s Cw (Nh o)))).bind λb st=>.ok b (next s {st with depth:=st.depth-1}):=by
 cases o with
 |bad e p=>rfl
 |ok a st=>
  show block s (n+1) st=(Ks s n (mP (BC s Cw (if st.t.kind=Cw/\st.depth=8 then fail Sa st else .ok () st)))).bind _;rw[block];by_cases h:st.t.kind=Cw/\st.depth=8
  ·rw[Al h,Al h];rfl
  ·rw[Ai h,Ai h];show _=(Ks s n (mP (want s Cw st))).bind _;cases want s Cw st<;>rfl
theorem Yr {o:AO Unit}(n:Nat) (h:o.bu DA=true\/∃e p,o= .bad e p) (done:Az):
  ((Ks s (n+1) o).map λr=>done.app r).bind (λb st=>AO.ok b (next s {st with depth:=st.depth-1}))=(zL (BC s DA o)).bind λ_ st=>.ok done st:=by
 rcases h with h|⟨e,p,rfl⟩
 ·obtain⟨a,st,rfl,c⟩:=AO.iP h;have e1:Ks s (n+1) (AO.ok a st)= .ok .nil st:=by show Fw s (n+1) st=_;rw[Fw,Al c]
  have d:BC s DA (AO.ok a st)= .ok st.t (next s st):=by show want s DA st=_;unfold want;rw[Al c]
  rw[e1,d];show AO.ok (done.app .nil) _=_;rw[Si];rfl
 ·rfl
theorem Tw {o:AO Unit}{st:PS}(n:Nat) (h:o.bu DA=false) (c:o= .ok () st) (done:Az):
  (Ks s (n+1) o).map (λr=>done.app r)=match stmt s n st with
   | .ok x a=>(Ks s n (AO.ok () a)).map λr=>(done.app x).app r
   | .bad e p=>.bad e p:=by
 subst c;have d:¬st.t.kind=DA:=by simpa[AO.bu]using h
 have e1:Ks s (n+1) (AO.ok () st)=(stmt s n st).bind λx st=>(Fw s n st).map λr=>x.app r:=by show Fw s (n+1) st=_;rw[Fw,Ai d]
 rw[e1];cases f:stmt s n st with
 |bad e p=>rfl
 |ok x a=>
  show((Fw s n a).map λr=>x.app r).map _=(Fw s n a).map _;cases Fw s n a with
  |bad e p=>rfl
  |ok r b=>show AO.ok (done.app (x.app r)) b=AO.ok ((done.app x).app r) b;rw[NX]
end
theorem jL {s:Ah}(n:Nat) (st:PS) {c:PS}:stmt s n st≠.ok .nil c:=by
 intro h;cases n with
 |zero=>cases h
 |succ n=>
  have b:∀{p:D0} {st1:PS},((want s AN st1).bind λ_ st=>AO.ok (Az.bG p .nil) st)≠.ok .nil c:=by intro p st1 e;obtain⟨_,_,_,f⟩:=AC e;cases f
  rw[stmt]at h;by_cases a:st.t.kind=Kx
  ·rw[Al a]at h;obtain⟨_,_,_,e⟩:=AC h;exact b e
  rw[Ai a]at h;by_cases a:st.t.kind=Ep
  ·rw[Al a]at h;obtain⟨_,_,_,e⟩:=AC h;exact b e
  rw[Ai a]at h;by_cases a:st.t.kind=Ig
  ·rw[Al a]at h;obtain⟨_,_,_,e⟩:=AC h;exact b e
  rw[Ai a]at h;by_cases a:st.t.kind=Do
  ·rw[Al a]at h;obtain⟨_,_,_,e⟩:=AC h;obtain⟨_,_,_,e⟩:=AC e;exact b e
  rw[Ai a]at h;by_cases a:st.t.kind=Mb
  ·rw[Al a]at h;obtain⟨_,_,_,e⟩:=AC h;exact b e
  rw[Ai a]at h;by_cases a:st.t.kind=Mc
  ·rw[Al a]at h;obtain⟨_,_,_,e⟩:=AC h;exact b e
  rw[Ai a]at h;by_cases a:st.t.kind=IW
  ·rw[Al a]at h;exact b h
  rw[Ai a]at h;by_cases a:st.t.kind=IX
  ·rw[Al a]at h;exact b h
  rw[Ai a]at h;by_cases a:st.t.kind=Ja
  ·rw[Al a]at h;obtain⟨_,_,_,e⟩:=AC h;obtain⟨_,st1,_,e⟩:=AC e;by_cases d:st1.t.kind=Dl
   ·rw[Al d]at e;obtain⟨_,_,_,e⟩:=AC e;cases e
   ·rw[Ai d]at e;cases e
  rw[Ai a]at h;by_cases a:st.t.kind=Bf
  ·rw[Al a]at h;by_cases d:st.loops=2
   ·rw[Al d]at h;cases h
   ·rw[Ai d]at h;obtain⟨_,_,_,e⟩:=AC h;obtain⟨_,_,_,e⟩:=AC e;obtain⟨_,_,_,e⟩:=AC e;obtain⟨_,_,_,e⟩:=AC e;cases e
  rw[Ai a]at h;cases h
theorem Sl.qd (S:Nat->Prop) (w:World) (e:TypeId) (size:Nat):Sl S w e size (.slice none 0 0) 0 []:=⟨Cl _ _ _ _,λg a=>by cases a⟩
theorem kY:(prog.info? 262).map (λi=>(i.zero,i.size,i.bytes))=
  some (some (.agg #[vs [],.int .i64 0,.int .i64 0,.bool false,vs [],.int .i64 0,vs [],.int .i64 0,vs [],.int .i64 0,.int .i64 0,.slice none 0 0,.slice none 0 0,.bool false]),14,176):=by kernel_rfl
structure yV (g gp:Nat) (tl:Value) (ts:List CM) (pc:List Value) (s:Ah) (ds:List Bi) (w wr:World) (n:Nat) (o0:AO Unit) (kk:Nat) (m:Nat) (o1:AO Unit) (r1:Fc) (done:Az) (j:Nat) (cs:List Value) (a:Option Addr) (c:Nat):Prop where
 kg:Kg g w wr
 rd:Gj wr g gp tl ts pc r1
 fi:Bo s r1 o1
 decls:r1.decls=ds
 eq:Ks s n o0=(Ks s (m+1) o1).map (λr=>done.app r)
 fuel:∀st,o1= .ok () st->2*left s st+1<=m/\st.depth<=8/\st.loops<=2/\1<=st.depth
 mn:∀st,o1= .ok () st->m<n
 ghost:Dd s o1<=kk
 len:j+Dd s o1<=1002
 sl:Sl (λb=>w.heap.size<=b) wr 262 14 (.slice a j c) j cs
 nc:∀st,o1= .ok () st->st.bC=none->done.length=j/\AL (λb=>w.heap.size<=b/\(Value.slice a j c).ownBlock≠some b) wr done cs
theorem Mt:∀(b r:Az),(b.app r).length=b.length+r.length
 | .nil,r=>by simp[Az.app,Az.length]
 | .bG p x,r=>by simp only[Az.app,Az.length,Mt x r];omega
 | .ite c t o e x,r=>by simp only[Az.app,Az.length,Mt x r];omega
 | .rep n c b x,r=>by simp only[Az.app,Az.length,Mt x r];omega
theorem yV.drewN {g gp:Nat}{tl:Value}{ts:List CM}{pc:List Value}{s:Ah}{b:List Bi}{w wr:World}{n:Nat}{d:AO Unit}{f m:Nat}{i:AO Unit}{r1:Fc}{done:Az}{j:Nat}{cs:List Value}{a:Option Addr}{c:Nat}
  (h:yV g gp tl ts pc s b w wr n d f m i r1 done j cs a c) (q:Nat):yV g gp tl ts pc s b w (wr.drewN q) n d f m i r1 done j cs a c:=
 ⟨h.kg.drewN q,h.rd.drewN q,h.fi,h.decls,h.eq,h.fuel,h.mn,h.ghost,h.len,h.sl.of_heap rfl,λst e k=>⟨(h.nc st e k).1,AL.kept (w:=wr) (w':=wr.drewN q) (λ_ _ _ _=>rfl) _ _ (h.nc st e k).2⟩⟩
section
variable {w:World}{g gp:Nat}{tl:Value}{ts:List CM}{pc:List Value}{r:Fc}{s:Ah}
theorem yV.step {ds:List Bi}{wr K W w3:World}{n:Nat}{o0:AO Unit}{kk m:Nat}{r1 E:Fc}{done:Az}{j:Nat}{cs L:List Value}{a:Option Addr}{c:Nat}{st:PS}
  (h:yV g gp tl ts pc s ds w wr n o0 kk (m+1) (.ok () st) r1 done j cs a c) (hc:(AO.ok () st:AO Unit).bu DA=false)
  (M:Kg g wr K) (O:Gj K g gp tl ts pc E) (C:Bo s E (stmt s (m+1) st)) (P:E.decls=ds) (bi:∀x d,stmt s (m+1) st= .ok x d->d.bC=none->AL (λk=>wr.heap.size<=k) K x L)
  (hL:L.length=14) (q:Ac (λb=>K.heap.size<=b) K W) (bI:K.heap.size<=W.heap.size) {g2 c2:Nat} (Q:Sl (λb=>w.heap.size<=b) w3 262 14 (.slice (some ⟨g2,0,none⟩) (j+1) c2) (j+1) (cs++L))
  (y:Ac (λb=>(Value.slice a j c).ownBlock=some b\/W.heap.size<=b) W w3) (R:(Value.slice a j c).ownBlock=some g2\/g2=W.heap.size):
  Dd s ((stmt s (m+1) st).bind λ_ st=>AO.ok () st)<Dd s (AO.ok () st:AO Unit)/\∃G,yV g gp tl ts pc s ds w w3 n o0 (Dd s ((stmt s (m+1) st).bind λ_ st=>AO.ok () st)) m ((stmt s (m+1) st).bind λ_ st=>AO.ok () st) E G (j+1) (cs++L) (some ⟨g2,0,none⟩) c2:=by
 obtain⟨hf,S,T,bj⟩:=h.fuel st rfl;have U:0<left s st:=OS (AF.ok h.fi);have z:∀b,(Value.slice a j c).ownBlock=some b->w.heap.size<=b/\b<wr.heap.size/\b≠g:=λb l=>⟨h.sl.2 b l,h.sl.lt l,λe=>h.sl.bD h.rd.row (by decide) (e▸l)⟩;have k0:Kg g w W:=Kg.trans (Kg.trans h.kg M) (q.mono (λb l=>.inr l));have k3:Kg g w w3:=Ac.trans k0 (y.mono (λb l=>.inr (l.elim (λe=>(z b e).1) (λe=>Ad k0.size e))));have f:Gj W g gp tl ts pc E:=O.kg (q.mono (λb l=>.inr l)) (q.block g (by have:=O.row.lt;omega));have V:Gj w3 g gp tl ts pc E:=by
  obtain⟨N,X⟩:=f.jj;obtain⟨N',vd,e1,H⟩:=f.decls;have A:∀{t:TypeId} {cs:List Value} {n:Nat},AE W n t cs->t≠262->¬((Value.slice a j c).ownBlock=some n\/W.heap.size<=n):=by
   intro t u n B X D;rcases D with D|D
   ·have h1:=(h.sl.kept M (λb l D=>D.elim (λe=>(z b l).2.2 e) (λe=>by have:=(z b l).2.1;omega))).kept q (λb l D=>by have:=(z b l).2.1;have:=M.size;omega);exact h1.bD B (λe=>X e.symm) D
   ·have:=B.lt;omega
  have Y:∀{t:TypeId} {size n:Nat} {v:Value} {xs:List Value} {N:Nat->Prop},Sl N W t size v n xs->t≠262->Sl N w3 t size v n xs:=by intro t size n v xs N hs X;exact hs.kept y (λb l=>by obtain⟨u,B⟩:=hs.row l;exact A B X)
  exact⟨f.row.kept y (A f.row (by decide)),⟨N,Y X (by decide)⟩,f.tl,f.ba.kept y (A f.ba (by decide)),⟨N',vd,e1,Y H (by decide)⟩,f.dl⟩
 cases I:stmt s (m+1) st with
 |bad e p=>
  rw[I]at C;refine⟨U,done,k3,V,C,P,?_,(by intro d H;cases H),(by intro d H;cases H),Ab _,?_,Q,(by intro d H;cases H)⟩
  ·rw[h.eq,Tw (m+1) hc rfl,I];rfl
  ·have h7:=h.len;show j+1+0<=1002;have:Dd s (AO.ok () st:AO Unit)=left s st:=rfl;omega
 |ok x d=>
  rw[I]at C;have i:=Ys (AF.ok h.fi) S T I;have bn:left s d<left s st:=by
   have:=i.size;have hp:0<x.size:=by
    cases x with
    |nil=>exact absurd I (jL _ _)
    |bG p r=>simp only[Az.size];omega
    |ite c t o e r=>simp only[Az.size];omega
    |rep n c b r=>simp only[Az.size];omega
   omega
  refine⟨bn,done.app x,k3,V,C,P,?_,?_,λZ _=>by have:=h.mn st rfl;omega,Ab _,?_,Q,?_⟩
  ·rw[h.eq,Tw (m+1) hc rfl,I];rfl
  ·intro Z J;injection J with _ J;subst J;refine⟨by omega,by rw[i.fwd.depth];exact S,by rw[i.fwd.loops];exact T,by rw[i.fwd.depth];exact bj⟩
  ·have h7:=h.len;have e1:Dd s (AO.ok () st:AO Unit)=left s st:=rfl;show j+1+left s d<=1002;omega
  ·intro Z J hw;injection J with _ J;subst J;obtain⟨b1,b2⟩:=h.nc st rfl (i.fwd.bC hw);have aD:=bi x d I hw;have bo:x.length=1:=by have:=AL.len x L aD;omega
   refine⟨by rw[Mt,b1,bo],?_⟩;have be:∀k u,(w.heap.size<=k/\(Value.slice a j c).ownBlock≠some k/\k<W.heap.size)->AE W k 262 u->w3.heap[k]?=W.heap[k]?:=λk u F B=>y.block k (λD=>D.elim F.2.1 (λh2=>by omega));have bf:∀k,k<w3.heap.size->(w.heap.size<=k/\(Value.slice a j c).ownBlock≠some k/\k<W.heap.size)->(w.heap.size<=k/\(Value.slice (some ⟨g2,0,none⟩) (j+1) c2).ownBlock≠some k):=λk _ F=>⟨F.1,λe=>by
    injection e with e;simp only at e;subst e;rcases R with h1|h1
    ·exact F.2.1 h1
    ·omega⟩
   have cW:=M.size;have cX:=h.kg.size;have p1:=AL.mono (N':=λk=>w.heap.size<=k/\(Value.slice a j c).ownBlock≠some k/\k<W.heap.size) (λk F hN=>⟨hN.1,hN.2,by omega⟩) _ _ b2;have p2:=AL.kept (w':=W) (λk u F B=>(q.block k (by have:=B.lt;omega)).trans (If M B.lt (B.bt h.rd.row (by decide)))) _ _ p1;have p3:=AL.mono bf _ _ (AL.kept be _ _ p2);have r1:=AL.mono (N':=λk=>w.heap.size<=k/\(Value.slice a j c).ownBlock≠some k/\k<W.heap.size) (λk F hN=>⟨by omega,λe=>by have:=(z k e).2.1;omega,by omega⟩) _ _ aD;have E:=AL.kept (w':=W) (λk u F B=>q.block k (by have:=B.lt;omega)) _ _ r1;have r3:=AL.mono bf _ _ (AL.kept be _ _ E);exact AL.app _ _ _ _ p3 r3
end
theorem Hq (w:World):(Go.sizeOf 262).run prog w= .ok 14 w:=by kernel_rfl
theorem JE (w:World):(isAgg 262).run prog w= .ok true w:=by kernel_rfl
theorem CR {w:World}{C:Nat}{t:TypeId}{e f i j k l m n o p a b c d:Value}(h:AE w C t [e,f,i,j,k,l,m,n,o,p,a,b,c,d]):
  w.cell? ⟨C,0,none⟩=some e/\w.cell? ⟨C,1,none⟩=some f/\w.cell? ⟨C,2,none⟩=some i/\w.cell? ⟨C,3,none⟩=some j/\w.cell? ⟨C,4,none⟩=some k/\w.cell? ⟨C,5,none⟩=some l/\w.cell? ⟨C,6,none⟩=some m/\
  w.cell? ⟨C,7,none⟩=some n/\w.cell? ⟨C,8,none⟩=some o/\w.cell? ⟨C,9,none⟩=some p/\w.cell? ⟨C,10,none⟩=some a/\w.cell? ⟨C,11,none⟩=some b/\w.cell? ⟨C,12,none⟩=some c/\w.cell? ⟨C,13,none⟩=some d:=
 ⟨h.cell 0,h.cell 1,h.cell 2,h.cell 3,h.cell 4,h.cell 5,h.cell 6,h.cell 7,h.cell 8,h.cell 9,h.cell 10,h.cell 11,h.cell 12,h.cell 13⟩
abbrev IB:List Value:=[vs [],.int .i64 0,.int .i64 0,.bool false,vs [],.int .i64 0,vs [],.int .i64 0,vs [],.int .i64 0,.int .i64 0,.slice none 0 0,.slice none 0 0,.bool false]
abbrev Nj (w:World) (R:Nat) (e f h i j k l m n o a b c d:Value):World:=
 (((((((((((((w.setCell ⟨R,0,none⟩ e).setCell ⟨R,1,none⟩ f).setCell ⟨R,2,none⟩ h).setCell ⟨R,3,none⟩ i).setCell ⟨R,4,none⟩ j).setCell ⟨R,5,none⟩ k).setCell ⟨R,6,none⟩ l).setCell ⟨R,7,none⟩ m).setCell ⟨R,8,none⟩ n).setCell ⟨R,9,none⟩ o).setCell ⟨R,10,none⟩ a).setCell ⟨R,11,none⟩ b).setCell ⟨R,12,none⟩ c).setCell ⟨R,13,none⟩ d
abbrev Fc.nx (r:Fc):Fc:={r with k:=r.k+1}
def Cz {α:Type} (o:AO α):AO Unit:=o.bind λ_ st=>.ok () st
theorem Bo.fj {α β:Type}{s:Ah}{r:Fc}{o:AO α}{o':AO β}(h:Bo s r o) (e:Cz o'=Cz o):Bo s r o':=by
 cases o with
 |bad k p=>
  cases o' with
  |bad c d=>injection e with e1 b;subst e1 b;exact h
  |ok a st=>cases e
 |ok a st=>
  cases o' with
  |bad c d=>cases e
  |ok f st'=>injection e with _ b;subst b;exact h
theorem ZU {α:Type}(s k:Ah) (a:α) (st:PS):(take s k st).1=(AO.ok a st).bu k:=by
 unfold take AO.bu;by_cases h:st.t.kind=k
 ·rw[Al h];simp[h]
 ·rw[Ai h];simp[h]
theorem US (s k:Ah) (st:PS):(take s k st).2.bC=st.bC:=by unfold take;split<;>rfl
section
variable {w w0:World}{g gp:Nat}{tl:Value}{ts:List CM}{pc:List Value}{r:Fc}{s:Ah}{st:PS}{C D:Nat}{ty:TypeId}{ds:List Value}
theorem RH.da (a:Kg g w0 w) (h:Gj w g gp tl ts pc r) (c:mp ty) (cs:List Value) (b:C=w.heap.size):RH w0 (w.alloc (.cells cs.toArray ty)) g gp tl ts pc r ty C cs:=
 ⟨a.alloc (.inr a.size) _,h.alloc _,by rw[b];exact AE.new w ty cs,by rw[b];exact a.size,c⟩
theorem Mx.da {cs:List Value}(h:RH w0 w g gp tl ts pc r ty C cs) (ds:List Value) (a:D=w.heap.size):Mx w0 (w.alloc (.cells ds.toArray ty)) g gp tl ts pc r ty C cs D ds:=
 ⟨h.alloc _,by rw[a];exact AE.new w ty ds,by rw[a];exact h.kg.size,by have:=h.row.lt;omega⟩
theorem Mx.eg (h:Mx w0 w g gp tl ts pc r ty C IB D ds) (e f i j k l m n o p a b c d:Value):
  Mx w0 (Nj w C e f i j k l m n o p a b c d) g gp tl ts pc r ty C [e,f,i,j,k,l,m,n,o,p,a,b,c,d] D ds:=
 (((((((((((((h.bF 0 e).bF 1 f).bF 2 i).bF 3 j).bF 4 k).bF 5 l).bF 6 m).bF 7 n).bF 8 o).bF 9 p).bF 10 a).bF 11 b).bF 12 c).bF 13 d
theorem nU {α β:Type}(s:Ah) (o:AO α) {G:β}:Cz (o.bind λ_ st=>.ok G st)=Cz o:=by cases o<;>rfl
theorem zy {α β:Type}(s:Ah) (o:AO α) {G:α->β}:Cz (o.bind λq st=>(want s AN st).bind λ_ a=>.ok (G q) a)=Cz (BC s AN o):=by
 cases o with
 |bad e p=>rfl
 |ok q st=>exact nU s (want s AN st)
def Mx.iR {e f i j k l m n o p a b c d:Value} (h:Mx w0 w g gp tl ts pc r ty C IB D [e,f,i,j,k,l,m,n,o,p,a,b,c,d]):=
 h.eg e f i j k l m n o p a b c d
theorem jW (h:Gj w g gp tl ts pc r) (Q:AF s r st) (ht:D6 ts (jj s)) (R:st.t.kind=Kx):
  Calls prog 157 #[.pointer (some ⟨g,0,none⟩)] w (Sw w g gp tl ts pc s r.decls ((name s false (next s st)).bind λq st=>(want s AN (take s CI st).2).bind λ_ bg=>.ok (.bG (.put q (take s CI st).1) .nil) bg)):=by
 obtain⟨x,hx,n⟩:=AF.tok Q ht;obtain⟨gt,ct,rfl,h1,h2,h3,h4,h5,t0,t1,t2⟩:=h.at_ hx;have o:x.is=Kx:=by rw[n.1,R];decide
 rw[o]at t0;obtain⟨c0,c1,_⟩:=h.cells;have db:=h.row.lt;have ff:=λj=>h.row.frozen j;have h8:=h.tl;have dc:r.k<ts.length:=h3;unfold maxLen at h2;have u:Kg g w (w.setCell ⟨g,1,none⟩ (.int .i64 ((r.k:Int)+1))):=(Ac.refl _ w).setCell (p:=⟨g,1,none⟩) (.inl rfl) _;have q1:=(Mx.da (D:=w.heap.size+1) (RH.da (C:=w.heap.size) (ty:=262) u (h.put 1 (.int .i64 ((r.k:Int)+1)) (r':=r.nx) rfl rfl) (by decide) IB (by simp)) [vs Kx,.int .i64 0,.int .i64 0,.bool false,vs [],.int .i64 0,vs [],.int .i64 0,vs [],.int .i64 0,.int .i64 0,.slice none 0 0,.slice none 0 0,.bool false] (by simp)).drewN 1;have v:Bo s r.nx (AO.ok () (next s st)):=AF.next Q (by rw[R];decide) (by rw[R];decide);have A:(next s st).Ok s:=Cc (AF.ok Q);obtain⟨HT,dh⟩:=zq2 ht A;have B:=Ft q1.rd v HT.out false;obtain⟨bj,Q1⟩:=zq2 B q1;generalize bn:r.k=kq at*;generalize bo:ts.length=LL at*;clear hx n Q v A o R bn bo h q1 B ht t1 t2 u;unfold vs at*;go_enter J3,I5;go_wp2;go_region;go_wp2_with fail;refine bj.out.mono ?_;rintro e w1 ⟨v1,rfl,E,F,r1,G,H,I⟩;have bp:=Aa F;clear F;have S:=Q1.out.call E G;obtain⟨T,e1,U,V,W,X,Y,Z,e8,e9,a,b,c,d⟩:=CR S.bH;have z:=λj=>S.bH.frozen j;have q2:=S.cL 1 (.int .i64 v1);have i:=FI q2.rd H HT.out (kd:=CI) (kr:=CI) (by decide) (by decide) (by decide) (by decide);rw[I]at i;obtain⟨br,Q2⟩:=zq2 i q2;clear q2 i E G H I S;unfold vs at*;go_wp2_with fail;clear T e1 U V W X Y Z e8 e9 a b c d z;refine br.out.mono ?_;rintro e w2 ⟨rfl,J,r2,K,L,f⟩;have p2:=Q2.out.call J K;obtain⟨T,e1,U,V,W,X,Y,Z,e8,e9,a,b,c,d⟩:=CR p2.bH;have z:=λj=>p2.bH.frozen j;have q3:=p2.cL 3 (.bool ((SH s false (AO.ok () (next s st))).bu CI));have f:=f;have l:=EO q3.rd L HT.out (kd:=AN) (kr:=AN) (by decide) (by decide) (by decide) (by decide);rw[f]at l;obtain⟨bx,Q3⟩:=zq2 l q3;clear q3 l J K L f p2;unfold vs at*;go_wp2_with fail;clear T e1 U V W X Y Z e8 e9 a b c d z;refine bx.out.mono ?_;rintro e w3 ⟨x9,rfl,M,_,r3,N,O,P⟩;have m:=Q3.out.call M N;obtain⟨T,e1,U,V,W,X,Y,Z,e8,e9,a,b,c,d⟩:=CR m.bH;have z:=λj=>m.bH.frozen j;obtain⟨f0,f1,f2,f3,f4,f5,f6,f7,f8,f9,dy,dz,dA,dB⟩:=CR m.row;have y:=λj=>m.row.frozen j;have eg:¬w.heap.size=w.heap.size+1:=by omega
 have q9:=m.iR;obtain⟨Q9,zV0,FD⟩:=zq3 q9 O P;clear m q9 M N O P;unfold ED vs at*;go_wp2;refine AA (AP (cs:=[_,_,_,_,_,_,_,_,_,_,_,_,_,_]) Fm JE Hq rfl Q9.out.row) rfl ?_;refine⟨_,rfl,⟨_,_,_,_,_,_,_,_,_,_,_,_,_,_,_,_,_,_,rfl⟩,Q9.out.kg,λx9 eR e hw=>?_,r3,Q9.out.rd,?_,FD.out⟩
 ·obtain⟨q,st1,u1,u2⟩:=AC e;obtain⟨t9,eT,u3,u4⟩:=AC u2;injection u4 with u4 u5;subst u4 u5;have bE:st1.bC=none:=by rw[(BF u3).2.2]at hw;exact(US s CI st1).symm.trans hw
  rw[bp.out q st1 u1 bE,ZU s CI q st1,show SH s false (AO.ok () (next s st))= .ok q st1 from u1];exact⟨[],by simp[BY,CQ,G8,G9,C1,Du,A4],rfl⟩
 ·refine zV0.out.fj ?_;show Cz ((name s false (next s st)).bind _)=Cz (BC s AN (DY s CI (name s false (next s st))));cases name s false (next s st)with
  |bad e p=>rfl
  |ok q st1=>
   show Cz ((want s AN (take s CI st1).2).bind _)=Cz (want s AN (take s CI st1).2);cases want s AN (take s CI st1).2<;>rfl
theorem Z9 (h:Gj w g gp tl ts pc r) (hs:AF s r st) (ht:D6 ts (jj s)) (hk:st.t.kind=Do):
  Calls prog 157 #[.pointer (some ⟨g,0,none⟩)] w (Sw w g gp tl ts pc s r.decls ((name s false (next s st)).bind λq st=>(name s false st).bind λp st=>(want s AN (take s CI st).2).bind λ_ bD=>.ok (.bG (.shift q p (take s CI st).1) .nil) bD)):=by
 obtain⟨x,hx,L⟩:=AF.tok hs ht;obtain⟨gt,ct,rfl,h1,h2,h3,h4,h5,t0,t1,t2⟩:=h.at_ hx;have M:x.is=Do:=by rw[L.1,hk];decide
 rw[M]at t0;obtain⟨c0,c1,_⟩:=h.cells;have eG:=h.row.lt;have ff:=λj=>h.row.frozen j;have h8:=h.tl;have eR:r.k<ts.length:=h3;unfold maxLen at h2;have N:Kg g w (w.setCell ⟨g,1,none⟩ (.int .i64 ((r.k:Int)+1))):=(Ac.refl _ w).setCell (p:=⟨g,1,none⟩) (.inl rfl) _;have q1:=(Mx.da (D:=w.heap.size+1) (RH.da (C:=w.heap.size) (ty:=262) N (h.put 1 (.int .i64 ((r.k:Int)+1)) (r':=r.nx) rfl rfl) (by decide) IB (by simp)) [vs Do,.int .i64 0,.int .i64 0,.bool false,vs [],.int .i64 0,vs [],.int .i64 0,vs [],.int .i64 0,.int .i64 0,.slice none 0 0,.slice none 0 0,.bool false] (by simp)).drewN 1;have O:Bo s r.nx (AO.ok () (next s st)):=AF.next hs (by rw[hk];decide) (by rw[hk];decide);have P:(next s st).Ok s:=Cc (AF.ok hs);obtain⟨HT,bF⟩:=zq2 ht P;have Q:=Ft q1.rd O HT.out false;obtain⟨bI,Q1⟩:=zq2 Q q1;generalize cy:r.k=kq at*;generalize cz:ts.length=LL at*;clear hx L hs O P M hk cy cz h q1 Q ht t1 t2 N;unfold vs at*;go_enter J3,I5;go_wp2;go_region;go_wp2_with fail;refine bI.out.mono ?_;rintro e w1 ⟨v1,rfl,R,S,r1,T,U,V⟩;have cD:=Aa S;clear S;have p1:=Q1.out.call R T;obtain⟨A,e1,i,B,E,F,G,H,I,J,b,c,d,f⟩:=CR p1.bH;have z:=λj=>p1.bH.frozen j;have n:=p1.cL 1 (.int .i64 v1);have o:=Ft n.rd U HT.out false;rw[V]at o;obtain⟨cW,Q2⟩:=zq2 o n;clear n o R T U V p1;unfold vs at*;go_wp2_with fail;clear A e1 i B E F G H I J b c d f z;refine cW.out.mono ?_;rintro e w2 ⟨v2,rfl,W,X,r2,Y,Z,l⟩;have cX:=Aa X;clear X;have p2:=Q2.out.call W Y;obtain⟨A,e1,i,B,E,F,G,H,I,J,b,c,d,f⟩:=CR p2.bH;have z:=λj=>p2.bH.frozen j;have q3:=p2.cL 2 (.int .i64 v2);have l:=l;have u:=FI q3.rd Z HT.out (kd:=CI) (kr:=CI) (by decide) (by decide) (by decide) (by decide);rw[l]at u;obtain⟨cZ,Q3⟩:=zq2 u q3;clear q3 u W Y Z l p2;unfold vs at*;go_wp2_with fail;clear A e1 i B E F G H I J b c d f z;refine cZ.out.mono ?_;rintro e w3 ⟨rfl,aD,r3,ba,be,m⟩;have p3:=Q3.out.call aD ba;obtain⟨A,e1,i,B,E,F,G,H,I,J,b,c,d,f⟩:=CR p3.bH;have z:=λj=>p3.bH.frozen j;have q4:=p3.cL 3 (.bool ((SH s false (SH s false (AO.ok () (next s st)))).bu CI));have m:=m;have v:=EO q4.rd be HT.out (kd:=AN) (kr:=AN) (by decide) (by decide) (by decide) (by decide);rw[m]at v;obtain⟨dc,Q4⟩:=zq2 v q4;clear q4 v aD ba be m p3;unfold vs at*;go_wp2_with fail;clear A e1 i B E F G H I J b c d f z;refine dc.out.mono ?_;rintro e w4 ⟨x9,rfl,bf,_,r4,bg,bh,bi⟩;have K:=Q4.out.call bf bg;obtain⟨A,e1,i,B,E,F,G,H,I,J,b,c,d,f⟩:=CR K.bH;have z:=λj=>K.bH.frozen j;obtain⟨f0,f1,f2,f3,f4,f5,f6,f7,f8,f9,fa,fb,fc,fd⟩:=CR K.row;have y:=λj=>K.row.frozen j;have fh:¬w.heap.size=w.heap.size+1:=by omega
 have q9:=K.iR;obtain⟨Q9,zV0,FD⟩:=zq3 q9 bh bi;clear K q9 bf bg bh bi;unfold ED vs at*;go_wp2;refine AA (AP (cs:=[_,_,_,_,_,_,_,_,_,_,_,_,_,_]) Fm JE Hq rfl Q9.out.row) rfl ?_;refine⟨_,rfl,⟨_,_,_,_,_,_,_,_,_,_,_,_,_,_,_,_,_,_,rfl⟩,Q9.out.kg,λx9 fo e hw=>?_,r4,Q9.out.rd,?_,FD.out⟩
 ·obtain⟨q,st1,u1,u2⟩:=AC e;obtain⟨n,a,u3,u4⟩:=AC u2;obtain⟨t9,fP,u5,u6⟩:=AC u4;injection u6 with u6 u7;subst u6 u7;have bj:a.bC=none:=by rw[(BF u5).2.2]at hw;exact(US s CI a).symm.trans hw
  have bn:=(EV bF.out u1).1.ok;have dm:st1.bC=none:=(EV bn u3).1.bC bj;have e1:SH s false (AO.ok () (next s st))= .ok q st1:=u1;have i:SH s false (SH s false (AO.ok () (next s st)))= .ok n a:=by rw[e1];exact u3
  rw[cD.out q st1 u1 dm,cX.out n a i bj,ZU s CI n a,i];exact⟨[],by simp[BY,CQ,G8,G9,C1,Du,A4],rfl⟩
 ·refine zV0.out.fj ?_;show Cz ((name s false (next s st)).bind _)=Cz (BC s AN (DY s CI (SH s false (name s false (next s st)))));cases name s false (next s st)with
  |bad e p=>rfl
  |ok q st1=>
   show Cz ((name s false st1).bind _)=Cz (BC s AN (DY s CI (name s false st1)));cases name s false st1 with
   |bad e p=>rfl
   |ok n a=>
    show Cz ((want s AN (take s CI a).2).bind _)=Cz (want s AN (take s CI a).2);cases want s AN (take s CI a).2<;>rfl
theorem KQ {K:Ah}{F:Int->D0}{b:Bool}(O:K=Ep/\F= .bx/\b=false\/K=Ig/\F= .dz/\b=false\/K=Mb/\F= .inc/\b=true\/K=Mc/\F= .dec/\b=true) (h:Gj w g gp tl ts pc r) (P:AF s r st) (S:D6 ts (jj s)) (Q:st.t.kind=K):
  Calls prog 157 #[.pointer (some ⟨g,0,none⟩)] w (Sw w g gp tl ts pc s r.decls ((name s b (next s st)).bind λq st=>(want s AN st).bind λ_ T=>.ok (.bG (F q) .nil) T)):=by
 obtain⟨x,hx,d⟩:=AF.tok P S;obtain⟨gt,ct,rfl,h1,h2,h3,h4,h5,t0,t1,t2⟩:=h.at_ hx;have f:x.is=K:=by rw[d.1,Q];rcases O with⟨rfl,_⟩|⟨rfl,_⟩|⟨rfl,_⟩|⟨rfl,_⟩<;>decide
 rw[f]at t0;obtain⟨c0,c1,_⟩:=h.cells;have cD:=h.row.lt;have ff:=λj=>h.row.frozen j;have h8:=h.tl;have cW:r.k<ts.length:=h3;unfold maxLen at h2;have i:Kg g w (w.setCell ⟨g,1,none⟩ (.int .i64 ((r.k:Int)+1))):=(Ac.refl _ w).setCell (p:=⟨g,1,none⟩) (.inl rfl) _;have U:=(Mx.da (D:=w.heap.size+1) (RH.da (C:=w.heap.size) (ty:=262) i (h.put 1 (.int .i64 ((r.k:Int)+1)) (r':=r.nx) rfl rfl) (by decide) IB (by simp)) [vs K,.int .i64 0,.int .i64 0,.bool false,vs [],.int .i64 0,vs [],.int .i64 0,vs [],.int .i64 0,.int .i64 0,.slice none 0 0,.slice none 0 0,.bool false] (by simp)).drewN 1;have l:Bo s r.nx (AO.ok () (next s st)):=AF.next P (by rw[Q];rcases O with⟨rfl,_⟩|⟨rfl,_⟩|⟨rfl,_⟩|⟨rfl,_⟩<;>decide) (by rw[Q];rcases O with⟨rfl,_⟩|⟨rfl,_⟩|⟨rfl,_⟩|⟨rfl,_⟩<;>decide);have m:(next s st).Ok s:=Cc (AF.ok P);obtain⟨HT,cX⟩:=zq2 S m;have n:=Ft U.rd l HT.out b;obtain⟨V,Q1⟩:=zq2 n U;rcases O with⟨rfl,rfl,rfl⟩|⟨rfl,rfl,rfl⟩|⟨rfl,rfl,rfl⟩|⟨rfl,rfl,rfl⟩
 all_goals
  generalize W:r.k=kq at*;generalize X:ts.length=LL at*;clear hx d P l m f Q W X h U n S t1 t2 i;unfold vs at*;go_enter J3,I5;go_wp2;go_region;go_wp2_with fail;refine V.out.mono ?_;rintro e w1 ⟨v1,rfl,o,u,r1,v,A,B⟩;have Y:=Aa u;clear u;have R:=Q1.out.call o v;obtain⟨e0,e1,e2,e3,e4,e5,e6,e7,e8,e9,E,G,H,I⟩:=CR R.bH;have z:=λj=>R.bH.frozen j;have Z:=R.cL 1 (.int .i64 v1);have a:=EO Z.rd A HT.out (kd:=AN) (kr:=AN) (by decide) (by decide) (by decide) (by decide);rw[B]at a;obtain⟨aD,Q2⟩:=zq2 a Z;clear Z a o v A B R;unfold vs at*;go_wp2_with fail;clear e0 e1 e2 e3 e4 e5 e6 e7 e8 e9 E G H I z;refine aD.out.mono ?_;rintro e w2 ⟨x9,rfl,J,_,r2,L,M,N⟩;have c:=Q2.out.call J L;obtain⟨e0,e1,e2,e3,e4,e5,e6,e7,e8,e9,E,G,H,I⟩:=CR c.bH;have z:=λj=>c.bH.frozen j;obtain⟨f0,f1,f2,f3,f4,f5,f6,f7,f8,f9,di,dj,dm,dr⟩:=CR c.row;have y:=λj=>c.row.frozen j;have dt:¬w.heap.size=w.heap.size+1:=by omega
  have q9:=c.iR;obtain⟨Q9,zV0,FD⟩:=zq3 q9 M N;clear c q9 J L M N;unfold ED vs at*;go_wp2;refine AA (AP (cs:=[_,_,_,_,_,_,_,_,_,_,_,_,_,_]) Fm JE Hq rfl Q9.out.row) rfl ?_;refine⟨_,rfl,⟨_,_,_,_,_,_,_,_,_,_,_,_,_,_,_,_,_,_,rfl⟩,Q9.out.kg,λx9 dA e hw=>?_,r2,Q9.out.rd,?_,FD.out⟩
  ·obtain⟨q,st1,u1,u2⟩:=AC e;obtain⟨t9,eF,u3,u4⟩:=AC u2;injection u4 with u4 u5;subst u4 u5;have bf:st1.bC=none:=by rw[(BF u3).2.2]at hw;exact hw
   rw[Y.out q st1 u1 bf];exact⟨[],by simp[BY,CQ,G8,G9,C1,Du,A4],rfl⟩
  ·exact zV0.out.fj (zy s _)
theorem Tz {K:Ah}{F:D0}(u:K=IW/\F= .drop\/K=IX/\F= .bump) (h:Gj w g gp tl ts pc r) (v:AF s r st) (B:D6 ts (jj s)) (A:st.t.kind=K):
  Calls prog 157 #[.pointer (some ⟨g,0,none⟩)] w (Sw w g gp tl ts pc s r.decls ((want s AN (next s st)).bind λ_ E=>.ok (.bG F .nil) E)):=by
 obtain⟨x,N,b⟩:=AF.tok v B;obtain⟨gt,ct,rfl,h1,P,Q,h4,h5,R,S,T⟩:=h.at_ N;have c:x.is=K:=by rw[b.1,A];rcases u with⟨rfl,_⟩|⟨rfl,_⟩<;>decide
 rw[c]at R;obtain⟨c0,c1,_⟩:=h.cells;have U:=h.row.lt;have ff:=λj=>h.row.frozen j;have h8:=h.tl;have V:r.k<ts.length:=Q;unfold maxLen at P;have d:Kg g w (w.setCell ⟨g,1,none⟩ (.int .i64 ((r.k:Int)+1))):=(Ac.refl _ w).setCell (p:=⟨g,1,none⟩) (.inl rfl) _;have G:=(Mx.da (D:=w.heap.size+1) (RH.da (C:=w.heap.size) (ty:=262) d (h.put 1 (.int .i64 ((r.k:Int)+1)) (r':=r.nx) rfl rfl) (by decide) IB (by simp)) [vs K,.int .i64 0,.int .i64 0,.bool false,vs [],.int .i64 0,vs [],.int .i64 0,vs [],.int .i64 0,.int .i64 0,.slice none 0 0,.slice none 0 0,.bool false] (by simp)).drewN 1;have f:Bo s r.nx (AO.ok () (next s st)):=AF.next v (by rw[A];rcases u with⟨rfl,_⟩|⟨rfl,_⟩<;>decide) (by rw[A];rcases u with⟨rfl,_⟩|⟨rfl,_⟩<;>decide);have i:(next s st).Ok s:=Cc (AF.ok v);obtain⟨W,X⟩:=zq2 B i;have l:=EO G.rd f W.out (kd:=AN) (kr:=AN) (by decide) (by decide) (by decide) (by decide);obtain⟨H,Y⟩:=zq2 l G;rcases u with⟨rfl,rfl⟩|⟨rfl,rfl⟩
 all_goals
  generalize I:r.k=kq at*;generalize J:ts.length=LL at*;clear N b v f i c A I J h G l B S T d;unfold vs at*;go_enter J3,I5;go_wp2;go_region;go_wp2_with fail;refine H.out.mono ?_;rintro e w1 ⟨Z,rfl,m,_,r1,n,o,q⟩;have a:=Y.out.call m n;obtain⟨e0,e1,e2,e3,e4,e5,e6,e7,e8,e9,aD,ba,be,bf⟩:=CR a.bH;have z:=λj=>a.bH.frozen j;obtain⟨f0,f1,f2,f3,f4,f5,f6,f7,f8,f9,bg,bh,bi,bj⟩:=CR a.row;have y:=λj=>a.row.frozen j;have bn:¬w.heap.size=w.heap.size+1:=by omega
  have O:=a.iR;obtain⟨L,zV0,FD⟩:=zq3 O o q;clear a O m n o q;unfold ED vs at*;go_wp2;refine AA (AP (cs:=[_,_,_,_,_,_,_,_,_,_,_,_,_,_]) Fm JE Hq rfl L.out.row) rfl ?_;refine⟨_,rfl,⟨_,_,_,_,_,_,_,_,_,_,_,_,_,_,_,_,_,_,rfl⟩,L.out.kg,λZ bq e hw=>?_,r1,L.out.rd,?_,FD.out⟩
  ·obtain⟨t9,br,u3,M⟩:=AC e;injection M with M u5;subst M u5;exact⟨[],by simp[BY,CQ,G8,G9,C1,Du,A4],rfl⟩
  ·exact zV0.out.fj (nU s _)
end
structure RP (B:Nat) (w:World) (g gp:Nat) (tl:Value) (ts:List CM) (f:Int) (vr vh vm:Value) (ms:Bool) (r:Fc) (vd:Value):Prop where
 rd:Gj w g gp tl ts [vd,.int .i64 f,vr,vh,vm,.bool ms] r
 g0:B<=g
 p0:B<=gp
 sl:Sl (λb=>B<=b) w 224 3 vd r.decls.length (r.decls.flatMap FL)
 sz:B<=w.heap.size
section
variable {B:Nat}{w w':World}{g gp:Nat}{tl:Value}{ts:List CM}{f:Int}{vr vh vm:Value}{ms:Bool}{r r':Fc}{vd:Value}{s:Ah}{st:PS}
theorem RP.call (h:RP B w g gp tl ts f vr vh vm ms r vd) (a:Kg g w w') (d:Gj w' g gp tl ts [vd,.int .i64 f,vr,vh,vm,.bool ms] r') (i:r'.decls=r.decls):RP B w' g gp tl ts f vr vh vm ms r' vd:=by refine⟨d,h.g0,h.p0,?_,Ad h.sz a.size⟩;rw[i];exact h.sl.kept a (λb c j=>j.elim (λe=>h.sl.bD h.rd.row (by decide) (e▸c)) (λe=>by have:=h.sl.lt c;omega))
theorem Vq {B g:Nat}{w w':World}(a:Kg g w w') (c:B<=g) (d:B<=w.heap.size):Ac (λb=>B<=b) w w':=a.mono (λb i=>i.elim (λe=>e▸c) (λh=>Ad d h))
def rN (B:Nat) (w:World) (g gp:Nat) (tl:Value) (ts:List CM) (s:Ah) (n:Nat) (o:AO Unit) (e:Ending) (w':World):Prop:=
 e= .returned (.tuple #[])/\Ac (λb=>B<=b) w w'/\∃c a r',RP B w' g gp tl ts c A4 A4 A4 false r' a/\Bo s r' o/\(∀st',o= .ok () st'->c=st'.aD)/\r'.decls.length<=n+1
abbrev Fc.fq (r:Fc):Fc:={r with k:=r.k+1,eW:=r.eW+1}
def frO (s:Ah) (st:PS):PS:={next s st with bp:=true}
theorem AF.ig (h:AF s r st) (b:st.t.kind≠Eh) (c:st.t.kind≠Bw):AF s r.fq (frO s st):=by have a:=h.next b c;exact⟨a.pos.of rfl rfl,⟨a.ok.i,a.ok.pos,a.ok.more,a.ok.num,a.ok.name⟩,a.deep,a.loops,a.bad,a.bC,a.decls,a.aD,by have:=h.f0;show true=decide (0<r.eW+1);simp;omega,by have:=h.f0;show 0<=r.eW+1;omega,by have:=h.fk;show r.eW+1<=((r.k+1:Nat):Int);omega⟩
def tB (s:Ah) (st:PS):PS:=if st.bp then note CW st.t.pos (frO s st)else frO s st
theorem YY (b:st.t.kind=Cx):decl s st=(number s 1 99 (tB s st)).bind λn st=>(want s AN {st with aD:=n}).bind λ_ st=>.ok () st:=by
 unfold decl;simp only;rw[Al b];have e:({(if(next s st).bp then note CW st.t.pos (next s st)else next s st)with bp:=true}:PS)=tB s st:=by
  unfold tB frO;show({(if st.bp then note CW st.t.pos (next s st)else next s st)with bp:=true}:PS)=_;cases st.bp with
  |false=>rfl
  |true=>
   show({note CW st.t.pos (next s st)with bp:=true}:PS)=note CW st.t.pos {next s st with bp:=true};unfold note;cases a:st.bC with
   |none=>simp only[next,a]
   |some x=>simp only[next,a]
 rw[e]
def frF {α:Type} (o:AO α) (n:Int):AO Unit:=o.bind λ_ st=>.ok () {st with aD:=n}
theorem Bo.qq {α:Type}{o:AO α}(h:Bo s r o) (n:Int):Bo s {r with aD:=n} (frF o n):=by
 cases o with
 |bad e p=>
  have b:DI s r e p:=h;exact⟨b.lt,b.bad,b.fm,b.ne,b.fk⟩
 |ok a st=>
  have b:AF s r st:=h;exact⟨b.pos.of rfl rfl,⟨b.ok.i,b.ok.pos,b.ok.more,b.ok.num,b.ok.name⟩,b.deep,b.loops,b.bad,b.bC,b.decls,rfl,b.seen,b.f0,b.fk⟩
abbrev Fc.fr (r:Fc) (n:Int):Fc:={r with aD:=n}
theorem RP.gY (h:RP B w g gp tl ts f vr vh vm ms r vd) (n:Int):RP B (w.setCell ⟨gp,1,none⟩ (.int .i64 n)) g gp tl ts n vr vh vm ms (r.fr n) vd:=by have i:Ac (λb=>b=gp) w (w.setCell ⟨gp,1,none⟩ (.int .i64 n)):=Ac.one w ⟨gp,1,none⟩ _;obtain⟨N,j⟩:=h.rd.jj;have c:=h.rd.ba.bt h.rd.row (by decide);have a:=h.sl.kept i (λb d e=>h.sl.bD h.rd.ba (by decide) (e▸d));exact⟨⟨h.rd.row.dc (λe=>c e.symm) _,⟨N,j.kept i (λb d e=>j.bD h.rd.ba (by decide) (e▸d))⟩,h.rd.tl,h.rd.ba.bF 1 _,⟨_,vd,rfl,a⟩,h.rd.dl⟩,h.g0,h.p0,a,by simpa using h.sz⟩
theorem eB (h:RP B w g gp tl ts f A4 A4 A4 false r vd) (L:AF s r st) (ht:D6 ts (jj s)) (M:st.t.kind=Cx) (eg:r.decls.length<=900):
  Calls prog 118 #[.pointer (some ⟨g,0,none⟩)] w (rN B w g gp tl ts s r.decls.length (decl s st)):=by
 obtain⟨x,hx,A⟩:=AF.tok L ht;obtain⟨gt,ct,rfl,h1,h2,h3,h4,h5,t0,t1,t2⟩:=h.rd.at_ hx;have N:x.is=Cx:=by rw[A.1,M];decide
 have O:x.pos=st.t.pos:=A.2.1;rw[N]at t0;obtain⟨c0,c1,_,_,_,_,_,_,c8,c9⟩:=h.rd.cells;have eX:=h.rd.row.lt;have ff:=λj=>h.rd.row.frozen j;have h8:=h.rd.tl;have eY:r.k<ts.length:=h3;obtain⟨eZ,fa,P⟩:=zp3 L.f0 L.fk L.seen;unfold maxLen at h2;have C:Bo s r.fq (AO.ok () (frO s st)):=L.ig (by rw[M];decide) (by rw[M];decide);have D:Kg g w (((w.setCell ⟨g,1,none⟩ (.int .i64 ((r.k:Int)+1))).setCell ⟨g,9,none⟩ (.int .i64 (r.eW+1))).alloc (.cells #[vs Cx,vs x.br,.int .i64 x.pos] 255)).drew:=
  ((((Ac.refl _ w).setCell (p:=⟨g,1,none⟩) (.inl rfl) _).setCell (p:=⟨g,9,none⟩) (.inl rfl) _).alloc (.inr (by simp)) _).drew
 have q1:=h.call (r':=r.fq) D ((((h.rd.put 1 (.int .i64 ((r.k:Int)+1)) (r':=r.nx) rfl rfl).put 9 (.int .i64 (r.eW+1)) (r':=r.fq) rfl rfl).alloc (.cells #[vs Cx,vs x.br,.int .i64 x.pos] 255)).drewN 1) rfl;have Q:=Hu (e:=CW) q1.rd C (by decide) x.pos;have R:∀(W:World) (q:Fc),Ac (λb=>B<=b) w W->RP B W g gp (.slice (some ⟨gt,0,none⟩) ts.length ct) ts f A4 A4 A4 false q vd->Bo s q (AO.ok () (tB s st))->q.decls=r.decls->True:=λ_ _ _ _ _ _=>trivial;obtain⟨HT,Q1,E,S,T,bI,HP,cy⟩:=zq8 ht q1 D Q C (YY (s:=s) M) h O;have U:=Aa P;generalize cz:r.k=kq at*;generalize cD:ts.length=LL at*;clear hx A L C N M cz cD h q1 D ht Q R O P;unfold vs at*;go_enter func118,ntmps118;go_wp2;go_region;go_upto_if 37 with fail;go_cut [] (λwx=>Kg g w wx/\∃q,RP B wx g gp (.slice (some ⟨gt,0,none⟩) LL ct) ts f A4 A4 A4 false q vd/\Bo s q (AO.ok () (tB s st))/\q.decls=r.decls)
 case first=>
  by_cases V:0<r.eW
  ·have e1:decide (1<r.eW+1)=true:=by simp;omega
   have G:=Aa (show st.bp=true by rw[U.out];simpa using V);go_wp2_with fail;refine S.out.mono ?_;rintro e w2 ⟨rfl,i,q,X,l,d⟩;have F:=Aa (And.intro i (And.intro X (And.intro l d)));clear i X l d;go_wp2;go_meet;obtain⟨Y,f2,u,Z⟩:=F.out;refine⟨Kg.trans E.out Y,q,Q1.out.call Y f2 Z,?_,Z⟩;unfold tB;rw[Al G.out,←cy.out];exact u
  ·have e1:decide (1<r.eW+1)=false:=by simp;omega
   have G:=Aa (show¬st.bp=true by rw[U.out];simpa using V);go_wp2;go_meet;refine⟨E.out,r.fq,Q1.out,?_,rfl⟩;unfold tB;rw[Ai G.out];exact T.out
 case rest=>
  obtain⟨i,q,y,l,d⟩:=hcut;clear c0 c1 c8 c9 t0 t1 t2 Q1 E S T;have m:=Kl (y.rd.drewN 1) l HT.out 1 99;rw[d]at m;obtain⟨_,_,_,_,_,_,_,_,c8,_⟩:=y.rd.cells;obtain⟨be,a,bf,bg⟩:=zq4 m y i d;clear m y l d i;go_wp2_with fail
  go_region_law (first|(go_simp;go_at_call 136;refine be.out.mono ?_;rintro e w3 ⟨v,rfl,bh,hv,r3,o,bj,bn⟩;have p1:=o.ba.cell 1;have pf:=o.ba.frozen 1;have cW:=o.cells.2.2.2.2.2.2.2.2.1;have z:=Aa (And.intro bh (And.intro hv (And.intro o (And.intro bj bn))));clear bh hv o bj bn;simp at p1))
  all_goals
   have bo:=(a.out.call ((Ac.refl _ wc).drewN 1) (a.out.rd.drewN 1) rfl).call z.out.1 z.out.2.2.1 (z.out.2.2.2.2.trans bg.out.symm);have H:=bo.gY v;have bq:Ac (λb=>B<=b) w (w3.setCell ⟨gp,1,none⟩ (.int .i64 v)):=((Vq bf.out HP.out.g0 HP.out.sz).trans (Vq ((Ac.refl _ wc).drewN 1) a.out.g0 a.out.sz)).trans ((Vq z.out.1 a.out.g0 a.out.sz).trans ((Ac.one w3 ⟨gp,1,none⟩ _).mono (λb hb=>hb▸a.out.p0)));have bt:=z.out.2.2.2.1.qq v;have I:=EO H.rd bt HT.out (kd:=AN) (kr:=AN) (by decide) (by decide) (by decide) (by decide);have J:(r3.fr v).decls=r.decls:=z.out.2.2.2.2;rw[J]at I;have hv:=z.out.2.1;obtain⟨bu,K,cX,HV,cY⟩:=zq5 I H bq hv J;clear bo H bq bt I hv J p1 pf cW z c8 be a bf bg;unfold vs at*;go_wp2_with fail;refine bu.out.mono ?_;rintro e w5 ⟨x5,rfl,bx,_,r5,bz,bC,bD⟩;have F:=Aa (And.intro bx (And.intro bz (And.intro bC bD)));clear bx bz bC bD bu;unfold ED vs;go_wp2;go_end0;obtain⟨Y,f2,u,Z⟩:=F.out;rw[bI.out];refine⟨rfl,cX.out.trans (Vq Y K.out.g0 K.out.sz),v,vd,r5,K.out.call Y f2 (Z.trans cY.out.symm),?_,?_,by rw[Z];omega⟩
   ·cases hn:number s 1 99 (tB s st)with
    |bad e p=>
     have e1:Ha s 1 99 (AO.ok () (tB s st))= .bad e p:=hn;rw[e1]at u;exact u
    |ok n c=>
     have e1:Ha s 1 99 (AO.ok () (tB s st))= .ok n c:=hn;have ev:=HV.out n c e1;rw[e1]at u;show Bo s r5 ((want s AN {c with aD:=n}).bind _);have e2:BC s AN (frF (AO.ok n c) v)=want s AN {c with aD:=v}:=rfl;rw[e2,ev]at u;cases hw:want s AN {c with aD:=n}with
     |bad e p=>rw[hw]at u;exact u
     |ok t da=>rw[hw]at u;exact u
   ·intro st' e;obtain⟨n,c,e1,e2⟩:=AC e;obtain⟨t,da,e3,e4⟩:=AC e2;injection e4 with _ e4;rw[←e4,(BF e3).2.2];exact HV.out n c e1
end
end Go.Proofs.YtepoejiigmhlbaaGreatDoor.Ev
