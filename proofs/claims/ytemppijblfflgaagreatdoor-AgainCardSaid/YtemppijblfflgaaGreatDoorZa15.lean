/- Parts of a proof that a law's walk returns true. Conditions: none. -/
import Derived.Test.YtemppijblfflgaaGreatDoorZa00
import Derived.Test.YtemppijblfflgaaGreatDoorZa01
import Derived.Test.YtemppijblfflgaaGreatDoorZa02
import Derived.Test.YtemppijblfflgaaGreatDoorZa05
import Derived.Test.YtemppijblfflgaaGreatDoorZa06
import Derived.Test.YtemppijblfflgaaGreatDoorZa14
set_option linter.all false
set_option maxRecDepth 100000
set_option maxHeartbeats 8000000
namespace Go.Proofs.YtemppijblfflgaaGreatDoor.Ev
abbrev J1:Ae:=[110,117,109]
def GE (k:Ae):Ae:=if k=Bc then J1 else k
def final (t:Mc):Bool:=t.kind==DJ||t.kind==Bu
def If (s:Ae):Nat→Nat→List Mc
 |0,_=>[]
 |n+1,i=>if final (D6 s i).1 then [(D6 s i).1]else(D6 s i).1::If s n (D6 s i).2
def toks (s:Ae):List Mc:=If s (s.length+1) 0
theorem mW {t:Mc} (h:final t=false):t.kind≠DJ∧t.kind≠Bu:=by
 unfold final at h
 simp only[VX,Bv,ne_eq]at h
 exact h
def On (s:Ae) (k:Nat) (st:PS):Prop:=
 ∃n i,(toks s).drop k=If s (n+1) i∧st.t=(D6 s i).1∧st.i=(D6 s i).2∧i≤s.length∧s.length<i+(n+1)
theorem On.get {s:Ae} {k:Nat} {st:PS} (h:On s k st):(toks s)[k]?=some st.t:=by
 obtain⟨n,i,h1,h2,_⟩:=h
 have e:((toks s).drop k)[0]?=some st.t:=by
  rw[h1,If,h2]
  split<;>rfl
 rw[ai]at e
 simpa using e
theorem On.lt {s:Ae} {k:Nat} {st:PS} (h:On s k st):k<(toks s).length:=(Ap.1 h.get).1
theorem On.next {s:Ae} {k:Nat} {st:PS} (h:On s k st) (h1:st.t.kind≠DJ) (h2:st.t.kind≠Bu):On s (k+1) (next s st):=by
 obtain⟨n,i,e1,e2,e3,e4,e5⟩:=h
 have hf:final (D6 s i).1=false:=by
  rw[←e2]
  unfold final
  simp[h1,h2]
 obtain⟨a,b,c,d⟩:=Jy s i e4
 rw[←e2,←e3]at d
 have:=d h1 h2
 rw[←e2]at a
 rw[←e3]at c
 rw[If,hf]at e1
 simp only[An,A1]at e1
 have e6:(toks s).drop (k+1)=If s n (D6 s i).2:=by
  rw[←List.drop_drop,e1]
  rfl
 cases n with
 |zero=>omega
 |succ n=>
  refine⟨n,st.i,by rw[e6,e3],rfl,rfl,c,?_⟩
  omega
theorem On.start (s:Ae):On s 0 (start s):=⟨s.length,0,rfl,rfl,rfl,Bn _,by omega⟩
theorem On.of {s:Ae} {k:Nat} {st st':PS} (h:On s k st) (ht:st'.t=st.t) (hi:st'.i=st.i):On s k st':=by
 obtain⟨n,i,e1,e2,e3,e4,e5⟩:=h
 exact⟨n,i,e1,ht.trans e2,hi.trans e3,e4,e5⟩
theorem P2 (s:Ae):∀(n i:Nat),(If s n i).length≤n
 |0,_=>Ab _
 |n+1,i=>by
  rw[If]
  split
  ·simp
  ·have:=P2 s n (D6 s i).2
   simp;omega
theorem kC (s:Ae):(toks s).length≤s.length+1:=P2 s _ _
structure CB where
 is:Ae
 txt:Ae
 pos:Nat
def CB.Of (x:CB) (t:Mc):Prop:=x.is=GE t.kind∧x.pos=t.pos∧(t.kind≠Bu→x.txt=t.text)
def Qe (s:Ae) (i0:Nat):CB×Nat:=
 let i:=skip blank s i0
 match s[i]? with
 |none=>(⟨DJ,[],i⟩,i)
 |some c=>
  if low c then
   (if 8<skip low s i-i then⟨Bu,CT s i (skip low s i),i⟩else⟨if AQ.contains (CT s i (skip low s i))then CT s i (skip low s i)else BG,CT s i (skip low s i),i⟩,skip low s i)
  else if E6 c then
   (if 3<skip E6 s i-i then⟨Bu,CT s i (skip E6 s i),i⟩else⟨J1,CT s i (skip E6 s i),i⟩,skip E6 s i)
  else if FJ c then(⟨[c],[c],i⟩,i+1)
  else(⟨Bu,[],i⟩,i)
theorem YN:DJ=GE DJ:=by decide
theorem T4:Bu=GE Bu:=by decide
theorem uw:BG=GE BG:=by decide
theorem YM:J1=GE Bc:=by decide
theorem YL (s:Ae) (i:Nat):(Qe s i).1.Of (D6 s i).1∧(final (D6 s i).1=false→(Qe s i).2=(D6 s i).2):=by
 unfold Qe D6 CB.Of
 simp only
 cases hc:s[skip blank s i]? with
 |none=>(refine⟨⟨?_,?_,?_⟩,?_⟩<;>first|trivial|exact fun _=>trivial|exact YN|exact T4|exact YM|exact fun _=>rfl|exact fun h=>absurd rfl h|(intro h;simp[final]at h))
 |some c=>
  simp only
  cases hl:low c with
  |true=>
   simp only[A0]
   by_cases h8:8<skip low s (skip blank s i)-skip blank s i
   ·simp only[Ak h8]
    (refine⟨⟨?_,?_,?_⟩,?_⟩<;>first|trivial|exact fun _=>trivial|exact YN|exact T4|exact YM|exact fun _=>rfl|exact fun h=>absurd rfl h|(intro h;simp[final]at h))
   ·simp only[Ad h8]
    refine⟨⟨?_,by trivial,by first|exact fun _=>trivial|exact fun _=>rfl|trivial⟩,by first|exact fun _=>trivial|exact fun _=>rfl|trivial⟩
    split
    ·rename_i hk
     unfold GE
     rw[Ad]
     intro e
     rw[e]at hk
     exact absurd (Cn.1 hk) Sv
    ·exact uw
  |false=>
   simp only[An,A1]
   cases hf:E6 c with
   |true=>
    simp only[A0]
    by_cases h8:3<skip E6 s (skip blank s i)-skip blank s i
    ·simp only[Ak h8]
     (refine⟨⟨?_,?_,?_⟩,?_⟩<;>first|trivial|exact fun _=>trivial|exact YN|exact T4|exact YM|exact fun _=>rfl|exact fun h=>absurd rfl h|(intro h;simp[final]at h))
    ·simp only[Ad h8]
     (refine⟨⟨?_,?_,?_⟩,?_⟩<;>first|trivial|exact fun _=>trivial|exact YN|exact T4|exact YM|exact fun _=>rfl|exact fun h=>absurd rfl h|(intro h;simp[final]at h))
   |false=>
    simp only[An,A1]
    cases hp:FJ c with
    |true=>
     simp only[A0]
     refine⟨⟨?_,by trivial,by first|exact fun _=>trivial|exact fun _=>rfl|trivial⟩,by first|exact fun _=>trivial|exact fun _=>rfl|trivial⟩
     unfold GE
     rw[Ad]
     intro e
     have:=AL List.length e
     simp at this
    |false=>
     simp only[An,A1]
     (refine⟨⟨?_,?_,?_⟩,?_⟩<;>first|trivial|exact fun _=>trivial|exact YN|exact T4|exact YM|exact fun _=>rfl|exact fun h=>absurd rfl h|(intro h;simp[final]at h))
def DD:List CB→List Mc→Prop
 | [],[]=>True
 |x::l,t::m=>x.Of t∧DD l m
 |_,_=>False
theorem DD.len:∀{l:List CB} {m:List Mc},DD l m→l.length=m.length
 | [],[],_=>rfl
 |_::_,_::_,h=>by simp[DD.len h.2]
 | [],_::_,h=>h.elim
 |_::_,[],h=>h.elim
theorem DD.get:∀{l:List CB} {m:List Mc} {k:Nat} {t:Mc},DD l m→m[k]?=some t→∃x,l[k]?=some x∧x.Of t
 |_::_,_::_,0,_,h,e=>by
  simp only[Bm,De]at e
  exact⟨_,rfl,e▸h.1⟩
 |_::l,_::m,k+1,_,h,e=>DD.get (l:=l) (m:=m) (k:=k) h.2 e
 | [],[],_,_,_,e=>by simp at e
 | [],_::_,_,_,h,_=>h.elim
 |_::_,[],_,_,h,_=>h.elim
structure Ff where
 k:Nat
 deep:Int
 loops:Int
 bad:Nat
 badAt:Nat
 wrong:Nat
 wrongAt:Nat
 decls:List Bf
 freq:Int
 freqs:Int
def nI (x:Option (Nat×Nat)) (r:Ff):Prop:=
 match x with
 |none=>r.wrong=0
 |some y=>r.wrong=y.1∧r.wrongAt=y.2∧y.1≠0
structure AB (s:Ae) (r:Ff) (st:PS):Prop where
 pos:On s r.k st
 ok:st.Ok s
 deep:r.deep=st.depth
 loops:r.loops=st.loops
 bad:r.bad=0
 wrong:nI st.wrong r
 decls:r.decls=st.decls
 freq:r.freq=st.freq
 seen:st.fseen=decide (0<r.freqs)
 f0:0≤r.freqs
 fk:r.freqs≤r.k
structure DF (s:Ae) (r:Ff) (e pos:Nat):Prop where
 lt:r.k<(toks s).length
 bad:r.bad=e
 badAt:r.badAt=pos
 ne:e≠0
 fk:0≤r.freqs∧r.freqs≤r.k
def Bs {α:Type} (s:Ae) (r:Ff):AJ α→Prop
 | .ok _ st=>AB s r st
 | .bad e pos=>DF s r e pos
def AJ.isB {α:Type} (o:AJ α) (k:Ae):Bool:=
 match o with
 | .ok _ st=>st.t.kind==k
 | .bad _ _=>false
theorem AJ.isB_ok {α:Type} {o:AJ α} {k:Ae} (h:o.isB k=true):∃a st,o= .ok a st∧st.t.kind=k:=by
 cases o with
 |ok a st=>exact⟨a,st,rfl,by simpa[AJ.isB]using h⟩
 |bad e p=>cases h
section
variable {α β:Type} {s:Ae} {r:Ff} {o:AJ α} {st:PS}
theorem Bs.lt (h:Bs s r o):r.k<(toks s).length:=by
 cases o with
 |ok a st=>exact AB.pos h |>.lt
 |bad e p=>exact DF.lt h
theorem AB.next (h:AB s r st) (h1:st.t.kind≠DJ) (h2:st.t.kind≠Bu):AB s {r with k:=r.k+1} (next s st):=
 ⟨h.pos.next h1 h2,BF h.ok,h.deep,h.loops,h.bad,h.wrong,h.decls,h.freq,h.seen,h.f0,by have:=h.fk;show r.freqs≤((r.k+1:Nat):Int);omega⟩
theorem AB.note {e pos:Nat} (h:AB s r st) (he:e≠0):AB s (if r.wrong=0 then {r with wrong:=e,wrongAt:=pos}else r) (note e pos st):=by
 have hw:=h.wrong
 cases hx:st.wrong with
 |none=>
  rw[hx]at hw
  rw[Ak (show r.wrong=0 from hw)]
  have e1:Ev.note e pos st={st with wrong:=some (e,pos)}:=by unfold Ev.note;rw[hx]
  rw[e1]
  exact⟨h.pos.of rfl rfl,⟨h.ok.i,h.ok.pos,h.ok.more,h.ok.num,h.ok.name⟩,h.deep,h.loops,h.bad,⟨rfl,rfl,he⟩,h.decls,h.freq,h.seen,h.f0,h.fk⟩
 |some y=>
  rw[hx]at hw
  have e1:Ev.note e pos st=st:=by unfold Ev.note;rw[hx]
  have h0:¬r.wrong=0:=by
   rw[hw.1];exact hw.2.2
  rw[Ad h0,e1]
  exact h
theorem AB.fail {e:Nat} (h:AB s r st) (he:e≠0):DF s {r with bad:=e,badAt:=st.t.pos} e st.t.pos:=
 ⟨h.pos.lt,rfl,rfl,he,h.f0,h.fk⟩
end
theorem lO {k:Ae} (h:k∈AQ):k≠J1:=by
 intro e
 rw[e]at h
 exact absurd h (by decide)
theorem ig (s:Ae) (i:Nat):(D6 s i).1.kind≠J1:=by
 have n1:Bu≠J1:=by decide
 have n2:BG≠J1:=by decide
 have n3:Bc≠J1:=by decide
 have n4:DJ≠J1:=by decide
 unfold D6
 simp only
 cases hc:s[skip blank s i]? with
 |none=>exact n4
 |some c=>
  simp only
  split
  ·split
   ·exact n1
   ·show(if AQ.contains _=true then _ else _)≠J1
    split
    ·rename_i hk
     exact lO (Cn.1 hk)
    ·exact n2
  ·split
   ·split
    ·exact n1
    ·exact n3
   ·split
    ·intro e
     have:=AL List.length e
     simp at this
    ·exact n1
theorem On.noNum {s:Ae} {k:Nat} {st:PS} (h:On s k st):st.t.kind≠J1:=by
 obtain⟨n,i,_,h2,_⟩:=h
 rw[h2]
 exact ig s i
theorem YU {a b:Ae} (ha:a≠J1) (hb:b≠J1):(GE a==GE b)=(a==b):=by
 unfold GE
 by_cases h1:a=Bc
 ·by_cases h2:b=Bc
  ·rw[h1,h2];rfl
  ·have e:(a==b)=false:=by rw[Bv];intro e;exact h2 (e▸h1)
   rw[Ak h1,Ad h2,e,Bv]
   intro e;exact hb e.symm
 ·by_cases h2:b=Bc
  ·have e:(a==b)=false:=by rw[Bv];intro e;exact h1 (e.trans h2)
   rw[Ad h1,Ak h2,e,Bv]
   exact ha
  ·rw[Ad h1,Ad h2]
theorem AB.tok {s:Ae} {r:Ff} {st:PS} (h:AB s r st) {ts:List CB} (ht:DD ts (toks s)):∃x,ts[r.k]?=some x∧x.Of st.t:=ht.get h.pos.get
theorem Bs.tok {α:Type} {s:Ae} {r:Ff} {o:AJ α} (h:Bs s r o) {ts:List CB} (ht:DD ts (toks s)):∃x,ts[r.k]?=some x:=by
 have:=h.lt
 rw[←ht.len]at this
 exact⟨_,Ah this⟩
theorem qc {α:Type} {s:Ae} {k:Nat} {a:α} {st:PS} {x:CB} (hp:On s k st) (hx:x.Of st.t) {kd:Ae} (hk:kd≠J1):(x.is==GE kd)=(AJ.ok a st).isB kd:=by
 rw[hx.1,YU hp.noNum hk]
 rfl
end Go.Proofs.YtemppijblfflgaaGreatDoor.Ev
namespace Go.Proofs.YtemppijblfflgaaGreatDoor.Ev
open Go Go.RowKit
def Kk (x:CB):List Value:=[vs x.is,vs x.txt,.int .i64 x.pos]
def En (k:Nat):Ae:=if k=2 then IY else if k=1 then G4 else G1
def FL (d:Bf):List Value:=[vs (En d.kind),vs d.name,.int .i64 d.max]
def Ox (tl:Value) (gp:Nat) (r:Ff):List Value:=
 [tl,.int .i64 r.k,.int .i64 r.deep,.int .i64 r.loops,.int .i64 r.bad,.int .i64 r.badAt,.int .i64 r.wrong,.int .i64 r.wrongAt,.pointer (some ⟨gp,0,none⟩),.int .i64 r.freqs]
structure FQ (w:World) (g gp:Nat) (tl:Value) (ts:List CB) (pc:List Value) (r:Ff):Prop where
 row:AM w g 124 (Ox tl gp r)
 toks:∃N,Sl N w 127 3 tl ts.length (ts.flatMap Kk)
 tl:ts.length≤1000
 pol:AM w gp 122 pc
 decls:∃N vd,pc[0]?=some vd∧Sl N w 130 3 vd r.decls.length (r.decls.flatMap FL)
 dl:r.decls.length≤1000
section
variable {w w':World} {g gp:Nat} {tl:Value} {ts:List CB} {pc:List Value} {r r':Ff}
theorem FQ.turn (h:FQ w g gp tl ts pc r) (hk:Kg g w w') (hr:AM w' g 124 (Ox tl gp r')) (hd:r'.decls=r.decls):FQ w' g gp tl ts pc r':=by
 have ks:∀{t:TypeId} {size n:Nat} {v:Value} {xs:List Value},t≠124→(∃N,Sl N w t size v n xs)→∃N,Sl N w' t size v n xs:=by
  rintro t size n v xs ht ⟨N,hs⟩
  exact⟨N,hs.kept hk (fun b hb hh=>hh.elim (fun e=>hs.ne_row h.row ht (e▸hb)) (fun h2=>by have:=hs.lt hb;omega))⟩
 refine⟨hr,ks (by decide) h.toks,h.tl,(Hw hk h.pol.lt (h.pol.ne_ h.row (by decide))).trans h.pol,?_,by rw[hd];exact h.dl⟩
 obtain⟨N,vd,h1,h2⟩:=h.decls
 obtain⟨N',h3⟩:=ks (by decide) ⟨N,h2⟩
 rw[hd]
 exact⟨N',vd,h1,h3⟩
theorem FQ.kg (h:FQ w g gp tl ts pc r) (hk:Kg g w w') (hg:w'.heap[g]?=w.heap[g]?):FQ w' g gp tl ts pc r:=h.turn hk (hg.trans h.row) rfl
theorem FQ.drewN (h:FQ w g gp tl ts pc r) (n:Nat):FQ (w.drewN n) g gp tl ts pc r:=h.kg ((Af.refl _ _).drewN n) rfl
theorem FQ.alloc (h:FQ w g gp tl ts pc r) (o:Obj):FQ (w.alloc o) g gp tl ts pc r:=h.kg ((Af.refl _ _).alloc (.inr (Ab _)) o) (FR w o g h.row.lt)
theorem FQ.far (h:FQ w g gp tl ts pc r) {n:Nat} {t:TypeId} {cs:List Value} (hn:AM w n t cs) (ht:t≠124∧t≠122∧t≠130) (Kv:tl.ownBlock≠some n) (i:Nat) (u:Value):
  FQ (w.setCell ⟨n,i,none⟩ u) g gp tl ts pc r:=by
 have hk:Af (fun b=>b=n) w (w.setCell ⟨n,i,none⟩ u):=Af.one w ⟨n,i,none⟩ u
 obtain⟨N,hs⟩:=h.toks
 obtain⟨N',vd,h1,h2⟩:=h.decls
 exact⟨h.row.far (h.row.ne_ hn (fun e=>ht.1 e.symm)) u,⟨N,hs.kept hk (fun b hb e=>Kv (e▸hb))⟩,h.tl,h.pol.far (h.pol.ne_ hn (fun e=>ht.2.1 e.symm)) u,⟨N',vd,h1,h2.kept hk (fun b hb e=>h2.ne_row hn (fun e'=>ht.2.2 e'.symm) (e▸hb))⟩,h.dl⟩
theorem FQ.cells (h:FQ w g gp tl ts pc r):w.cell? ⟨g,0,none⟩=some tl∧w.cell? ⟨g,1,none⟩=some (.int .i64 r.k)∧w.cell? ⟨g,2,none⟩=some (.int .i64 r.deep)∧w.cell? ⟨g,3,none⟩=some (.int .i64 r.loops)∧w.cell? ⟨g,4,none⟩=some (.int .i64 r.bad)∧
  w.cell? ⟨g,5,none⟩=some (.int .i64 r.badAt)∧w.cell? ⟨g,6,none⟩=some (.int .i64 r.wrong)∧w.cell? ⟨g,7,none⟩=some (.int .i64 r.wrongAt)∧w.cell? ⟨g,8,none⟩=some (.pointer (some ⟨gp,0,none⟩))∧w.cell? ⟨g,9,none⟩=some (.int .i64 r.freqs):=
 ⟨h.row.cell 0,h.row.cell 1,h.row.cell 2,h.row.cell 3,h.row.cell 4,h.row.cell 5,h.row.cell 6,h.row.cell 7,h.row.cell 8,h.row.cell 9⟩
theorem FQ.at_ (h:FQ w g gp tl ts pc r) {k:Nat} {x:CB} (hx:ts[k]?=some x):∃gt ct,tl= .slice (some ⟨gt,0,none⟩) ts.length ct∧ts.length≤ct∧ct≤maxLen∧k<ts.length∧gt≠g∧gt<w.heap.size∧
  w.cell? ⟨gt,k*3,none⟩=some (vs x.is)∧w.cell? ⟨gt,k*3+1,none⟩=some (vs x.txt)∧w.cell? ⟨gt,k*3+2,none⟩=some (.int .i64 x.pos):=by
 obtain⟨N,hs⟩:=h.toks
 have hk:=(Ap.1 hx).1
 obtain⟨gt,ct,rfl,_,h1,h2,h3⟩:=hs.form (by omega)
 refine⟨gt,ct,rfl,h1,h2,hk,fun e=>hs.ne_row h.row (by decide) (e▸rfl),h3,hs.at_ (fun _=>rfl) hx (j:=0) (by omega),hs.at_ (fun _=>rfl) hx (j:=1) (by omega),hs.at_ (fun _=>rfl) hx (j:=2) (by omega)⟩
end
def Aat (w:World) (b:Bool) (e:Ending) (w':World):Prop:=e= .returned (.bool b)∧∃n,w'=w.drewN n
section
variable {w:World} {g gp:Nat} {tl:Value} {ts:List CB} {pc:List Value} {r:Ff} {s:Ae} {α:Type} {o:AJ α}
theorem JG (h:FQ w g gp tl ts pc r) (hs:Bs s r o) (ht:DD ts (toks s)) {kd kr:Ae} (hk:kd≠J1) (OD:GE kd=kr):Calls Tryz.prog 51 #[.pointer (some ⟨g,0,none⟩),vs kr] w (Aat w (o.isB kd)):=by
 obtain⟨c0,c1,_,_,c4,_⟩:=h.cells
 cases o with
 |bad e pos=>
  have hb:r.bad≠0:=by rw[DF.bad hs];exact DF.ne hs
  have e1:((r.bad:Int)==0)=false:=by simpa using hb
  have e2:decide ((r.bad:Int)=0)=false:=by simpa using hb
  have e3:(AJ.bad e pos:AJ α).isB kd=false:=rfl
  rw[e3]
  clear hs h e3 hb OD
  go_enter Tryz.func51,Tryz.ntmps51
  go_wp2
  go_quiet (fail)
  go_wp2
  go_ret
  exact⟨rfl,_,rfl⟩
 |ok a st=>
  obtain⟨x,hx,IM⟩:=AB.tok hs ht
  obtain⟨gt,ct,rfl,h1,h2,h3,h4,h5,t0,_⟩:=h.at_ hx
  have hi:=qc (a:=a) (AB.pos hs) IM hk
  rw[OD]at hi
  have hb:(r.bad:Int)=0:=by rw[AB.bad hs];rfl
  rw[hb]at c4
  rw[←hi]
  unfold maxLen at h2
  have Jj:r.k<ts.length:=h3
  generalize r.k=k at*
  generalize ts.length=L at*
  clear hs h hb hx IM hi OD ht
  unfold vs at*
  go_enter Tryz.func51,Tryz.ntmps51
  go_wp2
  go_quiet (fail)
  go_wp2
  go_ret
  exact⟨rfl,nq,rfl⟩
def nR {β:Type} (w:World) (g gp:Nat) (tl:Value) (ts:List CB) (pc:List Value) (s:Ae) (ds:List Bf) (v:Value) (o:AJ β) (e:Ending) (w':World):Prop:=
 e= .returned v∧Kg g w w'∧∃r',FQ w' g gp tl ts pc r'∧Bs s r' o∧r'.decls=ds
def AJ.fail_ {α:Type} (o:AJ α) (e:Nat):AJ α:=o.bind fun _ st=>fail e st
theorem Mn (h:FQ w g gp tl ts pc r) (hs:Bs s r o) (ht:DD ts (toks s)) {e:Nat} (he:e≠0):Calls Tryz.prog 92 #[.pointer (some ⟨g,0,none⟩),.int .i64 e] w (nR w g gp tl ts pc s r.decls (.tuple #[]) (o.fail_ e)):=by
 obtain⟨c0,c1,_,_,c4,c5,_⟩:=h.cells
 have ff:=fun j=>h.row.frozen j
 cases o with
 |bad k pos=>
  have hb:r.bad≠0:=by rw[DF.bad hs];exact DF.ne hs
  have e1:((r.bad:Int)==0)=false:=by simpa using hb
  have e2:decide ((r.bad:Int)=0)=false:=by simpa using hb
  have HR:=Aa h
  have HS:=Aa hs
  clear hs h hb
  go_enter Tryz.func92,Tryz.ntmps92
  go_wp2
  go_end0
  exact⟨rfl,Af.refl _ _,r,HR.out,HS.out,rfl⟩
 |ok a st=>
  obtain⟨x,hx,IM⟩:=AB.tok hs ht
  obtain⟨gt,ct,rfl,h1,h2,h3,h4,h5,_,_,t2⟩:=h.at_ hx
  have hb:(r.bad:Int)=0:=by rw[AB.bad hs];rfl
  rw[hb]at c4
  unfold maxLen at h2
  have Jj:r.k<ts.length:=h3
  have Kf:x.pos=st.t.pos:=IM.2.1
  rw[Kf]at t2
  have HR:=Aa h
  have HS:=Aa hs
  generalize Gh:r.k=k at*
  generalize hL:ts.length=L at*
  have wW:=Aa Gh
  have HL:=Aa hL
  clear hs h hb hx IM ht Gh hL Kf
  go_enter Tryz.func92,Tryz.ntmps92
  go_wp2
  (refine DM 14 (by kernel_rfl) (by kernel_rfl) ?_;simp only[Aw,AO,Ax,AK];repeat still_step);refine Cf ?_
  go_wp2
  go_end0
  have A4:Kg g w (((w.setCell ⟨g,4,none⟩ (.int .i64 e)).setCell ⟨g,5,none⟩ (.int .i64 st.t.pos)).drewN 1):=(((Af.refl _ w).setCell (p:=⟨g,4,none⟩) (.inl rfl) _).setCell (p:=⟨g,5,none⟩) (.inl rfl) _).drewN 1
  refine⟨rfl,A4,{r with bad:=e,badAt:=st.t.pos},HR.out.turn A4 ?_ rfl,HS.out.fail he,rfl⟩
  have:=(HR.out.row.set_ 4 (.int .i64 e)).set_ 5 (.int .i64 st.t.pos)
  exact this
def DR {α:Type} (s kd:Ae) (o:AJ α):AJ Unit:=o.bind fun _ st=>.ok () (take s kd st).2
theorem Gu {s kd:Ae} {o:AJ α} (h:o.isB kd=true):∃a st,o= .ok a st∧st.t.kind=kd∧DR s kd o= .ok () (next s st):=by
 obtain⟨a,st,rfl,hk⟩:=AJ.isB_ok h
 refine⟨a,st,rfl,hk,?_⟩
 show AJ.ok () (take s kd st).2=_
 unfold take
 rw[Ak hk]
theorem Gp {s kd:Ae} {o:AJ α} (h:o.isB kd=false):DR s kd o=o.bind fun _ st=>.ok () st:=by
 cases o with
 |bad e p=>rfl
 |ok a st=>
  have hk:¬st.t.kind=kd:=by simpa[AJ.isB]using h
  show AJ.ok () (take s kd st).2= .ok () st
  unfold take
  rw[Ad hk]
theorem Bs.unit {s:Ae} {r:Ff} {o:AJ α} (h:Bs s r o):Bs s r (o.bind fun _ st=>.ok () st):=by
 cases o with
 |bad e p=>exact h
 |ok a st=>exact h
theorem FI (h:FQ w g gp tl ts pc r) (hs:Bs s r o) (ht:DD ts (toks s)) {kd kr:Ae} (hk:kd≠J1) (OD:GE kd=kr) (Bi:kd≠DJ) (A4:kd≠Bu):
  Calls Tryz.prog 89 #[.pointer (some ⟨g,0,none⟩),vs kr] w (nR w g gp tl ts pc s r.decls (.bool (o.isB kd)) (DR s kd o)):=by
 have SE:=JG h hs ht hk OD
 obtain⟨c0,c1,_⟩:=h.cells
 have ff:=fun j=>h.row.frozen j
 have h8:=h.tl
 have Cy:=hs.lt
 rw[←ht.len]at Cy
 have HR:=Aa h
 have HS:=Aa hs
 cases hb:o.isB kd with
 |true=>
  obtain⟨a,st,rfl,OE,Qz⟩:=Gu (s:=s) hb
  have FF:=AB.next hs (by rw[OE];exact Bi) (by rw[OE];exact A4)
  rw[hb]at SE
  have HI:=Aa SE
  have HN:=Aa FF
  have HT:=Aa Qz
  generalize Gh:r.k=k at*
  generalize hL:ts.length=L at*
  have wW:=Aa Gh
  have HL:=Aa hL
  clear SE hs h hb OE FF Qz ht Gh hL OD
  unfold vs at*
  go_enter jQ,dd
  go_wp2_with fail
  refine HI.out.mono ?_
  rintro e w1 ⟨rfl,n,rfl⟩
  go_wp2
  go_ret
  have BY:Kg g w ((w.setCell ⟨g,1,none⟩ (.int .i64 (k+1))).drewN n):=((Af.refl _ w).setCell (p:=⟨g,1,none⟩) (.inl rfl) _).drewN n
  rw[HT.out]
  refine⟨rfl,BY,{r with k:=k+1},HR.out.turn BY ?_ rfl,HN.out,rfl⟩
  have:=HR.out.row.set_ 1 (.int .i64 (k+1))
  exact this
 |false=>
  have Qz:=Gp (s:=s) hb
  rw[hb]at SE
  have HI:=Aa SE
  have HT:=Aa Qz
  clear SE hs h hb Qz ht OD c0 c1 ff Cy h8
  unfold vs at*
  go_enter jQ,dd
  go_wp2_with fail
  refine HI.out.mono ?_
  rintro e w1 ⟨rfl,n,rfl⟩
  go_wp2
  go_ret
  rw[HT.out]
  exact⟨rfl,(Af.refl _ _).drewN n,r,HR.out.drewN n,HS.out.unit,rfl⟩
def DB (x:CB):Value:=.agg #[vs x.is,vs x.txt,.int .i64 x.pos]
def Afk (w:World) (g gp:Nat) (tl:Value) (ts:List CB) (pc:List Value) (s:Ae) (ds:List Bf) (o:AJ Mc) (e:Ending) (w':World):Prop:=
 ∃x:CB,e= .returned (DB x)∧Kg g w w'∧(∀t st,o= .ok t st→x.Of t)∧∃r',FQ w' g gp tl ts pc r'∧Bs s r' o∧r'.decls=ds
def BC {α:Type} (s kd:Ae) (o:AJ α):AJ Mc:=o.bind fun _ st=>want s kd st
theorem VZ {s kd:Ae} {o:AJ α} (h:o.isB kd=true):∃a st,o= .ok a st∧DR s kd o= .ok () (next s st)∧BC s kd o= .ok st.t (next s st):=by
 obtain⟨a,st,rfl,hk,ht⟩:=Gu (s:=s) h
 refine⟨a,st,rfl,ht,?_⟩
 show want s kd st=_
 unfold want
 rw[Ak hk]
theorem Yl {s kd:Ae} {o:AJ α} (h:o.isB kd=false) {r:Ff} (hs:Bs s r ((DR s kd o).fail_ D1)):Bs s r (BC s kd o)∧∀t st,BC s kd o≠.ok t st:=by
 rw[Gp h]at hs
 cases o with
 |bad e p=>exact⟨hs,fun t st e=>by cases e⟩
 |ok a st=>
  have hk:¬st.t.kind=kd:=by simpa[AJ.isB]using h
  have e:BC s kd (.ok a st)= .bad D1 st.t.pos:=by
   show want s kd st=_
   unfold want
   rw[Ad hk]
   rfl
  rw[e]
  exact⟨hs,fun t st e=>by cases e⟩
theorem Eg {w w':World} {g:Nat} (hk:Kg g w w') {n:Nat} {t:TypeId} {cs:List Value} (hr:AM w n t cs) (hn:n≠g):AM w' n t cs:=(Hw hk hr.lt hn).trans hr
theorem fa (w:World):(isAgg 127).run Tryz.prog w= .ok true w:=by kernel_rfl
theorem Yz (w:World):(Go.sizeOf 127).run Tryz.prog w= .ok 3 w:=by kernel_rfl
theorem Dw (h:FQ w g gp tl ts pc r) (hs:Bs s r o) (ht:DD ts (toks s)) {kd kr:Ae} (hk:kd≠J1) (OD:GE kd=kr) (Bi:kd≠DJ) (A4:kd≠Bu):
  Calls Tryz.prog 54 #[.pointer (some ⟨g,0,none⟩),vs kr] w (Afk w g gp tl ts pc s r.decls (BC s kd o)):=by
 have Zj:=fun W (hW:FQ W g gp tl ts pc r)=>FI hW hs ht hk OD Bi A4
 obtain⟨c0,c1,_⟩:=h.cells
 have Cy:=h.row.lt
 obtain⟨x,hx⟩:=hs.tok ht
 obtain⟨gt,ct,rfl,h1,h2,h3,h4,h5,t0,t1,t2⟩:=h.at_ hx
 unfold maxLen at h2
 have Jj:r.k<ts.length:=h3
 have h8:=h.tl
 have HR:=Aa h
 have HS:=Aa hs
 have HX:=Aa hx
 have oU:=Aa ht
 have HT:=Aa Zj
 generalize Gh:r.k=k at*
 generalize hL:ts.length=L at*
 have wW:=Aa Gh
 have HL:=Aa hL
 clear hs h hx ht Gh hL Zj OD
 cases hb:o.isB kd
 all_goals
  have HB:=Aa hb
  clear hb
  unfold vs at*
  go_enter Tryz.func54,Tryz.ntmps54
  go_wp2
  go_region
  go_wp2_with fail
  have vF:FQ ((w.alloc (.cells #[vs [],vs [],.int .i64 0] 127)).alloc (.cells #[vs x.is,vs x.txt,.int .i64 x.pos] 127)).drew g gp (.slice (some ⟨gt,0,none⟩) L ct) ts pc r:=((HR.out.alloc _).alloc _).drewN 1
  have x0:AM ((w.alloc (.cells #[vs [],vs [],.int .i64 0] 127)).alloc (.cells #[vs x.is,vs x.txt,.int .i64 x.pos] 127)).drew w.heap.size 127 [vs [],vs [],.int .i64 0]:=(AM.new w _ _).alloc _
  have x1:AM ((w.alloc (.cells #[vs [],vs [],.int .i64 0] 127)).alloc (.cells #[vs x.is,vs x.txt,.int .i64 x.pos] 127)).drew (w.heap.size+1) 127 [vs x.is,vs x.txt,.int .i64 x.pos]:=by
   have:=AM.new (w.alloc (.cells #[vs [],vs [],.int .i64 0] 127)) 127 [vs x.is,vs x.txt,.int .i64 x.pos]
   simp only[RX]at this
   exact this
  have kk:Kg g w ((w.alloc (.cells #[vs [],vs [],.int .i64 0] 127)).alloc (.cells #[vs x.is,vs x.txt,.int .i64 x.pos] 127)).drew:=(((Af.refl _ w).alloc (.inr (Ab _)) _).alloc (.inr (by simp)) _).drew
  have GM:=HT.out _ vF
  rw[HB.out]at GM
  have MG:=Aa GM
  have X0:=Aa x0
  have X1:=Aa x1
  have KK:=Aa kk
  clear vF GM x0 x1 kk
  unfold vs at*
  refine MG.out.mono ?_
  rintro e w1 ⟨rfl,Bi,r',Mj,SV,sX⟩
  have HD':=Aa sX
  clear sX
  have K1:=Aa Bi
  have oW:=Aa Mj
  have HS':=Aa SV
  clear Bi Mj SV
  first
   |(go_wp2_with fail
     refine(Mn oW.out HS'.out oU.out (e:=2) (by decide)).mono ?_
     rintro e w2 ⟨rfl,A4,r2,Ij,Cp,Fp⟩
     have XN:=Aa Fp
     clear Fp
     have K2:=Aa A4
     have Tc:=Aa Ij
     have SL:=Aa Cp
     clear A4 Ij Cp)
   |skip
  first
   |have y0:=Eg K2.out (Eg K1.out X0.out (by omega)) (by omega)
   |have y0:=Eg K1.out X0.out (by omega)
  first
   |have y1:=Eg K2.out (Eg K1.out X1.out (by omega)) (by omega)
   |have y1:=Eg K1.out X1.out (by omega)
  have d0:=y0.cell 0
  have d1:=y0.cell 1
  have d2:=y0.cell 2
  have e0:=y1.cell 0
  have xS:=y1.cell 1
  have tC:=y1.cell 2
  have fz:=fun j=>y0.frozen j
  have Y0:=Aa y0
  clear y0 y1
  simp at d0 d1 d2 e0 xS tC
  go_wp2
  have q1:=Y0.out
  have Kv:(Value.slice (some ⟨gt,0,none⟩) L ct).ownBlock≠some w.heap.size:=fun e=>by injection e with e;simp only at e;omega
  first
   |have g0:=Tc.out
   |have g0:=oW.out
  first
   |have kk:Kg g w _:=(KK.out.trans K1.out).trans K2.out
   |have kk:Kg g w _:=KK.out.trans K1.out
  have g1:=g0.far q1 (by decide) Kv 0 (.string ⟨x.is.toArray⟩)
  have q2:=q1.set_ 0 (.string ⟨x.is.toArray⟩)
  have g2:=g1.far q2 (by decide) Kv 1 (.string ⟨x.txt.toArray⟩)
  have q3:=q2.set_ 1 (.string ⟨x.txt.toArray⟩)
  have g3:=g2.far q3 (by decide) Kv 2 (.int .i64 x.pos)
  have q4:=q3.set_ 2 (.int .i64 x.pos)
  have k4:=((kk.setCell (p:=⟨w.heap.size,0,none⟩) (.inr (Ab _)) (.string ⟨x.is.toArray⟩)).setCell (p:=⟨w.heap.size,1,none⟩) (.inr (Ab _)) (.string ⟨x.txt.toArray⟩)).setCell (p:=⟨w.heap.size,2,none⟩) (.inr (Ab _)) (.int .i64 x.pos)
  refine Av (AG (cs:=[.string ⟨x.is.toArray⟩,.string ⟨x.txt.toArray⟩,.int .i64 x.pos]) Tryz.results54 fa Yz rfl q4) rfl ?_
  refine⟨x,rfl,k4,?_⟩
  first
   |(obtain⟨a,st,rfl,e1,e2⟩:=VZ (s:=s) HB.out
     refine⟨fun t st' e=>?_,_,g3,?_,HD'.out⟩
     rw[e2]at e
     injection e with e3 e4
     obtain⟨x',LT,IM⟩:=AB.tok HS.out oU.out
     rw[wW.out,HX.out]at LT
     injection LT with LT
     rw[←e3,LT]
     exact IM
     rw[e2]
     have h9:=HS'.out
     rw[e1]at h9
     exact h9)
   |(obtain⟨e1,e2⟩:=Yl HB.out SL.out
     exact⟨fun t st' e=>absurd e (e2 t st'),_,g3,e1,XN.out.trans HD'.out⟩)
end
def NQ {α:Type} (e pos:Nat) (o:AJ α):AJ Unit:=o.bind fun _ st=>.ok () (note e pos st)
section
variable {w:World} {g gp:Nat} {tl:Value} {ts:List CB} {pc:List Value} {r:Ff} {s:Ae} {α:Type} {o:AJ α}
theorem Hk (h:FQ w g gp tl ts pc r) (hs:Bs s r o) {e:Nat} (he:e≠0) (pos:Nat):Calls Tryz.prog 86 #[.pointer (some ⟨g,0,none⟩),.int .i64 e,.int .i64 pos] w (nR w g gp tl ts pc s r.decls (.tuple #[]) (NQ e pos o)):=by
 obtain⟨_,_,_,_,c4,_,c6,_⟩:=h.cells
 have ff:=fun j=>h.row.frozen j
 have HR:=Aa h
 cases o with
 |bad k p=>
  have hb:r.bad≠0:=by rw[DF.bad hs];exact DF.ne hs
  have e1:((r.bad:Int)==0)=false:=by simpa using hb
  have e2:decide ((r.bad:Int)=0)=false:=by simpa using hb
  have HS:=Aa hs
  clear hs h hb
  go_enter Tryz.func86,Tryz.ntmps86
  go_wp2
  go_end0
  exact⟨rfl,Af.refl _ _,r,HR.out,HS.out,rfl⟩
 |ok a st=>
  have hb:(r.bad:Int)=0:=by rw[AB.bad hs];rfl
  rw[hb]at c4
  have eM:=AB.note (pos:=pos) hs he
  have HN:=Aa eM
  by_cases hw:r.wrong=0
  ·have Xh:(r.wrong:Int)=0:=by omega
   rw[Xh]at c6
   have HW:=Aa hw
   clear hs h hb eM hw Xh
   go_enter Tryz.func86,Tryz.ntmps86
   go_wp2
   go_end0
   have A4:Kg g w ((w.setCell ⟨g,6,none⟩ (.int .i64 e)).setCell ⟨g,7,none⟩ (.int .i64 pos)):=((Af.refl _ w).setCell (p:=⟨g,6,none⟩) (.inl rfl) _).setCell (p:=⟨g,7,none⟩) (.inl rfl) _
   refine⟨rfl,A4,{r with wrong:=e,wrongAt:=pos},HR.out.turn A4 ?_ rfl,?_,rfl⟩
   ·have:=(HR.out.row.set_ 6 (.int .i64 e)).set_ 7 (.int .i64 pos)
    exact this
   ·have:=HN.out
    rw[Ak HW.out]at this
    exact this
  ·have e1:((r.wrong:Int)==0)=false:=by simpa using hw
   have e2:decide ((r.wrong:Int)=0)=false:=by simpa using hw
   have HW:=Aa hw
   clear hs h hb eM hw
   go_enter Tryz.func86,Tryz.ntmps86
   go_wp2
   go_end0
   refine⟨rfl,Af.refl _ _,r,HR.out,?_,rfl⟩
   have:=HN.out
   rw[Ad HW.out]at this
   exact this
end
theorem Wd {S:Nat→Prop} (name:Ae) (gp:Nat) (l:List Bf) (vd:Value) (w:World) (hs:Sl S w 130 3 vd l.length (l.flatMap FL)) (hl:l.length≤1000) (hg:gp<w.heap.size) (hc:w.cell? ⟨gp,0,none⟩=some vd):
  Calls Tryz.prog 88 #[.pointer (some ⟨gp,0,none⟩),vs name] w fun e w'=>e= .returned (.int .i64 (find l name))∧Below w.heap.size w w':=by
 obtain⟨ao,cap,rfl⟩:=hs.any_
 have HS:=Aa hs
 have HC:=Aa hc
 clear hs
 go_enter Tryz.func88,Tryz.ntmps88
 go_wp2
 go_loopg [12] l.length (fun gg s12 wr=>∃kk:Nat,kk≤l.length∧l.length-kk≤gg∧s12= .int .i64 kk∧Below w.heap.size w wr∧(∀(j:Nat) (d:Bf),j<kk→l[j]?=some d→d.name≠name))
 case atStart=>exact⟨0,Bn _,by omega,rfl,Tf _ w,fun j d hj=>absurd hj (nY _)⟩
 case round=>
  obtain⟨kk,Jj,qC,rfl,bw,a⟩:=hrel
  have BW:=Aa bw
  have A:=Aa a
  clear bw a hc
  by_cases Cy:kk<l.length
  ·obtain⟨x,hx⟩:∃x,l[kk]?=some x:=⟨_,Ah Cy⟩
   obtain⟨gd,rfl,Ws,GH⟩:=HS.out.get_ (fun _=>rfl) hx
   have c0:wr.cell? ⟨gd,kk*3,none⟩=some (vs (En x.kind)):=(BW.out.cell (p:=⟨gd,kk*3,none⟩) Ws).trans (GH 0 (by omega))
   have c1:wr.cell? ⟨gd,kk*3+1,none⟩=some (vs x.name):=(BW.out.cell (p:=⟨gd,kk*3+1,none⟩) Ws).trans (GH 1 (by omega))
   have c2:wr.cell? ⟨gd,kk*3+2,none⟩=some (.int .i64 x.max):=(BW.out.cell (p:=⟨gd,kk*3+2,none⟩) Ws).trans (GH 2 (by omega))
   have Fw:=BW.out.size
   have IZ:¬gd=wr.heap.size:=by omega
   have HX:=Aa hx
   clear hx GH Ws
   unfold vs at*
   by_cases hn:x.name=name
   ·have e1:(x.name==name)=true:=by simpa using hn
    have e2:decide (x.name=name)=true:=by simpa using hn
    have HN:=Aa hn
    clear hn
    go_wp2
    go_ret
    refine⟨?_,BW.out.alloc Fw _⟩
    unfold find
    rw[M4 name l 0 kk x HX.out HN.out A.out,FA]
    rfl
   ·have e1:(x.name==name)=false:=by simpa using hn
    have e2:decide (x.name=name)=false:=by simpa using hn
    have HN:=Aa hn
    clear hn
    go_wp2
    go_roundg (l.length-(kk+1))
    case measure=>omega
    case rel=>
     refine⟨kk+1,by omega,by omega,by go_num,BW.out.alloc Fw _,fun j d hj hd=>?_⟩
     by_cases e:j=kk
     ·subst e
      rw[HX.out]at hd
      injection hd with hd
      exact hd▸HN.out
     ·exact A.out j d (by omega) hd
  ·have:kk=l.length:=by omega
   subst this
   go_wp2
   go_ret
   refine⟨?_,BW.out⟩
   unfold find
   rw[L0 name l 0 (fun j d hd=>A.out j d (Ap.1 hd).1 hd)]
   rfl
theorem jb {l:Ae} {k:Nat} (hk:k<l.length):atoi (l.take (k+1))=10*atoi (l.take k)+((l[k].toNat:Int)-48):=by
 unfold atoi
 rw[dC hk,List.foldl_append]
 rfl
def Afl (w:World) (g gp:Nat) (tl:Value) (ts:List CB) (pc:List Value) (s:Ae) (ds:List Bf) (o:AJ Int) (e:Ending) (w':World):Prop:=
 ∃v:Int,e= .returned (.int .i64 v)∧Kg g w w'∧(∀n st,o= .ok n st→v=n)∧∃r',FQ w' g gp tl ts pc r'∧Bs s r' o∧r'.decls=ds
def GY {α:Type} (s:Ae) (least most:Int) (o:AJ α):AJ Int:=o.bind fun _ st=>number s least most st
theorem pO {α:Type} (s:Ae) (least most:Int) (o:AJ α):GY s least most o=(BC s Bc o).bind fun t st=>.ok (atoi t.text) (if atoi t.text<least∨atoi t.text>most then note Kn t.pos st else st):=by
 cases o with
 |bad e p=>rfl
 |ok a st=>rfl
theorem fF {α:Type} {s:Ae} {o:AJ α} {t:Mc} {st:PS} {r:Ff} (hs:Bs s r o) (h:BC s Bc o= .ok t st):Tt t.text∧t.kind=Bc:=by
 cases o with
 |bad e p=>cases h
 |ok a E5=>
  obtain⟨h1,rfl,_⟩:=Bw (show want s Bc E5= .ok t st from h)
  exact⟨(AB.ok hs).num h1,h1⟩
section
variable {w:World} {g gp:Nat} {tl:Value} {ts:List CB} {pc:List Value} {r:Ff} {s:Ae} {α:Type} {o:AJ α}
theorem JR (h:FQ w g gp tl ts pc r) (hs:Bs s r o) (ht:DD ts (toks s)) (least most:Int):Calls Tryz.prog 87 #[.pointer (some ⟨g,0,none⟩),.int .i64 least,.int .i64 most] w (Afl w g gp tl ts pc s r.decls (GY s least most o)):=by
 have Ng:=Dw h hs ht (kd:=Bc) (kr:=J1) (by decide) (by decide) (by decide) (by decide)
 rw[pO]
 have eM:=fun t st=>fF (t:=t) (st:=st) hs
 generalize BC s Bc o=o1 at*
 have HN:=Aa Ng
 have tS:=Aa eM
 clear Ng eM h hs
 go_enter Tryz.func87,Tryz.ntmps87
 unfold vs at*
 go_wp2_with fail
 refine HN.out.mono ?_
 rintro e w1 ⟨x,rfl,Bi,hx,r1,h1,GG,Gi⟩
 have Cy:=h1.row.lt
 have hng:¬g=w1.heap.size:=by omega
 obtain⟨_,_,_,_,c4,_⟩:=h1.cells
 unfold DB vs
 have HR:=Aa (h1.alloc (.cells #[vs x.is,vs x.txt,.int .i64 x.pos] 127))
 have K1:=Aa (Bi.alloc (.inr Bi.size) (.cells #[vs x.is,vs x.txt,.int .i64 x.pos] 127))
 have HD:=Aa Gi
 clear h1 Bi Gi HN
 unfold vs at*
 cases o1 with
 |bad k p=>
  have hb:r1.bad≠0:=by rw[DF.bad GG];exact DF.ne GG
  have e1:((r1.bad:Int)==0)=false:=by simpa using hb
  have e2:decide ((r1.bad:Int)=0)=false:=by simpa using hb
  have HS:=Aa GG
  clear hb GG hx
  have hL:=Aa (show(x.txt.length:Int)=(x.txt.length:Int)from rfl)
  go_wp2
  go_loopg [8,9] 0 (fun gg s8 s9 wr=>s8= .int .i64 0∧s9= .int .i64 0∧wr=w1.alloc (.cells #[.string ⟨x.is.toArray⟩,.string ⟨x.txt.toArray⟩,.int .i64 x.pos] 127))
  case atStart=>exact⟨rfl,rfl,rfl⟩
  case round=>
   obtain⟨rfl,rfl,rfl⟩:=hrel
   have zP:∀(c:Bool),(0:Int)<least∨most<0→Calls Tryz.prog 86 #[.pointer (some ⟨g,0,none⟩),.int .i64 7,.int .i64 x.pos] (w1.alloc (.cells #[.string ⟨x.is.toArray⟩,.string ⟨x.txt.toArray⟩,.int .i64 x.pos] 127)) (nR (w1.alloc (.cells #[.string ⟨x.is.toArray⟩,.string ⟨x.txt.toArray⟩,.int .i64 x.pos] 127)) g gp tl ts pc s r1.decls (.tuple #[]) (NQ Kn x.pos (AJ.bad k p:AJ Mc))):=fun _ _=>Hk (e:=Kn) HR.out HS.out (by decide) x.pos
   have Aak:=Aa zP
   clear zP
   by_cases hz:(0:Int)<(x.txt.length:Int)
   all_goals
    by_cases c1:(0:Int)<least
    ·go_wp2_with fail
     refine(Aak.out true (.inl c1)).mono ?_
     rintro e w3 ⟨rfl,BY,r3,h3,Fo,Gx⟩
     have F:=Aa (And.intro BY (And.intro h3 (And.intro Fo Gx)))
     clear BY h3 Fo Gx
     go_wp2
     go_ret
     obtain⟨f1,f2,f3,f4⟩:=F.out
     exact⟨0,rfl,Kg.trans K1.out f1,fun n st e=>(by cases e),r3,f2,f3,f4.trans HD.out⟩
    ·by_cases c2:most<0
     ·go_wp2_with fail
      refine(Aak.out true (.inr c2)).mono ?_
      rintro e w3 ⟨rfl,BY,r3,h3,Fo,Gx⟩
      have F:=Aa (And.intro BY (And.intro h3 (And.intro Fo Gx)))
      clear BY h3 Fo Gx
      go_wp2
      go_ret
      obtain⟨f1,f2,f3,f4⟩:=F.out
      exact⟨0,rfl,Kg.trans K1.out f1,fun n st e=>(by cases e),r3,f2,f3,f4.trans HD.out⟩
     ·go_wp2
      go_ret
      exact⟨0,rfl,K1.out,fun n st e=>(by cases e),r1,HR.out,HS.out,HD.out⟩
 |ok t st=>
  have hb:(r1.bad:Int)=0:=by rw[AB.bad GG];rfl
  rw[hb]at c4
  have HS:=Aa GG
  have IM:=hx t st rfl
  obtain⟨⟨n1,n2,n3⟩,bU⟩:=tS.out t st rfl
  have Kf:x.pos=t.pos:=IM.2.1
  have htx:x.txt=t.text:=IM.2.2 (by rw[bU];decide)
  have HP:=Aa Kf
  have ol:=Aa htx
  rw[←htx]at n1 n2 n3
  have zT:∀(k:Nat) (hk:k<x.txt.length),48≤(x.txt[k]).toNat∧(x.txt[k]).toNat≤57:=fun k hk=>by
   have:=n3 _ (MD hk)
   simp only[E6,C3,Dc,CC]at this
   exact this
  have Ago:=Aa zT
  have Zq:Calls Tryz.prog 86 #[.pointer (some ⟨g,0,none⟩),.int .i64 7,.int .i64 x.pos] (w1.alloc (.cells #[.string ⟨x.is.toArray⟩,.string ⟨x.txt.toArray⟩,.int .i64 x.pos] 127)) (nR (w1.alloc (.cells #[.string ⟨x.is.toArray⟩,.string ⟨x.txt.toArray⟩,.int .i64 x.pos] 127)) g gp tl ts pc s r1.decls (.tuple #[]) (NQ Kn x.pos (AJ.ok t st))):=Hk (e:=Kn) HR.out HS.out (by decide) x.pos
  have tU:=Aa Zq
  clear Zq GG hx IM n3 Kf htx hb bU tS zT
  go_wp2
  go_loopg [8,9] x.txt.length (fun gg s8 s9 wr=>∃(k:Nat) (v:Int),k≤x.txt.length∧x.txt.length-k≤gg∧s9= .int .i64 k∧s8= .int .i64 v∧v=atoi (x.txt.take k)∧0≤v∧(k=0→v=0)∧(k=1→v≤9)∧(k=2→v≤99)∧v≤999∧wr=w1.alloc (.cells #[.string ⟨x.is.toArray⟩,.string ⟨x.txt.toArray⟩,.int .i64 x.pos] 127))
  case atStart=>exact⟨0,0,by omega,by omega,rfl,rfl,rfl,by omega,by omega,by omega,by omega,by omega,rfl⟩
  case round=>
   obtain⟨k,v,hk,hg,rfl,rfl,hv,v0,v1,v2,v3,v4,rfl⟩:=hrel
   have HV:=Aa hv
   clear hv
   by_cases Cy:k<x.txt.length
   ·obtain⟨d1,d2⟩:=Ago.out k Cy
    have ha:=jb Cy
    have HA:=Aa ha
    clear ha
    go_wp2
    go_roundg (x.txt.length-(k+1))
    case measure=>omega
    case rel=>
     refine⟨k+1,10*v+((x.txt[k].toNat:Int)-48),by omega,by omega,by go_num,?_,?_,by omega,by omega,by omega,by omega,by omega,rfl⟩
     ·have e0:(⟨x.txt.toArray⟩:ByteArray)[k]=x.txt[k]:=rfl
      rw[e0]
      congr 1
      omega
     ·rw[HA.out,HV.out]
   ·have vO:k=x.txt.length:=by omega
    subst vO
    have Uq:v=atoi t.text:=by rw[HV.out,Sa,ol.out]
    have aG:=Aa Uq
    clear Uq
    by_cases c1:v<least
    ·go_wp2_with fail
     refine tU.out.mono ?_
     rintro e w3 ⟨rfl,BY,r3,h3,Fo,Gx⟩
     have F:=Aa (And.intro BY (And.intro h3 (And.intro Fo Gx)))
     clear BY h3 Fo Gx
     go_wp2
     go_ret
     obtain⟨f1,f2,f3,f4⟩:=F.out
     refine⟨v,rfl,Kg.trans K1.out f1,fun n st' e=>?_,r3,f2,?_,f4.trans HD.out⟩
     ·injection e with e _
      rw[aG.out,e]
     ·show AB s r3 (if _ then _ else _)
      rw[←aG.out,Ak (.inl c1),←HP.out]
      exact f3
    ·by_cases c2:v>most
     ·go_wp2_with fail
      refine tU.out.mono ?_
      rintro e w3 ⟨rfl,BY,r3,h3,Fo,Gx⟩
      have F:=Aa (And.intro BY (And.intro h3 (And.intro Fo Gx)))
      clear BY h3 Fo Gx
      go_wp2
      go_ret
      obtain⟨f1,f2,f3,f4⟩:=F.out
      refine⟨v,rfl,Kg.trans K1.out f1,fun n st' e=>?_,r3,f2,?_,f4.trans HD.out⟩
      ·injection e with e _
       rw[aG.out,e]
      ·show AB s r3 (if _ then _ else _)
       rw[←aG.out,Ak (.inr c2),←HP.out]
       exact f3
     ·go_wp2
      go_ret
      refine⟨v,rfl,K1.out,fun n st' e=>?_,r1,HR.out,?_,HD.out⟩
      ·injection e with e _
       rw[aG.out,e]
      ·show AB s r1 (if _ then _ else _)
       rw[←aG.out,Ad (by omega)]
       exact HS.out
end
theorem Sl.below_ {N:Nat→Prop} {w w':World} {t:TypeId} {size n:Nat} {v:Value} {xs:List Value} (h:Sl N w t size v n xs) (hb:Below w.heap.size w w'):Sl N w' t size v n xs:=
 h.kept (Af.of_below hb (S:=fun b=>w.heap.size≤b) (fun k hk=>hk)) (fun b hb hs=>by have:=h.lt hb;omega)
theorem Vp {k:Nat} (h:k=2):En k=IY:=by unfold En;rw[Ak h]
theorem W3 {k:Nat} (h:¬k=2):(En k==IY)=false:=by
 unfold En;rw[Ad h];split<;>decide
def zW12 (w:World) (g gp:Nat) (tl:Value) (ts:List CB) (pc:List Value) (s:Ae) (ds:List Bf) (o:AJ Int) (e:Ending) (w':World):Prop:=
 ∃v:Nat,e= .returned (.int .i64 v)∧Kg g w w'∧(∀n st,o= .ok n st→st.wrong=none→n=v)∧∃r',FQ w' g gp tl ts pc r'∧Bs s r' o∧r'.decls=ds
def No {α:Type} (s:Ae) (b:Bool) (o:AJ α):AJ Int:=o.bind fun _ st=>name s b st
theorem uH {α:Type} (s:Ae) (b:Bool) (o:AJ α):No s b o=(BC s BG o).bind fun t st=>.ok (find st.decls t.text) (Ch b t st):=by
 cases o with
 |bad e p=>rfl
 |ok a st=>rfl
def jX (ds:List Bf) (x:CB) (o:AJ Mc):Prop:=∀t st,o= .ok t st→x.pos=t.pos∧x.txt=t.text∧st.decls=ds
section
variable {s:Ae} {r r2:Ff} {x:CB} {o:AJ Mc} {b:Bool} {i:Nat} {d:Bf}
theorem pQ (h:jX r.decls x o) (hf:find r.decls x.txt= -1) (hs:Bs s r2 (NQ WA x.pos o)):
  Bs s r2 (o.bind fun t st=>.ok (find st.decls t.text) (Ch b t st))∧∀n st,(o.bind fun t st=>AJ.ok (find st.decls t.text) (Ch b t st))= .ok n st→st.wrong=none→n=((0:Nat):Int):=by
 cases o with
 |bad e p=>exact⟨hs,fun n st e=>by cases e⟩
 |ok t st=>
  obtain⟨h1,h2,h3⟩:=h t st rfl
  have e:Ch b t st=note WA t.pos st:=by unfold Ch;rw[h3,←h2,hf];rfl
  refine⟨?_,fun n st' e' hw=>?_⟩
  ·show AB s r2 (Ch b t st)
   rw[e,←h1]
   exact hs
  ·injection e' with _ e'
   rw[←e',e]at hw
   exact absurd hw (Ft _ _ _)
theorem eB (h:jX r.decls x o) (hi:r.decls[i]?=some d) (hf:find r.decls x.txt=(i:Int)) (hd:Au r.decls (i:Int)=d) (hk:((d.kind==2)!=b)=true) (hs:Bs s r2 (NQ SI x.pos o)):
  Bs s r2 (o.bind fun t st=>.ok (find st.decls t.text) (Ch b t st))∧∀n st,(o.bind fun t st=>AJ.ok (find st.decls t.text) (Ch b t st))= .ok n st→st.wrong=none→n=(i:Int):=by
 cases o with
 |bad e p=>exact⟨hs,fun n st e=>by cases e⟩
 |ok t st=>
  obtain⟨h1,h2,h3⟩:=h t st rfl
  have e:Ch b t st=note SI t.pos st:=by unfold Ch;rw[h3,←h2,hf,Ad (by omega),hd,Ak hk]
  refine⟨?_,fun n st' e' hw=>?_⟩
  ·show AB s r2 (Ch b t st)
   rw[e,←h1]
   exact hs
  ·injection e' with _ e'
   rw[←e',e]at hw
   exact absurd hw (Ft _ _ _)
theorem sn (h:jX r.decls x o) (hi:r.decls[i]?=some d) (hf:find r.decls x.txt=(i:Int)) (hd:Au r.decls (i:Int)=d) (hk:((d.kind==2)!=b)=false) (hs:Bs s r2 o):
  Bs s r2 (o.bind fun t st=>.ok (find st.decls t.text) (Ch b t st))∧∀n st,(o.bind fun t st=>AJ.ok (find st.decls t.text) (Ch b t st))= .ok n st→st.wrong=none→n=(i:Int):=by
 cases o with
 |bad e p=>exact⟨hs,fun n st e=>by cases e⟩
 |ok t st=>
  obtain⟨h1,h2,h3⟩:=h t st rfl
  have e:Ch b t st=st:=by unfold Ch;rw[h3,←h2,hf,Ad (by omega),hd,hk];rfl
  refine⟨?_,fun n st' e' hw=>?_⟩
  ·show AB s r2 (Ch b t st)
   rw[e]
   exact hs
  ·injection e' with e1 e'
   rw[←e1,h3,←h2,hf]
end
section
variable {w:World} {g gp:Nat} {tl:Value} {ts:List CB} {pc:List Value} {r:Ff} {s:Ae} {α:Type} {o:AJ α}
theorem Ym {t:Mc} {st:PS} {x:CB} (h:BC s BG o= .ok t st) (hx:x.Of t) {r1:Ff} (hs:Bs s r1 (BC s BG o)):x.pos=t.pos∧x.txt=t.text∧st.decls=r1.decls:=by
 cases o with
 |bad e p=>cases h
 |ok a E5=>
  have Cp:=hs
  rw[h]at Cp
  obtain⟨h1,rfl,h2⟩:=Bw (show want s BG E5= .ok t st from h)
  exact⟨hx.2.1,hx.2.2 (by rw[h1];decide),(AB.decls Cp).symm⟩
theorem D5 (h:FQ w g gp tl ts pc r) (hs:Bs s r o) (ht:DD ts (toks s)) (b:Bool):Calls Tryz.prog 90 #[.pointer (some ⟨g,0,none⟩),.bool b] w (zW12 w g gp tl ts pc s r.decls (No s b o)):=by
 have Ng:=Dw h hs ht (kd:=BG) (kr:=BG) (by decide) (by decide) (by decide) (by decide)
 rw[uH]
 have eM:=fun t st x r1 h1 h2 h3=>Ym (s:=s) (o:=o) (t:=t) (st:=st) (x:=x) (r1:=r1) h1 h2 h3
 generalize BC s BG o=o1 at*
 have HN:=Aa Ng
 have tS:=Aa eM
 clear Ng eM h hs
 go_enter Tryz.func90,Tryz.ntmps90
 unfold vs at*
 go_wp2_with fail
 refine HN.out.mono ?_
 rintro e w1 ⟨x,rfl,Bi,hx,r1,h1,GG,Gi⟩
 have Cy:=h1.row.lt
 have hng:¬g=w1.heap.size:=by omega
 have Ny:=h1.alloc (.cells #[vs x.is,vs x.txt,.int .i64 x.pos] 127)
 have hA:=Ny.drewN 1
 have oM:=(Bi.alloc (.inr Bi.size) (.cells #[vs x.is,vs x.txt,.int .i64 x.pos] 127)).drewN 1
 have x0:=(AM.new w1 127 [vs x.is,vs x.txt,.int .i64 x.pos])
 obtain⟨N,vd,p0,Mh⟩:=hA.decls
 have G8:=Wd x.txt gp r1.decls vd _ Mh hA.dl hA.pol.lt ((hA.pol.cell 0).trans p0)
 obtain⟨_,_,_,_,_,_,_,_,c8,_⟩:=Ny.cells
 have d1:=x0.cell 1
 simp at d1
 have OP:jX r1.decls x o1:=fun t st ho=>tS.out t st x r1 ho (hx t st ho) GG
 have HF:=Aa G8
 have HA:=Aa hA
 have HKA:=Aa oM
 have X0:=Aa x0
 have tM:=Aa Mh
 have HS:=Aa GG
 have HD:=Aa Gi
 have NC:=Aa OP
 have P0:=Aa p0
 clear G8 hA Ny oM x0 h1 Bi GG Gi Mh OP HN tS p0 hx
 unfold DB
 unfold vs at*
 go_wp2_with fail
 (refine DM 6 (by kernel_rfl) (by kernel_rfl) ?_;simp only[Aw,AO,Ax,AK];repeat still_step)
 refine Cf ?_
 go_wp2_with fail
 refine HF.out.mono ?_
 rintro e w2 ⟨rfl,Hy⟩
 have h2:=HA.out.kg (IX Hy) (Hy.block g HA.out.row.lt)
 have A4:=Kg.trans HKA.out (IX Hy)
 have x2:AM w2 w1.heap.size 127 [vs x.is,vs x.txt,.int .i64 x.pos]:=(Hy.block _ (by simp)).trans X0.out
 have d2:=x2.cell 2
 simp at d2
 obtain⟨_,_,_,_,_,_,_,_,_I,_⟩:=h2.cells
 have q0:=(h2.pol.cell 0).trans P0.out
 have sh:=tM.out.below_ Hy
 have n5:=Hk (e:=WA) h2 HS.out (by decide) x.pos
 have n6:=Hk (e:=SI) h2 HS.out (by decide) x.pos
 have N5:=Aa n5
 have N6:=Aa n6
 have SL2:=Aa sh
 have H2:=Aa h2
 have Ll:=Aa A4
 clear n5 n6 h2 A4 x2 Hy c8 d1 sh
 rcases UF r1.decls x.txt with hf|⟨i,d,hi,hf,hd⟩
 ·rw[hf]
  have o7:=Aa hf
  clear hf
  go_wp2_with fail
  refine N5.out.mono ?_
  rintro e w3 ⟨rfl,BY,r3,h3,Fo,Gx⟩
  have F:=Aa (And.intro BY (And.intro h3 (And.intro Fo Gx)))
  clear BY h3 Fo Gx
  go_wp2
  go_ret
  obtain⟨f1,f2,f3,f4⟩:=F.out
  obtain⟨a1,a2⟩:=pQ (b:=b) NC.out o7.out f3
  exact⟨0,rfl,Kg.trans Ll.out f1,a2,r3,f2,a1,f4.trans HD.out⟩
 ·obtain⟨ao,cap,rfl⟩:=SL2.out.any_
  obtain⟨gd,rfl,Ws,GH⟩:=SL2.out.get_ (fun _=>rfl) hi
  have y0:w2.cell? ⟨gd,i*3,none⟩=some (vs (En d.kind)):=GH 0 (by omega)
  have hil:i<r1.decls.length:=(Ap.1 hi).1
  rw[hf]
  have o7:=Aa hf
  have HI:=Aa hi
  have yk:=Aa hd
  have LW:=H2.out.dl
  clear GH hd hi hf Ws
  generalize hL:r1.decls.length=L at*
  have HL:=Aa hL
  clear hL
  by_cases h2:d.kind=2
  ·rw[Vp h2]at y0
   have hk:=Aa (show(d.kind==2)=true by simpa using h2)
   clear h2
   unfold vs at*
   cases b with
   |true=>
    go_wp2
    go_ret
    obtain⟨a1,a2⟩:=sn (b:=true) NC.out HI.out o7.out yk.out (by rw[hk.out];rfl) HS.out
    exact⟨i,rfl,Ll.out,a2,r1,H2.out,a1,HD.out⟩
   |false=>
    go_wp2_with fail
    refine N6.out.mono ?_
    rintro e w3 ⟨rfl,BY,r3,h3,Fo,Gx⟩
    have F:=Aa (And.intro BY (And.intro h3 (And.intro Fo Gx)))
    clear BY h3 Fo Gx
    go_wp2
    go_ret
    obtain⟨f1,f2,f3,f4⟩:=F.out
    obtain⟨a1,a2⟩:=eB (b:=false) NC.out HI.out o7.out yk.out (by rw[hk.out];rfl) f3
    exact⟨i,rfl,Kg.trans Ll.out f1,a2,r3,f2,a1,f4.trans HD.out⟩
  ·have e1:=W3 h2
   have e2:decide (En d.kind=IY)=false:=by simpa using e1
   have hk:=Aa (show(d.kind==2)=false by simpa using h2)
   clear h2
   unfold vs at*
   generalize En d.kind=W at*
   cases b with
   |false=>
    go_wp2
    go_ret
    obtain⟨a1,a2⟩:=sn (b:=false) NC.out HI.out o7.out yk.out (by rw[hk.out];rfl) HS.out
    exact⟨i,rfl,Ll.out,a2,r1,H2.out,a1,HD.out⟩
   |true=>
    go_wp2_with fail
    refine N6.out.mono ?_
    rintro e w3 ⟨rfl,BY,r3,h3,Fo,Gx⟩
    have F:=Aa (And.intro BY (And.intro h3 (And.intro Fo Gx)))
    clear BY h3 Fo Gx
    go_wp2
    go_ret
    obtain⟨f1,f2,f3,f4⟩:=F.out
    obtain⟨a1,a2⟩:=eB (b:=true) NC.out HI.out o7.out yk.out (by rw[hk.out];rfl) f3
    exact⟨i,rfl,Kg.trans Ll.out f1,a2,r3,f2,a1,f4.trans HD.out⟩
end
def jl (t:TypeId):Prop:=t≠124∧t≠122∧t≠130∧t≠127
instance (t:TypeId):Decidable (jl t):=by unfold jl;exact inferInstance
section
variable {w w':World} {g gp:Nat} {tl:Value} {ts:List CB} {pc:List Value} {r r':Ff}
theorem FQ.far_ (h:FQ w g gp tl ts pc r) {n:Nat} {t:TypeId} {cs:List Value} (hn:AM w n t cs) (ht:jl t) (i:Nat) (u:Value):FQ (w.setCell ⟨n,i,none⟩ u) g gp tl ts pc r:=by
 obtain⟨N,hs⟩:=h.toks
 exact h.far hn ⟨ht.1,ht.2.1,ht.2.2.1⟩ (hs.ne_row hn (fun e=>ht.2.2.2 e.symm)) i u
theorem FQ.put (h:FQ w g gp tl ts pc r) (i:Nat) (u:Value) {r':Ff} (he:(Ox tl gp r).set i u=Ox tl gp r') (hd:r'.decls=r.decls):FQ (w.setCell ⟨g,i,none⟩ u) g gp tl ts pc r':=
 h.turn ((Af.refl _ w).setCell (p:=⟨g,i,none⟩) (.inl rfl) u) (by have:=h.row.set_ i u;rw[he]at this;exact this) hd
end
structure RH (w0 w:World) (g gp:Nat) (tl:Value) (ts:List CB) (pc:List Value) (r:Ff) (ty:TypeId) (C:Nat) (cs:List Value):Prop where
 kg:Kg g w0 w
 rd:FQ w g gp tl ts pc r
 row:AM w C ty cs
 new:w0.heap.size≤C
 tyok:jl ty
structure Lu (w0 w:World) (g gp:Nat) (tl:Value) (ts:List CB) (pc:List Value) (r:Ff) (ty:TypeId) (C:Nat) (cs:List Value) (D:Nat) (ds:List Value):Prop extends RH w0 w g gp tl ts pc r ty C cs where
 row2:AM w D ty ds
 new2:w0.heap.size≤D
 ne:C≠D
section
variable {w0 w w':World} {g gp:Nat} {tl:Value} {ts:List CB} {pc:List Value} {r r':Ff} {ty:TypeId} {C D:Nat} {cs ds:List Value}
theorem RH.start (h:FQ w g gp tl ts pc r) (ht:jl ty) (cs:List Value):RH w (w.alloc (.cells cs.toArray ty)) g gp tl ts pc r ty w.heap.size cs:=
 ⟨(Af.refl _ w).alloc (.inr (Ab _)) _,h.alloc _,AM.new w ty cs,Ab _,ht⟩
theorem RH.call (h:RH w0 w g gp tl ts pc r ty C cs) (hk:Kg g w w') (hr:FQ w' g gp tl ts pc r'):RH w0 w' g gp tl ts pc r' ty C cs:=
 ⟨Kg.trans h.kg hk,hr,Eg hk h.row (h.row.ne_ h.rd.row h.tyok.1),h.new,h.tyok⟩
theorem RH.set_ (h:RH w0 w g gp tl ts pc r ty C cs) (i:Nat) (u:Value):RH w0 (w.setCell ⟨C,i,none⟩ u) g gp tl ts pc r ty C (cs.set i u):=
 ⟨h.kg.setCell (p:=⟨C,i,none⟩) (.inr h.new) u,h.rd.far_ h.row h.tyok i u,h.row.set_ i u,h.new,h.tyok⟩
theorem RH.alloc (h:RH w0 w g gp tl ts pc r ty C cs) (o:Obj):RH w0 (w.alloc o) g gp tl ts pc r ty C cs:=
 ⟨h.kg.alloc (.inr h.kg.size) o,h.rd.alloc o,h.row.alloc o,h.new,h.tyok⟩
theorem RH.drewN (h:RH w0 w g gp tl ts pc r ty C cs) (n:Nat):RH w0 (w.drewN n) g gp tl ts pc r ty C cs:=⟨h.kg.drewN n,h.rd.drewN n,h.row.drewN n,h.new,h.tyok⟩
theorem Lu.start (h:RH w0 w g gp tl ts pc r ty C cs) (ds:List Value):Lu w0 (w.alloc (.cells ds.toArray ty)) g gp tl ts pc r ty C cs w.heap.size ds:=
 ⟨h.alloc _,AM.new w ty ds,h.kg.size,by have:=h.row.lt;omega⟩
theorem Lu.call (h:Lu w0 w g gp tl ts pc r ty C cs D ds) (hk:Kg g w w') (hr:FQ w' g gp tl ts pc r'):Lu w0 w' g gp tl ts pc r' ty C cs D ds:=
 ⟨h.toRH.call hk hr,Eg hk h.row2 (h.row2.ne_ h.rd.row h.tyok.1),h.new2,h.ne⟩
theorem Lu.set_ (h:Lu w0 w g gp tl ts pc r ty C cs D ds) (i:Nat) (u:Value):Lu w0 (w.setCell ⟨C,i,none⟩ u) g gp tl ts pc r ty C (cs.set i u) D ds:=
 ⟨h.toRH.set_ i u,h.row2.far (fun e=>h.ne e.symm) u,h.new2,h.ne⟩
theorem Lu.set2 (h:Lu w0 w g gp tl ts pc r ty C cs D ds) (i:Nat) (u:Value):Lu w0 (w.setCell ⟨D,i,none⟩ u) g gp tl ts pc r ty C cs D (ds.set i u):=
 ⟨⟨h.kg.setCell (p:=⟨D,i,none⟩) (.inr h.new2) u,h.rd.far_ h.row2 h.tyok i u,h.row.far h.ne u,h.new,h.tyok⟩,h.row2.set_ i u,h.new2,h.ne⟩
theorem Lu.alloc (h:Lu w0 w g gp tl ts pc r ty C cs D ds) (o:Obj):Lu w0 (w.alloc o) g gp tl ts pc r ty C cs D ds:=⟨h.toRH.alloc o,h.row2.alloc o,h.new2,h.ne⟩
theorem Lu.drewN (h:Lu w0 w g gp tl ts pc r ty C cs D ds) (n:Nat):Lu w0 (w.drewN n) g gp tl ts pc r ty C cs D ds:=⟨h.toRH.drewN n,h.row2.drewN n,h.new2,h.ne⟩
theorem Lu.put (h:Lu w0 w g gp tl ts pc r ty C cs D ds) (i:Nat) (u:Value) {r':Ff} (he:(Ox tl gp r).set i u=Ox tl gp r') (hd:r'.decls=r.decls):Lu w0 (w.setCell ⟨g,i,none⟩ u) g gp tl ts pc r' ty C cs D ds:=
 h.call ((Af.refl _ w).setCell (p:=⟨g,i,none⟩) (.inl rfl) u) (h.rd.put i u he hd)
end
def Afi (w:World) (g gp:Nat) (tl:Value) (ts:List CB) (pc:List Value) (s:Ae) (ds:List Bf) (o:AJ O0) (e:Ending) (w':World):Prop:=
 ∃(k:Ae) (n:Int),e= .returned (.agg #[vs k,.int .i64 n])∧Kg g w w'∧(∀v st,o= .ok v st→st.wrong=none→[vs k,.int .i64 n]=JL v)∧∃r',FQ w' g gp tl ts pc r'∧Bs s r' o∧r'.decls=ds
def Pq {α:Type} (s:Ae) (o:AJ α):AJ O0:=o.bind fun _ st=>value s st
theorem IT {α β:Type} {f:α→β} {o:AJ α} {b:β} {st:PS} (h:o.map f= .ok b st):∃a,o= .ok a st∧f a=b:=MS h
theorem Bs.map {α β:Type} {s:Ae} {r:Ff} {o:AJ α} (h:Bs s r o) (f:α→β):Bs s r (o.map f):=by
 cases o with
 |bad e p=>exact h
 |ok a st=>exact h
section
variable {α:Type} {s:Ae} {o:AJ α}
theorem kp (h:o.isB Bc=true):Pq s o=(GY s 0 999 o).map .num:=by
 obtain⟨a,st,rfl,hk⟩:=AJ.isB_ok h
 show value s st=_
 unfold value
 rw[Ak hk]
 rfl
theorem ku (h0:o.isB Bc=false) (h:o.isB G2=true):Pq s o=(No s false (DR s G2 o)).map .len:=by
 obtain⟨a,st,rfl,hk,ht⟩:=Gu (s:=s) h
 rw[ht]
 show value s st=_
 unfold value
 rw[Ad (by rw[hk];decide),Ak hk]
 rfl
theorem fK (h0:o.isB Bc=false) (h1:o.isB G2=false) (h:o.isB BX=true):Pq s o=(DR s BX o).map fun _=>.freq:=by
 obtain⟨a,st,rfl,hk,ht⟩:=Gu (s:=s) h
 rw[ht]
 show value s st=_
 unfold value
 rw[Ad (by rw[hk];decide),Ad (by rw[hk];decide),Ak hk]
 rfl
theorem ko (h0:o.isB Bc=false) (h1:o.isB G2=false) (h2:o.isB BX=false):Pq s o=(No s true o).map .var:=by
 cases o with
 |bad e p=>rfl
 |ok a st=>
  have k0:¬st.t.kind=Bc:=by simpa[AJ.isB]using h0
  have k1:¬st.t.kind=G2:=by simpa[AJ.isB]using h1
  have k2:¬st.t.kind=BX:=by simpa[AJ.isB]using h2
  show value s st=_
  unfold value
  rw[Ad k0,Ad k1,Ad k2]
  rfl
theorem KV {k:Ae}:(o.bind fun _ st=>AJ.ok () st).isB k=o.isB k:=by cases o<;>rfl
theorem aS {k:Ae}:DR s k (o.bind fun _ st=>AJ.ok () st)=DR s k o:=by cases o<;>rfl
theorem Y1 {b:Bool}:No s b (o.bind fun _ st=>AJ.ok () st)=No s b o:=by cases o<;>rfl
end
theorem Qa (w:World):(Go.sizeOf 208).run Tryz.prog w= .ok 2 w:=by kernel_rfl
theorem To (w:World):(isAgg 208).run Tryz.prog w= .ok true w:=by kernel_rfl
section
variable {w:World} {g gp:Nat} {tl:Value} {ts:List CB} {pc:List Value} {r:Ff} {s:Ae} {α:Type} {o:AJ α}
theorem TV (h:FQ w g gp tl ts pc r) (hs:Bs s r o) (ht:DD ts (toks s)):Calls Tryz.prog 156 #[.pointer (some ⟨g,0,none⟩)] w (Afi w g gp tl ts pc s r.decls (Pq s o)):=by
 have q0:=RH.start (ty:=208) h (by decide) [vs [],.int .i64 0]
 have SE:=JG q0.rd hs ht (kd:=Bc) (kr:=J1) (by decide) (by decide)
 have Q0:=Aa q0
 have HT:=Aa ht
 have HS:=Aa hs
 cases b0:o.isB Bc with
 |true=>
  rw[b0]at SE
  have HI:=Aa SE
  have B0:=Aa b0
  clear q0 h SE ht hs b0
  unfold vs at*
  go_enter Tryz.func156,Tryz.ntmps156
  go_wp2_with fail
  refine HI.out.mono ?_
  rintro e w1 ⟨rfl,n,rfl⟩
  have q1:=Q0.out.drewN n
  have hn:=JR q1.rd HS.out HT.out 0 999
  have Q1:=Aa q1
  have HN:=Aa hn
  clear q1 hn
  go_wp2_with fail
  refine HN.out.mono ?_
  rintro e w2 ⟨v,rfl,A4,hv,r2,h2,Cp,Fp⟩
  have q2:=Q1.out.call A4 h2
  have q3:=(q2.set_ 0 (vs ll)).set_ 1 (.int .i64 v)
  have z:=fun j=>q2.row.frozen j
  have d0:=q2.row.cell 0
  have d1:=q2.row.cell 1
  have Q3:=Aa q3
  have F:=Aa (And.intro hv (And.intro Cp Fp))
  clear q2 q3 A4 h2 hv Cp Fp
  simp at d0 d1
  unfold vs at*
  go_wp2
  refine Av (AG (cs:=[vs ll,.int .i64 v]) Tq To Qa rfl Q3.out.row) rfl ?_
  obtain⟨f1,f2,f3⟩:=F.out
  rw[kp B0.out]
  refine⟨ll,v,rfl,Q3.out.kg,fun x st e _=>?_,r2,Q3.out.rd,f2.map _,f3⟩
  obtain⟨a,e1,rfl⟩:=IT e
  rw[f1 a st e1]
  rfl
 |false=>
  rw[b0]at SE
  have HI:=Aa SE
  have B0:=Aa b0
  clear q0 h SE ht hs b0
  unfold vs at*
  go_enter Tryz.func156,Tryz.ntmps156
  go_wp2_with fail
  refine HI.out.mono ?_
  rintro e w1 ⟨rfl,n,rfl⟩
  have q1:=Q0.out.drewN n
  have GM:=FI q1.rd HS.out HT.out (kd:=G2) (kr:=G2) (by decide) (by decide) (by decide) (by decide)
  have Q1:=Aa q1
  cases b1:o.isB G2 with
  |true=>
   rw[b1]at GM
   have MG:=Aa GM
   have B1:=Aa b1
   clear q1 GM b1
   unfold vs at*
   go_wp2_with fail
   refine MG.out.mono ?_
   rintro e w2 ⟨rfl,A4,r2,h2,Cp,Fp⟩
   have q2:=Q1.out.call A4 h2
   have hn:=D5 q2.rd Cp HT.out false
   rw[Fp]at hn
   have Q2:=Aa q2
   have HN:=Aa hn
   clear q2 hn A4 h2 Cp Fp
   go_wp2_with fail
   refine HN.out.mono ?_
   rintro e w3 ⟨v,rfl,BY,hv,r3,h3,Fo,Gx⟩
   have q3:=Q2.out.call BY h3
   have q4:=(q3.set_ 0 (vs G2)).set_ 1 (.int .i64 v)
   have z:=fun j=>q3.row.frozen j
   have d0:=q3.row.cell 0
   have d1:=q3.row.cell 1
   have Q4:=Aa q4
   have F:=Aa (And.intro hv (And.intro Fo Gx))
   clear q3 q4 BY h3 hv Fo Gx
   simp at d0 d1
   unfold vs at*
   go_wp2
   refine Av (AG (cs:=[vs G2,.int .i64 v]) Tq To Qa rfl Q4.out.row) rfl ?_
   obtain⟨f1,f2,f3⟩:=F.out
   rw[ku B0.out B1.out]
   refine⟨G2,v,rfl,Q4.out.kg,fun x st e hw=>?_,r3,Q4.out.rd,f2.map _,f3⟩
   obtain⟨a,e1,rfl⟩:=IT e
   rw[f1 a st e1 hw]
   rfl
  |false=>
   rw[b1,Gp b1]at GM
   have MG:=Aa GM
   have B1:=Aa b1
   clear q1 GM b1
   unfold vs at*
   go_wp2_with fail
   refine MG.out.mono ?_
   rintro e w2 ⟨rfl,A4,r2,h2,Cp,Fp⟩
   have q2:=Q1.out.call A4 h2
   have GM:=FI q2.rd Cp HT.out (kd:=BX) (kr:=BX) (by decide) (by decide) (by decide) (by decide)
   rw[KV,aS,Fp]at GM
   have Q2:=Aa q2
   have SL:=Aa Cp
   have XN:=Aa Fp
   clear A4 h2 Cp Fp
   cases b2:o.isB BX with
   |true=>
    rw[b2]at GM
    have wM:=Aa GM
    have B2:=Aa b2
    clear q2 GM b2
    unfold vs at*
    go_wp2_with fail
    refine wM.out.mono ?_
    rintro e w3 ⟨rfl,BY,r3,h3,Fo,Gx⟩
    have q3:=Q2.out.call BY h3
    have q4:=(q3.set_ 0 (vs BX)).set_ 1 (.int .i64 0)
    have z:=fun j=>q3.row.frozen j
    have d0:=q3.row.cell 0
    have d1:=q3.row.cell 1
    have Q4:=Aa q4
    have F:=Aa (And.intro Fo Gx)
    clear q3 q4 BY h3 Fo Gx
    simp at d0 d1
    unfold vs at*
    go_wp2
    refine Av (AG (cs:=[vs BX,.int .i64 0]) Tq To Qa rfl Q4.out.row) rfl ?_
    obtain⟨f2,f3⟩:=F.out
    rw[fK B0.out B1.out B2.out]
    refine⟨BX,0,rfl,Q4.out.kg,fun x st e hw=>?_,r3,Q4.out.rd,f2.map _,f3⟩
    obtain⟨a,e1,rfl⟩:=IT e
    rfl
   |false=>
    rw[b2,Gp b2]at GM
    have wM:=Aa GM
    have B2:=Aa b2
    clear q2 GM b2
    unfold vs at*
    go_wp2_with fail
    refine wM.out.mono ?_
    rintro e w3 ⟨rfl,BY,r3,h3,Fo,Gx⟩
    have q3:=Q2.out.call BY h3
    have hn:=D5 q3.rd Fo HT.out true
    rw[Gx,Y1]at hn
    have Q3:=Aa q3
    have HN:=Aa hn
    clear q3 hn BY h3 Fo Gx
    go_wp2_with fail
    refine HN.out.mono ?_
    rintro e w4 ⟨v,rfl,CU,hv,r4,h4,J5,Fz⟩
    have q4:=Q3.out.call CU h4
    have q5:=(q4.set_ 0 (vs IY)).set_ 1 (.int .i64 v)
    have z:=fun j=>q4.row.frozen j
    have d0:=q4.row.cell 0
    have d1:=q4.row.cell 1
    have Q5:=Aa q5
    have F:=Aa (And.intro hv (And.intro J5 Fz))
    clear q4 q5 CU h4 hv J5 Fz
    simp at d0 d1
    unfold vs at*
    go_wp2
    refine Av (AG (cs:=[vs IY,.int .i64 v]) Tq To Qa rfl Q5.out.row) rfl ?_
    obtain⟨f1,f2,f3⟩:=F.out
    rw[ko B0.out B1.out B2.out]
    refine⟨IY,v,rfl,Q5.out.kg,fun x st e hw=>?_,r4,Q5.out.rd,f2.map _,f3⟩
    obtain⟨a,e1,rfl⟩:=IT e
    rw[f1 a st e1 hw]
    rfl
end
def zW13 (w:World) (g gp:Nat) (tl:Value) (ts:List CB) (pc:List Value) (s:Ae) (ds:List Bf) (o:AJ Da) (e:Ending) (w':World):Prop:=
 ∃(k:Ae) (n:Int) (k1:Ae) (n1:Int) (k2:Ae) (n2 j:Int),e= .returned (.agg #[vs k,.int .i64 n,vs k1,.int .i64 n1,vs k2,.int .i64 n2,.int .i64 j])∧Kg g w w'∧
  (∀c st,o= .ok c st→st.wrong=none→[vs k,.int .i64 n,vs k1,.int .i64 n1,vs k2,.int .i64 n2,.int .i64 j]=EU c)∧∃r',FQ w' g gp tl ts pc r'∧Bs s r' o∧r'.decls=ds
def C6 {α:Type} (s:Ae) (o:AJ α):Nat:=match o with
 | .ok _ st=>left s st
 | .bad _ _=>0
def Cx {α:Type} (s:Ae) (n:Nat) (o:AJ α):AJ Da:=o.bind fun _ st=>cond s n st
def nots (j:Nat) (c:Da):Da:=⟨c.k,c.nots+j⟩
def Zb (s:Ae) {α:Type} (o:AJ α):AJ Da:=(Pq s o).bind fun a st=>(want s Eu st).bind fun _ st=>(value s st).map fun b=>⟨.less a b,0⟩
def SK (s:Ae) {α:Type} (o:AJ α):AJ Da:=o.bind fun _ st=>Eh s st
section
variable {α:Type} {s:Ae} {o:AJ α}
theorem lL (s:Ae) (st:PS):left s st≤s.length+1:=by unfold left;omega
theorem Uk (o:AJ α):C6 s o≤s.length+1:=by
 cases o with
 |ok a st=>exact lL s st
 |bad e p=>exact Bn _
theorem iW {n:Nat} (h:o.isB H6=true):Cx s (n+1) o=(Cx s n (DR s H6 o)).map (nots 1):=by
 obtain⟨a,st,rfl,hk,ht⟩:=Gu (s:=s) h
 rw[ht]
 show cond s (n+1) st=_
 rw[cond,Ak hk]
 rfl
theorem lK {r:Ff} (hs:Bs s r o) (h:o.isB H6=true):C6 s (DR s H6 o)<C6 s o:=by
 obtain⟨a,st,rfl,hk,ht⟩:=Gu (s:=s) h
 rw[ht]
 exact DY (AB.ok hs) hk (by decide) (by decide)
theorem lD (o:AJ Da) (j:Nat):(o.map (nots 1)).map (nots j)=o.map (nots (j+1)):=by
 cases o with
 |bad e p=>rfl
 |ok c st=>
  show AJ.ok (nots j (nots 1 c)) st=AJ.ok (nots (j+1) c) st
  unfold nots
  simp only[E3,FC 1 j]
theorem hZ (o:AJ Da):o.map (nots 0)=o:=by
 cases o<;>rfl
theorem cJ {n:Nat} (h:o.isB H6=false):Cx s (n+1) o=SK s (o.bind fun _ st=>AJ.ok () st):=by
 cases o with
 |bad e p=>rfl
 |ok a st=>
  have hk:¬st.t.kind=H6:=by simpa[AJ.isB]using h
  show cond s (n+1) st=_
  rw[cond,Ad hk]
  rfl
theorem cU (h:o.isB DT=true):SK s o=(No s false (DR s DT o)).map fun n=>⟨.full n,0⟩:=by
 obtain⟨a,st,rfl,hk,ht⟩:=Gu (s:=s) h
 rw[ht]
 show Eh s st=_
 unfold Eh
 rw[Ak hk]
 rfl
theorem ZX (h:o.isB CF=true):SK s o=(No s false (DR s CF o)).map fun n=>⟨.empty n,0⟩:=by
 obtain⟨a,st,rfl,hk,ht⟩:=Gu (s:=s) h
 rw[ht]
 show Eh s st=_
 unfold Eh
 rw[Ad (by rw[hk];decide),Ak hk]
 rfl
theorem cR (h:o.isB DS=true):SK s o=(No s false (DR s DS o)).map fun n=>⟨.warm n,0⟩:=by
 obtain⟨a,st,rfl,hk,ht⟩:=Gu (s:=s) h
 rw[ht]
 show Eh s st=_
 unfold Eh
 rw[Ad (by rw[hk];decide),Ad (by rw[hk];decide),Ak hk]
 rfl
theorem cS (h1:o.isB DT=false) (h2:o.isB CF=false) (h3:o.isB DS=false):SK s o=Zb s o:=by
 cases o with
 |bad e p=>rfl
 |ok a st=>
  have k0:¬st.t.kind=DT:=by simpa[AJ.isB]using h1
  have k1:¬st.t.kind=CF:=by simpa[AJ.isB]using h2
  have k2:¬st.t.kind=DS:=by simpa[AJ.isB]using h3
  show Eh s st=_
  unfold Eh
  rw[Ad k0,Ad k1,Ad k2]
  rfl
theorem ii {r:Ff} (h:Bs s r (Pq s (BC s Eu (Pq s o)))):Bs s r (Zb s o):=by
 unfold Zb
 cases h1:Pq s o with
 |bad e p=>rw[h1]at h;exact h
 |ok a st1=>
  rw[h1]at h
  show Bs s r ((want s Eu st1).bind _)
  have e:BC s Eu (AJ.ok a st1)=want s Eu st1:=rfl
  rw[e]at h
  cases h2:want s Eu st1 with
  |bad e p=>rw[h2]at h;exact h
  |ok t AP=>
   rw[h2]at h
   exact Bs.map (show Bs s r (value s AP)from h) _
theorem pZ {c:Da} {st:PS} (h:Zb s o= .ok c st):∃a st1 t AP b,Pq s o= .ok a st1∧BC s Eu (Pq s o)= .ok t AP∧Pq s (BC s Eu (Pq s o))= .ok b st∧c=⟨.less a b,0⟩:=by
 unfold Zb at h
 obtain⟨a,st1,h1,h2⟩:=AA h
 obtain⟨t,AP,h3,h4⟩:=AA h2
 obtain⟨b,h5,h6⟩:=MS h4
 have e:BC s Eu (Pq s o)= .ok t AP:=by rw[h1];exact h3
 exact⟨a,st1,t,AP,b,h1,e,by rw[e];exact h5,h6.symm⟩
theorem fJ {o2:AJ α} {b:O0} {st:PS} {a:α} {AP:PS} {r:Ff} (hs:Bs s r o2) (h2:o2= .ok a AP) (h:Pq s o2= .ok b st) (hw:st.wrong=none):AP.wrong=none:=by
 subst h2
 exact(PZ (AB.ok hs) h).1.wrong hw
theorem TB {k:Ae} {o1:AJ α} {a:α} {st1 AP:PS} {t:Mc} (h1:o1= .ok a st1) (h:BC s k o1= .ok t AP) (hw:AP.wrong=none):st1.wrong=none:=by
 subst h1
 obtain⟨_,_,rfl⟩:=Bw (show want s k st1= .ok t AP from h)
 exact hw
end
theorem Ow (w:World):(Go.sizeOf 210).run Tryz.prog w= .ok 7 w:=by kernel_rfl
theorem Rc (w:World):(isAgg 210).run Tryz.prog w= .ok true w:=by kernel_rfl
theorem Oi {w:World} {C:Nat} {t:TypeId} {d0 d1 d2 d3 d4 d5 d6:Value} (h:AM w C t [d0,d1,d2,d3,d4,d5,d6]):
  w.cell? ⟨C,0,none⟩=some d0∧w.cell? ⟨C,1,none⟩=some d1∧w.cell? ⟨C,2,none⟩=some d2∧w.cell? ⟨C,3,none⟩=some d3∧w.cell? ⟨C,4,none⟩=some d4∧w.cell? ⟨C,5,none⟩=some d5∧w.cell? ⟨C,6,none⟩=some d6:=
 ⟨h.cell 0,h.cell 1,h.cell 2,h.cell 3,h.cell 4,h.cell 5,h.cell 6⟩
abbrev ND:List Value:=[vs [],.int .i64 0,vs [],.int .i64 0,vs [],.int .i64 0,.int .i64 0]
section
variable {w w0:World} {g gp:Nat} {tl:Value} {ts:List CB} {pc:List Value} {r:Ff} {s:Ae} {α:Type} {o:AJ α} {C D:Nat} {ty:TypeId} {ds:List Value}
theorem Lu.copy7 (h:Lu w0 w g gp tl ts pc r ty C ND D ds) (d0 d1 d2 d3 d4 d5 d6:Value):
  Lu w0 (((((((w.setCell ⟨C,0,none⟩ d0).setCell ⟨C,1,none⟩ d1).setCell ⟨C,2,none⟩ d2).setCell ⟨C,3,none⟩ d3).setCell ⟨C,4,none⟩ d4).setCell ⟨C,5,none⟩ d5).setCell ⟨C,6,none⟩ d6) g gp tl ts pc r ty C [d0,d1,d2,d3,d4,d5,d6] D ds:=
 ((((((h.set_ 0 d0).set_ 1 d1).set_ 2 d2).set_ 3 d3).set_ 4 d4).set_ 5 d5).set_ 6 d6
def Rd (w:World) (E:Nat):Prop:=AM w E 9 [vs DT,vs CF,vs DS]
theorem Rd.kg {w':World} {E:Nat} (h:Rd w E) (hk:Kg g w w') (hr:AM w g 124 ds):Rd w' E:=Eg hk h (h.ne_ hr (by decide))
theorem Wf (h:FQ w g gp tl ts pc r) (hs:Bs s r o) (ht:DD ts (toks s)) (hl:s.length≤1000) {n:Nat} (hn:C6 s o<n):Calls Tryz.prog 142 #[.pointer (some ⟨g,0,none⟩)] w (zW13 w g gp tl ts pc s r.decls (Cx s n o)):=by
 have q0:=Lu.start (RH.start (ty:=210) h (by decide) ND) ND
 have HT:=Aa ht
 have xG:=Uk (s:=s) o
 have NX:∃(j m:Nat) (o1:AJ Unit) (r1:Ff),Lu w ((w.alloc (.cells ND.toArray 210)).alloc (.cells ND.toArray 210)) g gp tl ts pc r1 210 w.heap.size ND (w.heap.size+1) [vs [],.int .i64 0,vs [],.int .i64 0,vs [],.int .i64 0,.int .i64 (j:Int)]∧Bs s r1 o1∧r1.decls=r.decls∧Cx s n o=(Cx s m o1).map (nots j)∧C6 s o1<m∧C6 s o1≤C6 s o∧j+C6 s o1≤C6 s o:=by
  refine⟨0,n,o.bind fun _ st=>.ok () st,r,?_,hs.unit,rfl,?_,?_,?_,?_⟩
  ·simpa using q0
  ·rw[hZ];cases o<;>rfl
  ·cases o<;>exact hn
  ·cases o<;>exact Ab _
  ·cases o<;>simp[C6,AJ.bind]
 have Vh:=Aa NX
 clear q0 h hs ht NX hn
 unfold vs at*
 go_enter Tryz.func142,Tryz.ntmps142
 go_wp2_with fail
 go_loopg [] (C6 s o) (fun kk wr=>∃(j m:Nat) (o1:AJ Unit) (r1:Ff),Lu w wr g gp tl ts pc r1 210 w.heap.size ND (w.heap.size+1) [vs [],.int .i64 0,vs [],.int .i64 0,vs [],.int .i64 0,.int .i64 (j:Int)]∧Bs s r1 o1∧r1.decls=r.decls∧Cx s n o=(Cx s m o1).map (nots j)∧C6 s o1<m∧C6 s o1≤kk∧j+C6 s o1≤C6 s o)
 case atStart=>exact Vh.out
 case round=>
  obtain⟨j,m,o1,r1,hR,GG,Gi,heq,hm,Jj,hj⟩:=hrel
  have GM:=FI hR.rd GG HT.out (kd:=H6) (kr:=H6) (by decide) (by decide) (by decide) (by decide)
  have HR:=Aa hR
  have oV:=Aa GG
  have aH:=Aa Gi
  have dN:=Aa heq
  obtain⟨m,rfl⟩:∃x,m=x+1:=⟨m-1,by omega⟩
  cases b0:o1.isB H6 with
  |true=>
   rw[b0]at GM
   have Cy:=lK GG b0
   have MG:=Aa GM
   have B0:=Aa b0
   clear GM b0 hR GG Gi heq
   unfold vs at*
   go_wp2_with fail
   refine MG.out.mono ?_
   rintro e w2 ⟨rfl,A4,r2,h2,Cp,Fp⟩
   have q2:=HR.out.call A4 h2
   have q3:=q2.set2 6 (.int .i64 ((j:Int)+1))
   have z:=fun j=>q2.row2.frozen j
   have d6:=q2.row2.cell 6
   have Q3:=Aa q3
   have F:=Aa (And.intro Cp Fp)
   clear q2 q3 A4 h2 Cp Fp
   simp at d6
   go_wp2
   go_roundg (C6 s (DR s H6 o1))
   case measure=>omega
   case rel=>
    obtain⟨f1,f2⟩:=F.out
    refine⟨j+1,m,_,r2,?_,f1,f2.trans aH.out,?_,by omega,Ab _,by omega⟩
    ·exact Q3.out
    ·rw[dN.out,iW B0.out,lD]
  |false=>
   rw[b0,Gp b0]at GM
   have MG:=Aa GM
   have B0:=Aa b0
   clear GM b0 hR GG Gi heq hm Jj
   unfold vs at*
   go_wp2_with fail
   refine MG.out.mono ?_
   rintro e w2 ⟨rfl,A4,r2,h2,Cp,Fp⟩
   have q2:=HR.out.call A4 h2
   have Q2:=Aa (q2.alloc (.cells #[vs DT,vs CF,vs DS] 9))
   have hwd:Rd (w2.alloc (.cells #[vs DT,vs CF,vs DS] 9)) w2.heap.size:=AM.new w2 9 [vs DT,vs CF,vs DS]
   have _j:Cx s n o=(SK s (o1.bind fun _ st=>AJ.ok () st)).map (nots j):=by rw[dN.out,cJ B0.out]
   have aw:=Aa _j
   have HWD:=Aa hwd
   have SL:=Aa Cp
   have XN:=Aa (Fp.trans aH.out)
   clear q2 A4 h2 Cp Fp _j hwd dN oV aH MG HR Vh B0
   generalize (o1.bind fun _ st=>AJ.ok () st)=o2 at*
   go_wp2
   generalize w2.heap.size=E at*
   go_loopg [15] 3 (fun kk s15 wr=>∃(k:Nat) (o3:AJ Unit) (r3:Ff),k≤3∧3-k≤kk∧s15= .int .i64 k∧Lu w wr g gp tl ts pc r3 210 w.heap.size ND (w.heap.size+1) [vs [],.int .i64 0,vs [],.int .i64 0,vs [],.int .i64 0,.int .i64 (j:Int)]∧Rd wr E∧Bs s r3 o3∧r3.decls=r.decls∧SK s o2=SK s o3∧
    (0<k→o3.isB DT=false)∧(1<k→o3.isB CF=false)∧(2<k→o3.isB DS=false))
   case atStart=>exact⟨0,o2,r2,by omega,by omega,rfl,Q2.out,HWD.out,SL.out,XN.out,rfl,by omega,by omega,by omega⟩
   case round=>
    clear Q2 HWD SL XN hj
    obtain⟨k,o3,r3,BY,Jj,rfl,hR,hW,Fo,Gx,heq,i0,i1,i2⟩:=hrel
    have y0:=hW.cell 0
    have y1:=hW.cell 1
    have y2:=hW.cell 2
    have hWl:=hW.lt
    have HR:=Aa hR
    have HW:=Aa hW
    have fh:=Aa Fo
    have XM:=Aa Gx
    have dN:=Aa heq
    clear Fo Gx heq hW
    simp at y0 y1 y2
    have aE:k=0∨k=1∨k=2∨k=3:=by omega
    clear BY
    rcases aE with rfl|rfl|rfl|rfl
    ·have GM:=FI hR.rd fh.out HT.out (kd:=DT) (kr:=DT) (by decide) (by decide) (by decide) (by decide)
     clear i0 i1 i2
     clear hR
     cases b1:o3.isB DT with
     |true=>
      rw[b1]at GM
      have MG:=Aa GM
      have B1:=Aa b1
      clear GM b1
      unfold vs at*
      go_wp2_with fail
      refine MG.out.mono ?_
      rintro e w4 ⟨rfl,CU,r4,h4,J5,Fz⟩
      have q4:=HR.out.call CU h4
      have q5:=q4.set2 0 (vs DT)
      have z:=fun j=>q4.row2.frozen j
      have d0:=q4.row2.cell 0
      have OP:=D5 q5.rd J5 HT.out false
      rw[Fz]at OP
      have Q5:=Aa q5
      have NC:=Aa OP
      clear q4 q5 CU h4 J5 Fz OP y0 y1 y2
      simp at d0
      unfold vs at*
      go_wp2_with fail
      clear z d0
      refine NC.out.mono ?_
      rintro e w5 ⟨v,rfl,He,hv,r5,h5,Mi,Rm⟩
      have q6:=Q5.out.call He h5
      obtain⟨e0,e1,e2,e3,e4,e5,e6⟩:=Oi q6.row2
      obtain⟨c0,c1,c2,c3,c4,c5,c6⟩:=Oi q6.row
      have z:=fun j=>q6.row2.frozen j
      have y:=fun j=>q6.row.frozen j
      have Cu:¬w.heap.size=w.heap.size+1:=by omega
      have q7:=(q6.set2 1 (.int .i64 v)).copy7 (vs DT) (.int .i64 v) (vs []) (.int .i64 0) (vs []) (.int .i64 0) (.int .i64 j)
      have Q7:=Aa q7
      have F:=Aa (And.intro hv (And.intro Mi Rm))
      clear q6 q7 He h5 hv Mi Rm
      unfold vs at*
      go_wp2
      refine Av (AG (cs:=[vs DT,.int .i64 v,vs [],.int .i64 0,vs [],.int .i64 0,.int .i64 j]) Tr Rc Ow rfl Q7.out.row) rfl ?_
      obtain⟨f1,f2,f3⟩:=F.out
      rw[aw.out,dN.out,cU B1.out]
      refine⟨DT,v,[],0,[],0,j,rfl,Q7.out.kg,fun c st e hw=>?_,r5,Q7.out.rd,(f2.map _).map _,f3.trans XM.out⟩
      obtain⟨c1,e1,rfl⟩:=IT e
      obtain⟨a,e2,rfl⟩:=IT e1
      rw[f1 a st e2 hw]
      simp[nots,EU,DN,BT,JH]
     |false=>
      rw[b1,Gp b1]at GM
      have MG:=Aa GM
      have B1:=Aa b1
      clear GM b1
      unfold vs at*
      go_wp2_with fail
      refine MG.out.mono ?_
      rintro e w4 ⟨rfl,CU,r4,h4,J5,Fz⟩
      have q4:=HR.out.call CU h4
      have rZ:=HW.out.kg CU HR.out.rd.row
      have Q4:=Aa q4
      have W4:=Aa rZ
      have F:=Aa (And.intro J5 Fz)
      clear q4 CU h4 J5 Fz rZ y0 y1 y2
      go_wp2
      go_roundg 2
      case measure=>omega
      case rel=>
       obtain⟨f1,f2⟩:=F.out
       refine⟨1,_,r4,by omega,by omega,rfl,Q4.out,W4.out,f1,f2.trans XM.out,?_,fun _=>(KV (o:=o3)).trans B1.out,by omega,by omega⟩
       rw[dN.out]
       cases o3<;>rfl
    ·have GM:=FI hR.rd fh.out HT.out (kd:=CF) (kr:=CF) (by decide) (by decide) (by decide) (by decide)
     have I0:=Aa (i0 (by omega))
     clear i0 i1 i2
     clear hR
     cases b1:o3.isB CF with
     |true=>
      rw[b1]at GM
      have MG:=Aa GM
      have B1:=Aa b1
      clear GM b1
      unfold vs at*
      go_wp2_with fail
      refine MG.out.mono ?_
      rintro e w4 ⟨rfl,CU,r4,h4,J5,Fz⟩
      have q4:=HR.out.call CU h4
      have q5:=q4.set2 0 (vs CF)
      have z:=fun j=>q4.row2.frozen j
      have d0:=q4.row2.cell 0
      have OP:=D5 q5.rd J5 HT.out false
      rw[Fz]at OP
      have Q5:=Aa q5
      have NC:=Aa OP
      clear q4 q5 CU h4 J5 Fz OP y0 y1 y2
      simp at d0
      unfold vs at*
      go_wp2_with fail
      clear z d0
      refine NC.out.mono ?_
      rintro e w5 ⟨v,rfl,He,hv,r5,h5,Mi,Rm⟩
      have q6:=Q5.out.call He h5
      obtain⟨e0,e1,e2,e3,e4,e5,e6⟩:=Oi q6.row2
      obtain⟨c0,c1,c2,c3,c4,c5,c6⟩:=Oi q6.row
      have z:=fun j=>q6.row2.frozen j
      have y:=fun j=>q6.row.frozen j
      have Cu:¬w.heap.size=w.heap.size+1:=by omega
      have q7:=(q6.set2 1 (.int .i64 v)).copy7 (vs CF) (.int .i64 v) (vs []) (.int .i64 0) (vs []) (.int .i64 0) (.int .i64 j)
      have Q7:=Aa q7
      have F:=Aa (And.intro hv (And.intro Mi Rm))
      clear q6 q7 He h5 hv Mi Rm
      unfold vs at*
      go_wp2
      refine Av (AG (cs:=[vs CF,.int .i64 v,vs [],.int .i64 0,vs [],.int .i64 0,.int .i64 j]) Tr Rc Ow rfl Q7.out.row) rfl ?_
      obtain⟨f1,f2,f3⟩:=F.out
      rw[aw.out,dN.out,ZX B1.out]
      refine⟨CF,v,[],0,[],0,j,rfl,Q7.out.kg,fun c st e hw=>?_,r5,Q7.out.rd,(f2.map _).map _,f3.trans XM.out⟩
      obtain⟨c1,e1,rfl⟩:=IT e
      obtain⟨a,e2,rfl⟩:=IT e1
      rw[f1 a st e2 hw]
      simp[nots,EU,DN,BT,JH]
     |false=>
      rw[b1,Gp b1]at GM
      have MG:=Aa GM
      have B1:=Aa b1
      clear GM b1
      unfold vs at*
      go_wp2_with fail
      refine MG.out.mono ?_
      rintro e w4 ⟨rfl,CU,r4,h4,J5,Fz⟩
      have q4:=HR.out.call CU h4
      have rZ:=HW.out.kg CU HR.out.rd.row
      have Q4:=Aa q4
      have W4:=Aa rZ
      have F:=Aa (And.intro J5 Fz)
      clear q4 CU h4 J5 Fz rZ y0 y1 y2
      go_wp2
      go_roundg 1
      case measure=>omega
      case rel=>
       obtain⟨f1,f2⟩:=F.out
       refine⟨2,_,r4,by omega,by omega,rfl,Q4.out,W4.out,f1,f2.trans XM.out,?_,fun _=>(KV (o:=o3)).trans I0.out,fun _=>(KV (o:=o3)).trans B1.out,by omega⟩
       rw[dN.out]
       cases o3<;>rfl
    ·have GM:=FI hR.rd fh.out HT.out (kd:=DS) (kr:=DS) (by decide) (by decide) (by decide) (by decide)
     have I0:=Aa (i0 (by omega))
     have I1:=Aa (i1 (by omega))
     clear i0 i1 i2
     clear hR
     cases b1:o3.isB DS with
     |true=>
      rw[b1]at GM
      have MG:=Aa GM
      have B1:=Aa b1
      clear GM b1
      unfold vs at*
      go_wp2_with fail
      refine MG.out.mono ?_
      rintro e w4 ⟨rfl,CU,r4,h4,J5,Fz⟩
      have q4:=HR.out.call CU h4
      have q5:=q4.set2 0 (vs DS)
      have z:=fun j=>q4.row2.frozen j
      have d0:=q4.row2.cell 0
      have OP:=D5 q5.rd J5 HT.out false
      rw[Fz]at OP
      have Q5:=Aa q5
      have NC:=Aa OP
      clear q4 q5 CU h4 J5 Fz OP y0 y1 y2
      simp at d0
      unfold vs at*
      go_wp2_with fail
      clear z d0
      refine NC.out.mono ?_
      rintro e w5 ⟨v,rfl,He,hv,r5,h5,Mi,Rm⟩
      have q6:=Q5.out.call He h5
      obtain⟨e0,e1,e2,e3,e4,e5,e6⟩:=Oi q6.row2
      obtain⟨c0,c1,c2,c3,c4,c5,c6⟩:=Oi q6.row
      have z:=fun j=>q6.row2.frozen j
      have y:=fun j=>q6.row.frozen j
      have Cu:¬w.heap.size=w.heap.size+1:=by omega
      have q7:=(q6.set2 1 (.int .i64 v)).copy7 (vs DS) (.int .i64 v) (vs []) (.int .i64 0) (vs []) (.int .i64 0) (.int .i64 j)
      have Q7:=Aa q7
      have F:=Aa (And.intro hv (And.intro Mi Rm))
      clear q6 q7 He h5 hv Mi Rm
      unfold vs at*
      go_wp2
      refine Av (AG (cs:=[vs DS,.int .i64 v,vs [],.int .i64 0,vs [],.int .i64 0,.int .i64 j]) Tr Rc Ow rfl Q7.out.row) rfl ?_
      obtain⟨f1,f2,f3⟩:=F.out
      rw[aw.out,dN.out,cR B1.out]
      refine⟨DS,v,[],0,[],0,j,rfl,Q7.out.kg,fun c st e hw=>?_,r5,Q7.out.rd,(f2.map _).map _,f3.trans XM.out⟩
      obtain⟨c1,e1,rfl⟩:=IT e
      obtain⟨a,e2,rfl⟩:=IT e1
      rw[f1 a st e2 hw]
      simp[nots,EU,DN,BT,JH]
     |false=>
      rw[b1,Gp b1]at GM
      have MG:=Aa GM
      have B1:=Aa b1
      clear GM b1
      unfold vs at*
      go_wp2_with fail
      refine MG.out.mono ?_
      rintro e w4 ⟨rfl,CU,r4,h4,J5,Fz⟩
      have q4:=HR.out.call CU h4
      have rZ:=HW.out.kg CU HR.out.rd.row
      have Q4:=Aa q4
      have W4:=Aa rZ
      have F:=Aa (And.intro J5 Fz)
      clear q4 CU h4 J5 Fz rZ y0 y1 y2
      go_wp2
      go_roundg 0
      case measure=>omega
      case rel=>
       obtain⟨f1,f2⟩:=F.out
       refine⟨3,_,r4,by omega,by omega,rfl,Q4.out,W4.out,f1,f2.trans XM.out,?_,fun _=>(KV (o:=o3)).trans I0.out,fun _=>(KV (o:=o3)).trans I1.out,fun _=>(KV (o:=o3)).trans B1.out⟩
       rw[dN.out]
       cases o3<;>rfl
    ·have I0:=Aa (i0 (by omega))
     have I1:=Aa (i1 (by omega))
     have I2:=Aa (i2 (by omega))
     clear i0 i1 i2 y0 y1 y2
     have q4:=hR.set2 0 (vs Eu)
     have z:=fun j=>hR.row2.frozen j
     have d0:=hR.row2.cell 0
     have hv:=TV q4.rd fh.out HT.out
     have Q4:=Aa q4
     have HV:=Aa hv
     clear q4 hv hR
     simp at d0
     unfold vs at*
     go_wp2_with fail
     clear z d0
     refine HV.out.mono ?_
     rintro e w5 ⟨k1,n1,rfl,He,hv,r5,h5,Mi,Rm⟩
     have q5:=Q4.out.call He h5
     have q6:=(q5.set2 2 (vs k1)).set2 3 (.int .i64 n1)
     have z:=fun j=>q5.row2.frozen j
     have d2:=q5.row2.cell 2
     have d3:=q5.row2.cell 3
     have IZ:=Dw q6.rd Mi HT.out (kd:=Eu) (kr:=Eu) (by decide) (by decide) (by decide) (by decide)
     have Q6:=Aa q6
     have Tv:=Aa IZ
     have F1:=Aa (And.intro hv (And.intro Mi Rm))
     clear q5 q6 He h5 hv Mi Rm IZ
     simp at d2 d3
     unfold vs at*
     go_wp2_with fail
     clear z d2 d3
     refine Tv.out.mono ?_
     rintro e w6 ⟨x,rfl,Nv,_,r6,h6,bR,eS⟩
     have q7:=Q6.out.call Nv h6
     have hv:=TV q7.rd bR HT.out
     have Q7:=Aa q7
     have aG:=Aa hv
     have F2:=Aa (And.intro bR eS)
     clear q7 Nv h6 bR eS hv
     unfold DB vs
     go_wp2_with fail
     refine aG.out.mono ?_
     rintro e w7 ⟨k2,n2,rfl,Rk,Uq,r7,h7,mo,vW⟩
     have q8:=Q7.out.call Rk h7
     obtain⟨e0,e1,e2,e3,e4,e5,e6⟩:=Oi q8.row2
     obtain⟨c0,c1,c2,c3,c4,c5,c6⟩:=Oi q8.row
     have z:=fun j=>q8.row2.frozen j
     have y:=fun j=>q8.row.frozen j
     have Cu:¬w.heap.size=w.heap.size+1:=by omega
     have q9:=((q8.set2 4 (vs k2)).set2 5 (.int .i64 n2)).copy7 (vs Eu) (.int .i64 0) (vs k1) (.int .i64 n1) (vs k2) (.int .i64 n2) (.int .i64 j)
     have Q9:=Aa q9
     have F3:=Aa (And.intro Uq (And.intro mo vW))
     clear q8 q9 Rk h7 Uq mo vW
     unfold vs at*
     go_wp2
     refine Av (AG (cs:=[vs Eu,.int .i64 0,vs k1,.int .i64 n1,vs k2,.int .i64 n2,.int .i64 j]) Tr Rc Ow rfl Q9.out.row) rfl ?_
     obtain⟨g1,g2,g3⟩:=F1.out
     obtain⟨g4,g5⟩:=F2.out
     obtain⟨g6,g7,g8⟩:=F3.out
     rw[aw.out,dN.out,cS I0.out I1.out I2.out]
     refine⟨Eu,0,k1,n1,k2,n2,j,rfl,Q9.out.kg,fun c st e hw=>?_,r7,Q9.out.rd,(ii g7).map _,g8.trans (g5.trans (g3.trans XM.out))⟩
     obtain⟨c1,e1,rfl⟩:=IT e
     obtain⟨a,st1,t,AP,b,u1,u2,u3,rfl⟩:=pZ e1
     have w2:=fJ g4 u2 u3 hw
     have w1:=TB u1 u2 w2
     have x1:=g1 a st1 u1 w1
     have x2:=g6 b st u3 hw
     show [vs Eu,Value.int .i64 0]++[vs k1,.int .i64 n1]++[vs k2,.int .i64 n2]++[.int .i64 (j:Int)]=_
     rw[x1,x2]
     simp[nots,EU,DN,BT,JH]
end
def Afh (cs:List Value):Prop:=∃(k:Ae) (n m:Int) (t:Bool) (k0:Ae) (n0:Int) (k1:Ae) (n1:Int) (k2:Ae) (n2 j:Int) (a1:Option Addr) (l1 c1:Nat) (a2:Option Addr) (l2 c2:Nat) (o:Bool),
 cs=[vs k,.int .i64 n,.int .i64 m,.bool t,vs k0,.int .i64 n0,vs k1,.int .i64 n1,vs k2,.int .i64 n2,.int .i64 j,.slice a1 l1 c1,.slice a2 l2 c2,.bool o]
def MC (w:World) (g gp:Nat) (tl:Value) (ts:List CB) (pc:List Value) (s:Ae) (ds:List Bf) (o:AJ AC) (e:Ending) (w':World):Prop:=
 ∃cs,e= .returned (.agg cs.toArray)∧Afh cs∧Kg g w w'∧(∀x st,o= .ok x st→st.wrong=none→AW (fun k=>w.heap.size≤k) w' x cs)∧∃r',FQ w' g gp tl ts pc r'∧Bs s r' o∧r'.decls=ds
def tH (w:World) (g gp:Nat) (tl:Value) (ts:List CB) (pc:List Value) (s:Ae) (ds:List Bf) (o:AJ AC) (e:Ending) (w':World):Prop:=
 ∃a n c,e= .returned (.slice a n c)∧Kg g w w'∧(∀b st,o= .ok b st→st.wrong=none→C0 (fun k=>w.heap.size≤k) w' (.slice a n c) b)∧∃r',FQ w' g gp tl ts pc r'∧Bs s r' o∧r'.decls=ds
def CO {α:Type} (s:Ae) (n:Nat) (o:AJ α):AJ AC:=o.bind fun _ st=>block s n st
def JV {α:Type} (s:Ae) (n:Nat) (o:AJ α):AJ AC:=o.bind fun _ st=>DH s n st
def dy (g gp:Nat) (tl:Value) (ts:List CB) (pc:List Value) (s:Ae) (n:Nat):Prop:=
 ∀(st:PS) (w:World) (r:Ff),FQ w g gp tl ts pc r→AB s r st→st.depth≤8→st.loops≤2→2*left s st+1≤n→
  Calls Tryz.prog 128 #[.pointer (some ⟨g,0,none⟩)] w (MC w g gp tl ts pc s r.decls (stmt s n st))
def Rj (g gp:Nat) (tl:Value) (ts:List CB) (pc:List Value) (s:Ae) (n:Nat):Prop:=
 ∀(o:AJ Unit) (w:World) (r:Ff),FQ w g gp tl ts pc r→Bs s r o→(∀st,o= .ok () st→st.depth≤8∧st.loops≤2∧2*left s st+1≤n)→
  Calls Tryz.prog 91 #[.pointer (some ⟨g,0,none⟩)] w (tH w g gp tl ts pc s r.decls (CO s n o))
def MA (o:AJ Unit):AJ Unit:=o.bind fun _ st=>if st.t.kind=Bo∧st.depth=8 then fail QP st else .ok () st
def jE {α:Type} (o:AJ α):AJ Unit:=o.bind fun _ st=>.ok () {st with depth:=st.depth+1}
def uC {α:Type} (o:AJ α):AJ Unit:=o.bind fun _ st=>.ok () {st with depth:=st.depth-1}
theorem QY:∀(b:AC),b.app .nil=b
 | .nil=>rfl
 | .prim p r=>by simp[AC.app,QY r]
 | .ite c t o e r=>by simp[AC.app,QY r]
 | .rep n c b r=>by simp[AC.app,QY r]
theorem M9:∀(a b c:AC),(a.app b).app c=a.app (b.app c)
 | .nil,_,_=>rfl
 | .prim p r,b,c=>by simp[AC.app,M9 r]
 | .ite _ _ _ _ r,b,c=>by simp[AC.app,M9 r]
 | .rep _ _ _ r,b,c=>by simp[AC.app,M9 r]
section
variable {s:Ae}
theorem i8 (n:Nat) (o:AJ Unit):CO s (n+1) o=(JV s n (jE (BC s Bo (MA o)))).bind fun b st=>.ok b (next s {st with depth:=st.depth-1}):=by
 cases o with
 |bad e p=>rfl
 |ok a st=>
  show block s (n+1) st=(JV s n (jE (BC s Bo (if st.t.kind=Bo∧st.depth=8 then fail QP st else .ok () st)))).bind _
  rw[block]
  by_cases h:st.t.kind=Bo∧st.depth=8
  ·rw[Ak h,Ak h];rfl
  ·rw[Ad h,Ad h]
   show _=(JV s n (jE (want s Bo st))).bind _
   cases want s Bo st<;>rfl
theorem WS {o:AJ Unit} (n:Nat) (h:o.isB AU=true∨∃e p,o= .bad e p) (done:AC):
  ((JV s (n+1) o).map fun r=>done.app r).bind (fun b st=>AJ.ok b (next s {st with depth:=st.depth-1}))=(uC (BC s AU o)).bind fun _ st=>.ok done st:=by
 rcases h with h|⟨e,p,rfl⟩
 ·obtain⟨a,st,rfl,hk⟩:=AJ.isB_ok h
  have e1:JV s (n+1) (AJ.ok a st)= .ok .nil st:=by show DH s (n+1) st=_;rw[DH,Ak hk]
  have e2:BC s AU (AJ.ok a st)= .ok st.t (next s st):=by show want s AU st=_;unfold want;rw[Ak hk]
  rw[e1,e2]
  show AJ.ok (done.app .nil) _=_
  rw[QY]
  rfl
 ·rfl
theorem Sm {o:AJ Unit} {st:PS} (n:Nat) (h:o.isB AU=false) (ho:o= .ok () st) (done:AC):
  (JV s (n+1) o).map (fun r=>done.app r)=match stmt s n st with
   | .ok x AP=>(JV s n (AJ.ok () AP)).map fun r=>(done.app x).app r
   | .bad e p=>.bad e p:=by
 subst ho
 have hk:¬st.t.kind=AU:=by simpa[AJ.isB]using h
 have e1:JV s (n+1) (AJ.ok () st)=(stmt s n st).bind fun x st=>(DH s n st).map fun r=>x.app r:=by show DH s (n+1) st=_;rw[DH,Ad hk]
 rw[e1]
 cases hx:stmt s n st with
 |bad e p=>rfl
 |ok x AP=>
  show((DH s n AP).map fun r=>x.app r).map _=(DH s n AP).map _
  cases DH s n AP with
  |bad e p=>rfl
  |ok r Cb=>show AJ.ok (done.app (x.app r)) Cb=AJ.ok ((done.app x).app r) Cb;rw[M9]
end
theorem fY {s:Ae} (n:Nat) (st:PS) {AP:PS}:stmt s n st≠.ok .nil AP:=by
 intro h
 cases n with
 |zero=>cases h
 |succ n=>
  have KN:∀{p:D9} {st1:PS},((want s Ar st1).bind fun _ st=>AJ.ok (AC.prim p .nil) st)≠.ok .nil AP:=by
   intro p st1 e
   obtain⟨_,_,_,e2⟩:=AA e
   cases e2
  rw[stmt]at h
  by_cases h1:st.t.kind=Hn
  ·rw[Ak h1]at h
   obtain⟨_,_,_,e⟩:=AA h;exact KN e
  rw[Ad h1]at h
  by_cases h1:st.t.kind=Db
  ·rw[Ak h1]at h
   obtain⟨_,_,_,e⟩:=AA h;exact KN e
  rw[Ad h1]at h
  by_cases h1:st.t.kind=Ew
  ·rw[Ak h1]at h
   obtain⟨_,_,_,e⟩:=AA h;exact KN e
  rw[Ad h1]at h
  by_cases h1:st.t.kind=CN
  ·rw[Ak h1]at h
   obtain⟨_,_,_,e⟩:=AA h
   obtain⟨_,_,_,e⟩:=AA e
   exact KN e
  rw[Ad h1]at h
  by_cases h1:st.t.kind=Ia
  ·rw[Ak h1]at h
   obtain⟨_,_,_,e⟩:=AA h;exact KN e
  rw[Ad h1]at h
  by_cases h1:st.t.kind=Ib
  ·rw[Ak h1]at h
   obtain⟨_,_,_,e⟩:=AA h;exact KN e
  rw[Ad h1]at h
  by_cases h1:st.t.kind=EJ
  ·rw[Ak h1]at h
   exact KN h
  rw[Ad h1]at h
  by_cases h1:st.t.kind=EK
  ·rw[Ak h1]at h
   exact KN h
  rw[Ad h1]at h
  by_cases h1:st.t.kind=Iw
  ·rw[Ak h1]at h
   obtain⟨_,_,_,e⟩:=AA h
   obtain⟨_,st1,_,e⟩:=AA e
   by_cases h2:st1.t.kind=BH
   ·rw[Ak h2]at e
    obtain⟨_,_,_,e⟩:=AA e;cases e
   ·rw[Ad h2]at e;cases e
  rw[Ad h1]at h
  by_cases h1:st.t.kind=Bb
  ·rw[Ak h1]at h
   by_cases h2:st.loops=2
   ·rw[Ak h2]at h;cases h
   ·rw[Ad h2]at h
    obtain⟨_,_,_,e⟩:=AA h
    obtain⟨_,_,_,e⟩:=AA e
    obtain⟨_,_,_,e⟩:=AA e
    obtain⟨_,_,_,e⟩:=AA e
    cases e
  rw[Ad h1]at h
  cases h
theorem Sl.nil__ (S:Nat→Prop) (w:World) (e:TypeId) (size:Nat):Sl S w e size (.slice none 0 0) 0 []:=⟨Cz _ _ _ _,fun g hg=>by cases hg⟩
theorem it:(Tryz.prog.info? 212).map (fun i=>(i.zero,i.size,i.bytes))=
  some (some (.agg #[vs [],.int .i64 0,.int .i64 0,.bool false,vs [],.int .i64 0,vs [],.int .i64 0,vs [],.int .i64 0,.int .i64 0,.slice none 0 0,.slice none 0 0,.bool false]),14,176):=by kernel_rfl
structure tG (g gp:Nat) (tl:Value) (ts:List CB) (pc:List Value) (s:Ae) (ds:List Bf) (w wr:World) (n:Nat) (o0:AJ Unit) (kk:Nat) (m:Nat) (o1:AJ Unit) (r1:Ff) (done:AC) (j:Nat) (cs:List Value) (a:Option Addr) (c:Nat):Prop where
 kg:Kg g w wr
 rd:FQ wr g gp tl ts pc r1
 says:Bs s r1 o1
 decls:r1.decls=ds
 eq:JV s n o0=(JV s (m+1) o1).map (fun r=>done.app r)
 fuel:∀st,o1= .ok () st→2*left s st+1≤m∧st.depth≤8∧st.loops≤2∧1≤st.depth
 mn:∀st,o1= .ok () st→m<n
 ghost:C6 s o1≤kk
 len:j+C6 s o1≤1002
 sl:Sl (fun b=>w.heap.size≤b) wr 212 14 (.slice a j c) j cs
 stm:∀st,o1= .ok () st→st.wrong=none→done.length=j∧AW (fun b=>w.heap.size≤b∧(Value.slice a j c).ownBlock≠some b) wr done cs
theorem LI:∀(b r:AC),(b.app r).length=b.length+r.length
 | .nil,r=>by simp[AC.app,AC.length]
 | .prim p x,r=>by simp only[AC.app,AC.length,LI x r];omega
 | .ite c t o e x,r=>by simp only[AC.app,AC.length,LI x r];omega
 | .rep n c b x,r=>by simp only[AC.app,AC.length,LI x r];omega
theorem tG.drewN {g gp:Nat} {tl:Value} {ts:List CB} {pc:List Value} {s:Ae} {ds:List Bf} {w wr:World} {n:Nat} {o0:AJ Unit} {kk m:Nat} {o1:AJ Unit} {r1:Ff} {done:AC} {j:Nat} {cs:List Value} {a:Option Addr} {c:Nat}
  (h:tG g gp tl ts pc s ds w wr n o0 kk m o1 r1 done j cs a c) (q:Nat):tG g gp tl ts pc s ds w (wr.drewN q) n o0 kk m o1 r1 done j cs a c:=
 ⟨h.kg.drewN q,h.rd.drewN q,h.says,h.decls,h.eq,h.fuel,h.mn,h.ghost,h.len,h.sl.of_heap rfl,fun st e hw=>⟨(h.stm st e hw).1,AW.kept (w:=wr) (w':=wr.drewN q) (fun _ _ _ _=>rfl) _ _ (h.stm st e hw).2⟩⟩
section
variable {w:World} {g gp:Nat} {tl:Value} {ts:List CB} {pc:List Value} {r:Ff} {s:Ae}
theorem tG.step {ds:List Bf} {wr w2 W w3:World} {n:Nat} {o0:AJ Unit} {kk m:Nat} {r1 r2:Ff} {done:AC} {j:Nat} {cs L:List Value} {a:Option Addr} {c:Nat} {st:PS}
  (h:tG g gp tl ts pc s ds w wr n o0 kk (m+1) (.ok () st) r1 done j cs a c) (hc:(AJ.ok () st:AJ Unit).isB AU=false)
  (k2:Kg g wr w2) (Ij:FQ w2 g gp tl ts pc r2) (Cp:Bs s r2 (stmt s (m+1) st)) (Fp:r2.decls=ds) (CP:∀x AP,stmt s (m+1) st= .ok x AP→AP.wrong=none→AW (fun k=>wr.heap.size≤k) w2 x L)
  (hL:L.length=14) (Zv:Af (fun b=>w2.heap.size≤b) w2 W) (hsW:w2.heap.size≤W.heap.size) {g2 c2:Nat} (Fo:Sl (fun b=>w.heap.size≤b) w3 212 14 (.slice (some ⟨g2,0,none⟩) (j+1) c2) (j+1) (cs++L))
  (BY:Af (fun b=>(Value.slice a j c).ownBlock=some b∨W.heap.size≤b) W w3) (EE:(Value.slice a j c).ownBlock=some g2∨g2=W.heap.size):
  C6 s ((stmt s (m+1) st).bind fun _ st=>AJ.ok () st)<C6 s (AJ.ok () st:AJ Unit)∧∃ni,tG g gp tl ts pc s ds w w3 n o0 (C6 s ((stmt s (m+1) st).bind fun _ st=>AJ.ok () st)) m ((stmt s (m+1) st).bind fun _ st=>AJ.ok () st) r2 ni (j+1) (cs++L) (some ⟨g2,0,none⟩) c2:=by
 obtain⟨hf,Ve,Ux,Gi⟩:=h.fuel st rfl
 have Kf:0<left s st:=NU (AB.ok h.says)
 have yO:∀b,(Value.slice a j c).ownBlock=some b→w.heap.size≤b∧b<wr.heap.size∧b≠g:=fun b hb=>⟨h.sl.2 b hb,h.sl.lt hb,fun e=>h.sl.ne_row h.rd.row (by decide) (e▸hb)⟩
 have k0:Kg g w W:=Kg.trans (Kg.trans h.kg k2) (Zv.mono (fun b hb=>.inr hb))
 have k3:Kg g w w3:=Af.trans k0 (BY.mono (fun b hb=>.inr (hb.elim (fun e=>(yO b e).1) (fun e=>Ai k0.size e))))
 have sG:FQ W g gp tl ts pc r2:=Ij.kg (Zv.mono (fun b hb=>.inr hb)) (Zv.block g (by have:=Ij.row.lt;omega))
 have sH:FQ w3 g gp tl ts pc r2:=by
  obtain⟨N,ht⟩:=sG.toks
  obtain⟨N',vd,e1,e2⟩:=sG.decls
  have vy:∀{t:TypeId} {cs:List Value} {n:Nat},AM W n t cs→t≠212→¬((Value.slice a j c).ownBlock=some n∨W.heap.size≤n):=by
   intro t VG n hr ht hh
   rcases hh with hh|hh
   ·have h1:=(h.sl.kept k2 (fun b hb hh=>hh.elim (fun e=>(yO b hb).2.2 e) (fun e=>by have:=(yO b hb).2.1;omega))).kept Zv (fun b hb hh=>by have:=(yO b hb).2.1;have:=k2.size;omega)
    exact h1.ne_row hr (fun e=>ht e.symm) hh
   ·have:=hr.lt;omega
  have Mh:∀{t:TypeId} {size n:Nat} {v:Value} {xs:List Value} {N:Nat→Prop},Sl N W t size v n xs→t≠212→Sl N w3 t size v n xs:=by
   intro t size n v xs N hs ht
   exact hs.kept BY (fun b hb=>by obtain⟨VG,hr⟩:=hs.row hb;exact vy hr ht)
  exact⟨sG.row.kept BY (vy sG.row (by decide)),⟨N,Mh ht (by decide)⟩,sG.tl,sG.pol.kept BY (vy sG.pol (by decide)),⟨N',vd,e1,Mh e2 (by decide)⟩,sG.dl⟩
 cases hx:stmt s (m+1) st with
 |bad e p=>
  rw[hx]at Cp
  refine⟨Kf,done,k3,sH,Cp,Fp,?_,(by intro AP e2;cases e2),(by intro AP e2;cases e2),Ab _,?_,Fo,(by intro AP e2;cases e2)⟩
  ·rw[h.eq,Sm (m+1) hc rfl,hx];rfl
  ·have h7:=h.len
   show j+1+0≤1002
   have:C6 s (AJ.ok () st:AJ Unit)=left s st:=rfl
   omega
 |ok x AP=>
  rw[hx]at Cp
  have Vx:=WT (AB.ok h.says) Ve Ux hx
  have Cy:left s AP<left s st:=by
   have:=Vx.size
   have hp:0<x.size:=by
    cases x with
    |nil=>exact absurd hx (fY _ _)
    |prim p r=>simp only[AC.size];omega
    |ite c t o e r=>simp only[AC.size];omega
    |rep n c b r=>simp only[AC.size];omega
   omega
  refine⟨Cy,done.app x,k3,sH,Cp,Fp,?_,?_,fun Cb _=>by have:=h.mn st rfl;omega,Ab _,?_,Fo,?_⟩
  ·rw[h.eq,Sm (m+1) hc rfl,hx];rfl
  ·intro Cb e3
   injection e3 with _ e3
   subst e3
   refine⟨by omega,by rw[Vx.fwd.depth];exact Ve,by rw[Vx.fwd.loops];exact Ux,by rw[Vx.fwd.depth];exact Gi⟩
  ·have h7:=h.len
   have e1:C6 s (AJ.ok () st:AJ Unit)=left s st:=rfl
   show j+1+left s AP≤1002
   omega
  ·intro Cb e3 hw
   injection e3 with _ e3
   subst e3
   obtain⟨b1,b2⟩:=h.stm st rfl (Vx.fwd.wrong hw)
   have Xi:=CP x AP hx hw
   have hxl:x.length=1:=by
    have:=AW.len x L Xi
    omega
   refine⟨by rw[LI,b1,hxl],?_⟩
   have far:∀k VG,(w.heap.size≤k∧(Value.slice a j c).ownBlock≠some k∧k<W.heap.size)→AM W k 212 VG→w3.heap[k]?=W.heap[k]?:=fun k VG hk hr=>BY.block k (fun hh=>hh.elim hk.2.1 (fun h2=>by omega))
   have yv:∀k,k<w3.heap.size→(w.heap.size≤k∧(Value.slice a j c).ownBlock≠some k∧k<W.heap.size)→(w.heap.size≤k∧(Value.slice (some ⟨g2,0,none⟩) (j+1) c2).ownBlock≠some k):=fun k _ hk=>⟨hk.1,fun e=>by
    injection e with e
    simp only at e
    subst e
    rcases EE with h1|h1
    ·exact hk.2.1 h1
    ·omega⟩
   have GG:=k2.size
   have SB:=h.kg.size
   have p1:=AW.mono (N':=fun k=>w.heap.size≤k∧(Value.slice a j c).ownBlock≠some k∧k<W.heap.size) (fun k hk hN=>⟨hN.1,hN.2,by omega⟩) _ _ b2
   have p2:=AW.kept (w':=W) (fun k VG hk hr=>(Zv.block k (by have:=hr.lt;omega)).trans (Hw k2 hr.lt (hr.ne_ h.rd.row (by decide)))) _ _ p1
   have p3:=AW.mono yv _ _ (AW.kept far _ _ p2)
   have r1:=AW.mono (N':=fun k=>w.heap.size≤k∧(Value.slice a j c).ownBlock≠some k∧k<W.heap.size) (fun k hk hN=>⟨by omega,fun e=>by have:=(yO k e).2.1;omega,by omega⟩) _ _ Xi
   have r2:=AW.kept (w':=W) (fun k VG hk hr=>Zv.block k (by have:=hr.lt;omega)) _ _ r1
   have r3:=AW.mono yv _ _ (AW.kept far _ _ r2)
   exact AW.app _ _ _ _ p3 r3
end
end Go.Proofs.YtemppijblfflgaaGreatDoor.Ev
