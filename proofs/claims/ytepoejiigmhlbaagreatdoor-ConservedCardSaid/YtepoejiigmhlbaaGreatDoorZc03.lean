/- Lemmas for a law's walk. Conditions: none. -/
import Derived.Outline
import Derived.StillTail
import Derived.BigQuiet
import Derived.Test.YtepoejiigmhlbaaGreatDoorZc02
set_option linter.all false
namespace Go.Proofs.YtepoejiigmhlbaaGreatDoor.Ev
structure Fwd (s:Bytes) (st st':PS):Prop where
 ok:st'.Ok s
 left:left s st'≤left s st
 decls:st'.decls=st.decls
 freq:st'.freq=st.freq
 fseen:st'.fseen=st.fseen
 rules:st'.rules=st.rules
 depth:st'.depth=st.depth
 loops:st'.loops=st.loops
 wrong:st'.wrong=none→st.wrong=none
section
variable {s:Bytes} {st st' st'':PS}
theorem Fwd.refl (h:st.Ok s):Fwd s st st:=⟨h,Nat.le_refl _,rfl,rfl,rfl,rfl,rfl,rfl,id⟩
theorem Fwd.trans (h:Fwd s st st') (k:Fwd s st' st''):Fwd s st st'':=
 ⟨k.ok,Nat.le_trans k.left h.left,k.decls.trans h.decls,k.freq.trans h.freq,k.fseen.trans h.fseen,k.rules.trans h.rules,k.depth.trans h.depth,k.loops.trans h.loops,fun x=>h.wrong (k.wrong x)⟩
theorem Fwd.next (h:st.Ok s):Fwd s st (next s st):=by
 refine⟨next_ok h,?_,rfl,rfl,rfl,rfl,rfl,rfl,id⟩
 obtain⟨a,b,c,d⟩:=lex_facts s st.i h.i
 have:=h.pos
 unfold Ev.left
 show s.length+1-(lex s st.i).1.pos≤_
 omega
theorem note_t (e pos:Nat) (st:PS):(note e pos st).t=st.t∧(note e pos st).i=st.i:=by unfold note;cases st.wrong<;>exact⟨rfl,rfl⟩
theorem Fwd.note (h:st.Ok s) (e pos:Nat):Fwd s st (note e pos st):=by
 obtain⟨a,b⟩:=note_t e pos st
 refine⟨⟨by rw[b];exact h.i,by rw[a,b];exact h.pos,by rw[a,b];exact h.more,by rw[a];exact h.num,by rw[a];exact h.name⟩,by unfold Ev.left;rw[a];exact Nat.le_refl _,?_,?_,?_,?_,?_,?_,?_⟩
 all_goals unfold Ev.note
 all_goals cases hw:st.wrong<;>simp_all
theorem note_wrong (e pos:Nat) (st:PS):(note e pos st).wrong≠none:=by
 unfold note;cases hw:st.wrong<;>simp[hw]
theorem want_ok {k:Bytes} {t:Tok} (h:want s k st= .ok t st'):st.t.kind=k∧t=st.t∧st'=next s st:=by
 unfold want at h
 split at h
 ·injection h with h1 h2;exact⟨by assumption,h1.symm,h2.symm⟩
 ·cases h
theorem bind_ok {α β:Type} {x:Out α} {f:α→PS→Out β} {b:β} {st:PS} (h:x.bind f= .ok b st):∃a st1,x= .ok a st1∧f a st1= .ok b st:=by
 cases x with
 |ok a st1=>exact⟨a,st1,rfl,h⟩
 |bad e p=>cases h
theorem map_ok {α β:Type} {x:Out α} {f:α→β} {b:β} {st:PS} (h:x.map f= .ok b st):∃a,x= .ok a st∧f a=b:=by
 cases x with
 |ok a st1=>injection h with h1 h2;exact⟨a,by rw[h2],h1⟩
 |bad e p=>cases h
theorem next_lt (h:st.Ok s) {k:Bytes} (hk:st.t.kind=k) (h1:k≠kEnd) (h2:k≠kNone):left s (next s st)<left s st:=
 next_left h (by rw[hk];exact h1) (by rw[hk];exact h2)
theorem number_ok {least most n:Int} (h:st.Ok s) (e:number s least most st= .ok n st'):Fwd s st st'∧left s st'<left s st∧(st'.wrong=none→least≤n∧n≤most):=by
 unfold number at e
 obtain⟨t,st1,e1,e2⟩:=bind_ok e
 obtain⟨hk,rfl,rfl⟩:=want_ok e1
 injection e2 with e2 e3
 subst e2
 have h1:=next_ok h
 have hl:=next_lt h hk (by decide) (by decide)
 split at e3
 ·subst e3
  have f:=Fwd.note h1 eNumber st.t.pos
  exact⟨(Fwd.next h).trans f,Nat.lt_of_le_of_lt f.left hl,fun hw=>absurd hw (note_wrong _ _ _)⟩
 ·subst e3
  exact⟨Fwd.next h,hl,fun _=>by omega⟩
theorem findFrom_range (name:Bytes):∀(l:List Decl) (k:Nat),findFrom name l k= -1∨∃(i:Nat) (d:Decl),l[i]?=some d∧d.name=name∧findFrom name l k=((k+i:Nat):Int)
 | [],k=>.inl rfl
 |d::l,k=>by
  by_cases h:d.name=name
  ·exact .inr ⟨0,d,rfl,h,by rw[findFrom,if_pos h];rfl⟩
  ·rcases findFrom_range name l (k+1)with h1|⟨i,d',h1,h3,h2⟩
   ·exact .inl (by rw[findFrom,if_neg h,h1])
   ·exact .inr ⟨i+1,d',by simpa using h1,h3,by rw[findFrom,if_neg h,h2];congr 1;omega⟩
def NameW (l:List Decl) (v:Bool) (k:Int):Prop:=Ix l.length k∧((declAt l k).kind==2)=v
theorem name_ok {v:Bool} {k:Int} (h:st.Ok s) (e:name s v st= .ok k st'):Fwd s st st'∧left s st'<left s st∧(st'.wrong=none→NameW st.decls v k):=by
 unfold name at e
 obtain⟨t,st1,e1,e2⟩:=bind_ok e
 obtain⟨hk,rfl,rfl⟩:=want_ok e1
 injection e2 with e2 e3
 have h1:=next_ok h
 have hl:=next_lt h hk (by decide) (by decide)
 have hd:(next s st).decls=st.decls:=rfl
 unfold nameNote at e3
 rw[hd]at e2 e3
 split at e3
 ·subst e3
  have f:=Fwd.note h1 eNone st.t.pos
  exact⟨(Fwd.next h).trans f,Nat.lt_of_le_of_lt f.left hl,fun hw=>absurd hw (note_wrong _ _ _)⟩
 ·split at e3
  ·subst e3
   have f:=Fwd.note h1 eKind st.t.pos
   exact⟨(Fwd.next h).trans f,Nat.lt_of_le_of_lt f.left hl,fun hw=>absurd hw (note_wrong _ _ _)⟩
  ·rename_i h0 h2
   subst e3
   refine⟨Fwd.next h,hl,fun _=>⟨?_,?_⟩⟩
   ·rcases findFrom_range st.t.text st.decls 0 with hf|⟨i,d,hi,_,hf⟩
    ·exact absurd (show find st.decls st.t.text<0 by unfold find;omega) h0
    ·have:=(List.getElem?_eq_some_iff.1 hi).1
     rw[←e2]
     unfold find Ix
     rw[hf]
     omega
   ·rw[←e2]
    simpa using h2
def ValW (l:List Decl):Val→Prop
 | .num n=>0≤n∧n≤999
 | .var n=>NameW l true n
 | .len n=>NameW l false n
 | .freq=>True
def CKW (l:List Decl):CK→Prop
 | .full n=>NameW l false n
 | .empty n=>NameW l false n
 | .warm n=>NameW l false n
 | .less a b=>ValW l a∧ValW l b
def PrimW (l:List Decl):Prim→Prop
 | .put q _=>NameW l false q
 | .evict q=>NameW l false q
 | .cool q=>NameW l false q
 | .shift q p _=>NameW l false q∧NameW l false p
 | .inc v=>NameW l true v
 | .dec v=>NameW l true v
 |_=>True
def BlkW (l:List Decl):Blk→Prop
 | .nil=>True
 | .prim p r=>PrimW l p∧BlkW l r
 | .ite c t o e r=>CKW l c.k∧BlkW l t∧BlkW l e∧BlkW l r
 | .rep n c b r=>CKW l c.k∧BlkW l b∧BlkW l r∧1≤n∧n≤50
def Blk.Form:Blk→Prop
 | .nil=>True
 | .prim _ r=>r.Form
 | .ite _ t o e r=>t.Form∧e.Form∧r.Form∧(o=false→e= .nil)
 | .rep _ _ b r=>b.Form∧r.Form
def Blk.deep:Blk→Nat
 | .nil=>0
 | .prim _ r=>r.deep
 | .ite _ t o e r=>max (1+t.deep) (max (if o then 1+e.deep else 0) r.deep)
 | .rep _ _ b r=>max (1+b.deep) r.deep
def Blk.nest:Blk→Nat
 | .nil=>0
 | .prim _ r=>r.nest
 | .ite _ t _ e r=>max t.nest (max e.nest r.nest)
 | .rep _ _ b r=>max (1+b.nest) r.nest
def Blk.size:Blk→Nat
 | .nil=>0
 | .prim _ r=>1+r.size
 | .ite _ t _ e r=>1+t.size+e.size+r.size
 | .rep _ _ b r=>1+b.size+r.size
theorem app_W {l:List Decl}:∀(b r:Blk),BlkW l (b.app r)↔BlkW l b∧BlkW l r
 | .nil,r=>by simp[Blk.app,BlkW]
 | .prim p x,r=>by simp[Blk.app,BlkW,app_W x r,and_assoc]
 | .ite c t o e x,r=>by simp[Blk.app,BlkW,app_W x r,and_assoc]
 | .rep n c b x,r=>by
  simp only[Blk.app,BlkW,app_W x r]
  constructor
  ·rintro⟨a,b,⟨c,d⟩,e⟩;exact⟨⟨a,b,c,e⟩,d⟩
  ·rintro⟨⟨a,b,c,e⟩,d⟩;exact⟨a,b,⟨c,d⟩,e⟩
theorem app_Form:∀(b r:Blk),b.Form→r.Form→(b.app r).Form
 | .nil,r,_,h=>h
 | .prim p x,r,a,h=>app_Form x r a h
 | .ite c t o e x,r,⟨a1,a2,a3,a4⟩,h=>⟨a1,a2,app_Form x r a3 h,a4⟩
 | .rep n c b x,r,⟨a1,a2⟩,h=>⟨a1,app_Form x r a2 h⟩
theorem app_deep:∀(b r:Blk),(b.app r).deep=max b.deep r.deep
 | .nil,r=>by simp[Blk.app,Blk.deep]
 | .prim p x,r=>by simp[Blk.app,Blk.deep,app_deep x r]
 | .ite c t o e x,r=>by simp only[Blk.app,Blk.deep,app_deep x r];omega
 | .rep n c b x,r=>by simp only[Blk.app,Blk.deep,app_deep x r];omega
theorem app_nest:∀(b r:Blk),(b.app r).nest=max b.nest r.nest
 | .nil,r=>by simp[Blk.app,Blk.nest]
 | .prim p x,r=>by simp[Blk.app,Blk.nest,app_nest x r]
 | .ite c t o e x,r=>by simp only[Blk.app,Blk.nest,app_nest x r];omega
 | .rep n c b x,r=>by simp only[Blk.app,Blk.nest,app_nest x r];omega
theorem app_size:∀(b r:Blk),(b.app r).size=b.size+r.size
 | .nil,r=>by simp[Blk.app,Blk.size]
 | .prim p x,r=>by simp only[Blk.app,Blk.size,app_size x r];omega
 | .ite c t o e x,r=>by simp only[Blk.app,Blk.size,app_size x r];omega
 | .rep n c b x,r=>by simp only[Blk.app,Blk.size,app_size x r];omega
theorem NameW.ix {l:List Decl} {v:Bool} {k:Int} (h:NameW l v k):Ix l.length k:=h.1
theorem BlkW.ok {l:List Decl}:∀(b:Blk),BlkW l b→b.Form→BlkOk l b
 | .nil,_,_=>trivial
 | .prim p r,⟨a,b⟩,h=>by
  refine⟨?_,BlkW.ok r b h⟩
  have q2:∀{k:Int},NameW l false k→(declAt l k).kind≠2:=fun h e=>by have:=h.2;rw[e]at this;exact absurd this (by decide)
  cases p
  case shift=>exact⟨a.1.ix,a.2.ix,q2 a.2⟩
  case put=>exact⟨NameW.ix a,q2 a⟩
  case drop=>trivial
  case bump=>trivial
  all_goals exact NameW.ix a
 | .ite c t o e r,⟨a,b,d,f⟩,⟨h1,h2,h3,h4⟩=>by
  refine⟨?_,BlkW.ok t b h1,BlkW.ok e d h2,BlkW.ok r f h3,h4⟩
  cases hc:c.k with
  |less x y=>
   rw[hc]at a
   obtain⟨a1,a2⟩:=a
   constructor
   ·cases x<;>first|trivial|exact NameW.ix a1
   ·cases y<;>first|trivial|exact NameW.ix a2
  |full n=>rw[hc]at a;exact NameW.ix a
  |empty n=>rw[hc]at a;exact NameW.ix a
  |warm n=>rw[hc]at a;exact NameW.ix a
 | .rep n c b r,⟨a,d,f,g,_⟩,⟨h1,h2⟩=>by
  refine⟨?_,BlkW.ok b d h1,BlkW.ok r f h2,by omega⟩
  cases hc:c.k with
  |less x y=>
   rw[hc]at a
   obtain⟨a1,a2⟩:=a
   constructor
   ·cases x<;>first|trivial|exact NameW.ix a1
   ·cases y<;>first|trivial|exact NameW.ix a2
  |full n=>rw[hc]at a;exact NameW.ix a
  |empty n=>rw[hc]at a;exact NameW.ix a
  |warm n=>rw[hc]at a;exact NameW.ix a
theorem value_ok {v:Val} (h:st.Ok s) (e:value s st= .ok v st'):Fwd s st st'∧left s st'<left s st∧(st'.wrong=none→ValW st.decls v):=by
 unfold value at e
 split at e
 ·obtain⟨a,e1,rfl⟩:=map_ok e
  exact number_ok h e1
 ·split at e
  ·rename_i hk
   obtain⟨a,e1,rfl⟩:=map_ok e
   obtain⟨f,l,w⟩:=name_ok (next_ok h) e1
   exact⟨(Fwd.next h).trans f,Nat.lt_trans l (next_lt h hk (by decide) (by decide)),w⟩
  ·split at e
   ·rename_i hk
    injection e with e1 e2
    subst e1 e2
    exact⟨Fwd.next h,next_lt h hk (by decide) (by decide),fun _=>trivial⟩
   ·obtain⟨a,e1,rfl⟩:=map_ok e
    exact name_ok h e1
theorem condBase_ok {c:Cond} (h:st.Ok s) (e:condBase s st= .ok c st'):Fwd s st st'∧left s st'<left s st∧(st'.wrong=none→CKW st.decls c.k):=by
 have one:∀{k:Bytes} {f:Int→Cond},st.t.kind=k→k≠kEnd→k≠kNone→(∀n,NameW st.decls false n→CKW st.decls (f n).k)→(name s false (next s st)).map f= .ok c st'→
   Fwd s st st'∧left s st'<left s st∧(st'.wrong=none→CKW st.decls c.k):=by
  intro k f hk h1 h2 hf e
  obtain⟨a,e1,rfl⟩:=map_ok e
  obtain⟨g,l,w⟩:=name_ok (next_ok h) e1
  exact⟨(Fwd.next h).trans g,Nat.lt_trans l (next_lt h hk h1 h2),fun x=>hf _ (w x)⟩
 unfold condBase at e
 split at e
 ·rename_i hk;exact one (f:=fun n=>⟨.full n,0⟩) hk (by decide) (by decide) (fun _ x=>x) e
 ·split at e
  ·rename_i hk;exact one (f:=fun n=>⟨.empty n,0⟩) hk (by decide) (by decide) (fun _ x=>x) e
  ·split at e
   ·rename_i hk;exact one (f:=fun n=>⟨.warm n,0⟩) hk (by decide) (by decide) (fun _ x=>x) e
   ·obtain⟨a,st1,e1,e2⟩:=bind_ok e
    obtain⟨t,st2,e3,e4⟩:=bind_ok e2
    obtain⟨b,e5,rfl⟩:=map_ok e4
    obtain⟨f1,l1,w1⟩:=value_ok h e1
    obtain⟨_,_,rfl⟩:=want_ok e3
    have f2:=Fwd.next f1.ok
    obtain⟨f3,l3,w3⟩:=value_ok f2.ok e5
    refine⟨(f1.trans f2).trans f3,by have:=f2.left;omega,fun x=>⟨w1 (f2.wrong (f3.wrong x)),?_⟩⟩
    have:=w3 x
    rw[f2.decls,f1.decls]at this
    exact this
theorem cond_ok:∀{n:Nat} {st:PS} {c:Cond},st.Ok s→cond s n st= .ok c st'→Fwd s st st'∧left s st'<left s st∧(st'.wrong=none→CKW st.decls c.k)
 |0,_,_,_,e=>by cases e
 |n+1,st,c,h,e=>by
  unfold cond at e
  split at e
  ·rename_i hk
   obtain⟨a,e1,rfl⟩:=map_ok e
   obtain⟨f,l,w⟩:=cond_ok (next_ok h) e1
   exact⟨(Fwd.next h).trans f,Nat.lt_trans l (next_lt h hk (by decide) (by decide)),w⟩
  ·exact condBase_ok h e
structure GotB (s:Bytes) (st st':PS) (b:Blk):Prop where
 fwd:Fwd s st st'
 w:st'.wrong=none→BlkW st.decls b
 form:b.Form
 deep:st.depth+b.deep≤8
 nest:st.loops+b.nest≤2
 size:b.size+left s st'≤left s st
theorem prim_got {st st':PS} {x:Prim} (f:Fwd s st st') (l:left s st'<left s st) (w:st'.wrong=none→PrimW st.decls x) (hd:st.depth≤8) (hl:st.loops≤2):GotB s st st' (.prim x .nil):=
 ⟨f,fun y=>⟨w y,trivial⟩,trivial,by simp[Blk.deep];exact hd,by simp[Blk.nest];exact hl,by simp[Blk.size];omega⟩
mutual
theorem block_ok:∀{n:Nat} {st st':PS} {b:Blk},st.Ok s→st.depth≤8→st.loops≤2→block s n st= .ok b st'→
  Fwd s st st'∧(st'.wrong=none→BlkW st.decls b)∧b.Form∧st.depth+1+b.deep≤8∧st.loops+b.nest≤2∧b.size+2+left s st'≤left s st
 |0,_,_,_,_,_,_,e=>by unfold block at e;cases e
 |n+1,st,st',b,h,hd,hl,e=>by
  unfold block at e
  split at e
  ·cases e
  ·rename_i h8
   obtain⟨t,st1,e1,e2⟩:=bind_ok e
   obtain⟨b',st2,e3,e4⟩:=bind_ok e2
   obtain⟨hk,_,rfl⟩:=want_ok e1
   injection e4 with e4 e5
   subst e4
   have f1:=Fwd.next h
   have l1:=next_lt h hk (by decide) (by decide)
   have hd':st.depth<8:=by
    rcases Nat.lt_or_ge st.depth 8 with x|x
    ·exact x
    ·exact absurd ⟨hk,by omega⟩ h8
   have ok1:({next s st with depth:=(next s st).depth+1}:PS).Ok s:=⟨f1.ok.i,f1.ok.pos,f1.ok.more,f1.ok.num,f1.ok.name⟩
   obtain⟨g,hkc⟩:=stmts_ok ok1 (by show st.depth+1≤8;omega) hl e3
   have g2:(st2.depth-1)=st.depth:=by have:=g.fwd.depth;simp at this;rw[this];rfl
   have ok2:({st2 with depth:=st2.depth-1}:PS).Ok s:=⟨g.fwd.ok.i,g.fwd.ok.pos,g.fwd.ok.more,g.fwd.ok.num,g.fwd.ok.name⟩
   have f3:=Fwd.next ok2
   have l3:left s (next s {st2 with depth:=st2.depth-1})<left s st2:=next_lt ok2 hkc (by decide) (by decide)
   have gl:=g.size
   have gl':b'.size+left s st2≤left s (next s st):=gl
   subst e5
   refine⟨⟨f3.ok,by omega,f3.decls.trans g.fwd.decls,f3.freq.trans g.fwd.freq,f3.fseen.trans g.fwd.fseen,f3.rules.trans g.fwd.rules,f3.depth.trans g2,f3.loops.trans g.fwd.loops,fun x=>g.fwd.wrong (f3.wrong x)⟩,
    fun x=>g.w (f3.wrong x),g.form,g.deep,g.nest,by omega⟩
theorem stmts_ok:∀{n:Nat} {st st':PS} {b:Blk},st.Ok s→st.depth≤8→st.loops≤2→stmts s n st= .ok b st'→GotB s st st' b∧st'.t.kind=kClose
 |0,_,_,_,_,_,_,e=>by unfold stmts at e;cases e
 |n+1,st,st',b,h,hd,hl,e=>by
  unfold stmts at e
  split at e
  ·rename_i hk
   injection e with e1 e2
   subst e1 e2
   exact⟨⟨Fwd.refl h,fun _=>trivial,trivial,by simp[Blk.deep];exact hd,by simp[Blk.nest];exact hl,by simp[Blk.size]⟩,hk⟩
  ·obtain⟨x,st1,e1,e2⟩:=bind_ok e
   obtain⟨r,e3,rfl⟩:=map_ok e2
   have g1:=stmt_ok h hd hl e1
   obtain⟨g2,hc⟩:=stmts_ok g1.fwd.ok (by rw[g1.fwd.depth];exact hd) (by rw[g1.fwd.loops];exact hl) e3
   refine⟨⟨g1.fwd.trans g2.fwd,fun y=>(app_W _ _).2 ⟨g1.w (g2.fwd.wrong y),by have:=g2.w y;rw[g1.fwd.decls]at this;exact this⟩,app_Form _ _ g1.form g2.form,?_,?_,?_⟩,hc⟩
   ·have a:=g1.deep;have b:=g2.deep
    rw[g1.fwd.depth]at b
    rw[app_deep];omega
   ·have a:=g1.nest;have b:=g2.nest
    rw[g1.fwd.loops]at b
    rw[app_nest];omega
   ·have a:=g1.size;have b:=g2.size
    rw[app_size];omega
theorem stmt_ok:∀{n:Nat} {st st':PS} {b:Blk},st.Ok s→st.depth≤8→st.loops≤2→stmt s n st= .ok b st'→GotB s st st' b
 |0,_,_,_,_,_,_,e=>by unfold stmt at e;cases e
 |n+1,st,st',b,h,hd,hl,e=>by
  have semi:∀{x:Prim} {st1:PS},Fwd s st st1→left s st1<left s st→(st1.wrong=none→PrimW st.decls x)→((want s kSemi st1).bind fun _ st=>.ok (.prim x .nil) st)=Out.ok b st'→GotB s st st' b:=by
   intro x st1 f l w e
   obtain⟨t,st2,e1,e2⟩:=bind_ok e
   obtain⟨hk,_,rfl⟩:=want_ok e1
   injection e2 with e2 e3
   subst e2 e3
   have f2:=Fwd.next f.ok
   exact prim_got (f.trans f2) (by have:=f2.left;omega) (fun y=>w (f2.wrong y)) hd hl
  have tk:∀{k:Bytes} {st1:PS},st1.Ok s→Fwd s st1 (take s k st1).2:=by
   intro k st1 h1
   unfold take
   split
   ·exact Fwd.next h1
   ·exact Fwd.refl h1
  have nx:∀{k:Bytes},st.t.kind=k→k≠kEnd→k≠kNone→Fwd s st (next s st)∧left s (next s st)<left s st:=fun hk h1 h2=>⟨Fwd.next h,next_lt h hk h1 h2⟩
  have one:∀{k:Bytes} {v:Bool} {x:Int→Prim},st.t.kind=k→k≠kEnd→k≠kNone→(∀q,NameW st.decls v q→PrimW st.decls (x q))→
    ((name s v (next s st)).bind fun q st=>(want s kSemi st).bind fun _ st=>.ok (.prim (x q) .nil) st)=Out.ok b st'→GotB s st st' b:=by
   intro k v x hk h1 h2 hx e
   obtain⟨f,l⟩:=nx hk h1 h2
   obtain⟨q,st1,e1,e2⟩:=bind_ok e
   obtain⟨f1,l1,w1⟩:=name_ok f.ok e1
   exact semi (f.trans f1) (by omega) (fun y=>hx q (w1 y)) e2
  unfold stmt at e
  extract_lets sm at e
  by_cases hk:st.t.kind=kPut
  ·rw[if_pos hk]at e
   obtain⟨f,l⟩:=nx hk (by decide) (by decide)
   obtain⟨q,st1,e1,e2⟩:=bind_ok e
   obtain⟨f1,l1,w1⟩:=name_ok f.ok e1
   have f2:=tk (k:=kTail) f1.ok
   exact semi (x:=.put q (take s kTail st1).1) ((f.trans f1).trans f2) (by have:=f2.left;omega) (fun y=>w1 (f2.wrong y)) e2
  rw[if_neg hk]at e
  by_cases hk:st.t.kind=kEvict
  ·rw[if_pos hk]at e
   exact one (x:=.evict) hk (by decide) (by decide) (fun _ x=>x) e
  rw[if_neg hk]at e
  by_cases hk:st.t.kind=kCool
  ·rw[if_pos hk]at e
   exact one (x:=.cool) hk (by decide) (by decide) (fun _ x=>x) e
  rw[if_neg hk]at e
  by_cases hk:st.t.kind=kShift
  ·rw[if_pos hk]at e
   obtain⟨f,l⟩:=nx hk (by decide) (by decide)
   obtain⟨q,st1,e1,e2⟩:=bind_ok e
   obtain⟨f1,l1,w1⟩:=name_ok f.ok e1
   obtain⟨q',st2,e3,e4⟩:=bind_ok e2
   obtain⟨f2,l2,w2⟩:=name_ok f1.ok e3
   have f3:=tk (k:=kTail) f2.ok
   refine semi (x:=.shift q q' (take s kTail st2).1) (((f.trans f1).trans f2).trans f3) (by have:=f3.left;omega) (fun y=>⟨w1 (f2.wrong (f3.wrong y)),?_⟩) e4
   have:=w2 (f3.wrong y)
   rw[f1.decls]at this
   exact this
  rw[if_neg hk]at e
  by_cases hk:st.t.kind=kInc
  ·rw[if_pos hk]at e
   exact one (x:=.inc) hk (by decide) (by decide) (fun _ x=>x) e
  rw[if_neg hk]at e
  by_cases hk:st.t.kind=kDec
  ·rw[if_pos hk]at e
   exact one (x:=.dec) hk (by decide) (by decide) (fun _ x=>x) e
  rw[if_neg hk]at e
  by_cases hk:st.t.kind=kDrop
  ·rw[if_pos hk]at e
   obtain⟨f,l⟩:=nx hk (by decide) (by decide)
   exact semi (x:=.drop) f l (fun _=>trivial) e
  rw[if_neg hk]at e
  by_cases hk:st.t.kind=kBump
  ·rw[if_pos hk]at e
   obtain⟨f,l⟩:=nx hk (by decide) (by decide)
   exact semi (x:=.bump) f l (fun _=>trivial) e
  rw[if_neg hk]at e
  by_cases hk:st.t.kind=kIf
  ·rw[if_pos hk]at e
   obtain⟨f,l⟩:=nx hk (by decide) (by decide)
   obtain⟨c,st1,e1,e2⟩:=bind_ok e
   obtain⟨f1,l1,w1⟩:=cond_ok f.ok e1
   obtain⟨t,st2,e3,e4⟩:=bind_ok e2
   have d1:st1.depth=st.depth:=(f.trans f1).depth
   have p1:st1.loops=st.loops:=(f.trans f1).loops
   obtain⟨f2,w2,m2,dd2,nn2,z2⟩:=block_ok f1.ok (by omega) (by omega) e3
   split at e4
   ·rename_i hk2
    obtain⟨el,st3,e5,e6⟩:=bind_ok e4
    have f3:=Fwd.next f2.ok
    have l3:=next_lt f2.ok hk2 (by decide) (by decide)
    have d2:(next s st2).depth=st.depth:=(f2.trans f3).depth.trans d1
    have p2:(next s st2).loops=st.loops:=(f2.trans f3).loops.trans p1
    obtain⟨f4,w4,m4,dd4,nn4,z4⟩:=block_ok f3.ok (by omega) (by omega) e5
    injection e6 with e6 e7
    subst e6 e7
    have F:=(((f.trans f1).trans f2).trans f3).trans f4
    refine⟨F,fun y=>?_,⟨m2,m4,trivial,fun x=>by cases x⟩,?_,?_,?_⟩
    ·have y3:=f4.wrong y
     have y2:=f3.wrong y3
     have y1:=f2.wrong y2
     refine⟨w1 y1,?_,?_,trivial⟩
     ·have:=w2 y2;rw[f1.decls]at this;exact this
     ·have:=w4 y;rw[f3.decls,f2.decls,f1.decls]at this;exact this
    ·simp only[Blk.deep,if_true];omega
    ·simp only[Blk.nest];omega
    ·simp only[Blk.size];omega
   ·injection e4 with e6 e7
    subst e6 e7
    refine⟨(f.trans f1).trans f2,fun y=>?_,⟨m2,trivial,trivial,fun _=>rfl⟩,?_,?_,?_⟩
    ·have y1:=f2.wrong y
     refine⟨w1 y1,?_,trivial,trivial⟩
     have:=w2 y;rw[f1.decls]at this;exact this
    ·simp only[Blk.deep,Bool.false_eq_true,if_false];omega
    ·simp only[Blk.nest];omega
    ·simp only[Blk.size];omega
  rw[if_neg hk]at e
  by_cases hk:st.t.kind=kRepeat
  ·rw[if_pos hk]at e
   split at e
   ·cases e
   ·rename_i h2
    obtain⟨f,l⟩:=nx hk (by decide) (by decide)
    obtain⟨k,st1,e1,e2⟩:=bind_ok e
    obtain⟨f1,l1,w1⟩:=number_ok f.ok e1
    obtain⟨t,st2,e3,e4⟩:=bind_ok e2
    obtain⟨hk2,_,rfl⟩:=want_ok e3
    have f2:=Fwd.next f1.ok
    obtain⟨c,st3,e5,e6⟩:=bind_ok e4
    obtain⟨f3,l3,w3⟩:=cond_ok f2.ok e5
    obtain⟨b',st4,e7,e8⟩:=bind_ok e6
    have F3:=((f.trans f1).trans f2).trans f3
    have ok3:({st3 with loops:=st3.loops+1}:PS).Ok s:=⟨f3.ok.i,f3.ok.pos,f3.ok.more,f3.ok.num,f3.ok.name⟩
    have d3:=F3.depth
    have p3:=F3.loops
    obtain⟨f4,w4,m4,dd4,nn4,z4⟩:=block_ok ok3 (by show st3.depth≤8;omega) (by show st3.loops+1≤2;omega) e7
    injection e8 with e8 e9
    subst e8 e9
    have dd4':st3.depth+1+b'.deep≤8:=dd4
    have nn4':st3.loops+1+b'.nest≤2:=nn4
    have z4':b'.size+2+left s st4≤left s st3:=z4
    have z5:left s ({st4 with loops:=st4.loops-1}:PS)=left s st4:=rfl
    have hl2:=f2.left
    refine⟨⟨⟨f4.ok.i,f4.ok.pos,f4.ok.more,f4.ok.num,f4.ok.name⟩,by omega,f4.decls.trans F3.decls,f4.freq.trans F3.freq,f4.fseen.trans F3.fseen,f4.rules.trans F3.rules,f4.depth.trans F3.depth,?_,fun y=>F3.wrong (f4.wrong y)⟩,fun y=>?_,⟨m4,trivial⟩,?_,?_,?_⟩
    ·have:=f4.loops
     show st4.loops-1=st.loops
     simp at this
     omega
    ·have y3:=f4.wrong y
     have y2:=f3.wrong y3
     have y1:=f2.wrong y2
     refine⟨?_,?_,trivial,w1 y1⟩
     ·have:=w3 y3;rw[f2.decls,f1.decls]at this;exact this
     ·have:=w4 y
      have hd3:({st3 with loops:=st3.loops+1}:PS).decls=st.decls:=F3.decls
      rw[hd3]at this;exact this
    ·simp only[Blk.deep];omega
    ·simp only[Blk.nest];omega
    ·simp only[Blk.size];omega
  rw[if_neg hk]at e
  cases e
end
end
end Go.Proofs.YtepoejiigmhlbaaGreatDoor.Ev
namespace Go.Proofs.YtepoejiigmhlbaaGreatDoor.Ev
structure DeclW (d:Decl):Prop where
 kind:d.kind≤2
 name:NameT d.name
 lo:1≤d.max
 hi:d.max≤if d.kind=2 then 99 else 50
structure DeclsW (l:List Decl):Prop where
 len:l.length≤8
 each:∀d∈l,DeclW d
 nodup:(l.map (·.name)).Nodup
def FreqW (seen:Bool) (f:Int):Prop:=if seen then 1≤f∧f≤99 else f=0
structure RuleW (l:List Decl) (x:Int×Blk):Prop where
 key:x.1= -1∨NameW l false x.1
 w:BlkW l x.2
 form:x.2.Form
 deep:1+x.2.deep≤8
 nest:x.2.nest≤2
structure RulesW (l:List Decl) (r:List (Int×Blk)):Prop where
 each:∀x∈r,RuleW l x
 nodup:(r.map (·.1)).Nodup
def sizes (r:List (Int×Blk)):Nat:=(r.map (fun x=>x.2.size)).sum
structure Mid (s:Bytes) (st:PS):Prop where
 ok:st.Ok s
 depth:st.depth=0
 loops:st.loops=0
 dl:st.decls.length+left s st≤701
 rl:st.rules.length+left s st≤701
 sz:sizes st.rules+left s st≤701
 w:st.wrong=none→DeclsW st.decls∧FreqW st.fseen st.freq∧RulesW st.decls st.rules
section
variable {s:Bytes} {st st':PS}
theorem note_parts (e pos:Nat) (st:PS):(note e pos st).decls=st.decls∧(note e pos st).freq=st.freq∧(note e pos st).fseen=st.fseen∧(note e pos st).rules=st.rules∧(note e pos st).depth=st.depth∧(note e pos st).loops=st.loops∧
  left s (note e pos st)=left s st:=by
 unfold note
 cases hw:st.wrong<;>exact⟨rfl,rfl,rfl,rfl,rfl,rfl,rfl⟩
theorem declNote_parts (n:Tok) (h:st.Ok s):Fwd s st (declNote n st)∧left s (declNote n st)=left s st∧((declNote n st).wrong=none→find st.decls n.text<0∧st.decls.length≠8):=by
 unfold declNote
 have h1:Fwd s st (if 0≤find st.decls n.text then note eTwice n.pos st else st)∧left s (if 0≤find st.decls n.text then note eTwice n.pos st else st)=left s st∧
   ((if 0≤find st.decls n.text then note eTwice n.pos st else st).wrong=none→find st.decls n.text<0):=by
  split
  ·exact⟨Fwd.note h _ _,(note_parts _ _ _).2.2.2.2.2.2,fun x=>absurd x (note_wrong _ _ _)⟩
  ·exact⟨Fwd.refl h,rfl,fun _=>by omega⟩
 simp only
 generalize (if 0≤find st.decls n.text then note eTwice n.pos st else st)=st1 at*
 obtain⟨a,b,c⟩:=h1
 split
 ·exact⟨a.trans (Fwd.note a.ok _ _),(note_parts _ _ _).2.2.2.2.2.2.trans b,fun x=>absurd x (note_wrong _ _ _)⟩
 ·rename_i h8
  exact⟨a,b,fun x=>⟨c x,by rw[←a.decls];exact h8⟩⟩
theorem find_neg {l:List Decl} {name:Bytes} (h:find l name<0):name∉l.map (·.name):=by
 intro hm
 obtain⟨d,hd,rfl⟩:=List.mem_map.1 hm
 have:∀(l:List Decl) (k:Nat),d∈l→0≤findFrom d.name l k:=by
  intro l
  induction l with
  |nil=>intro k h;cases h
  |cons x l ih=>
   intro k hx
   rw[findFrom]
   split
   ·omega
   ·rename_i hne
    rcases List.mem_cons.1 hx with rfl|hx
    ·exact absurd rfl hne
    ·exact ih _ hx
 have:=this l 0 hd
 unfold find at h
 omega
theorem decl_mid (h:Mid s st) (hk:isDecl st.t.kind=true) (hr:st.rules=[]) (e:decl s st= .ok () st'):Mid s st'∧st'.rules=[]∧left s st'<left s st:=by
 have hne:st.t.kind≠kEnd∧st.t.kind≠kNone:=by
  constructor
  ·intro x;rw[x]at hk;exact absurd hk (by decide)
  ·intro x;rw[x]at hk;exact absurd hk (by decide)
 have f0:=Fwd.next h.ok
 have l0:=next_left h.ok hne.1 hne.2
 unfold decl at e
 simp only at e
 split at e
 ·obtain⟨n,st1,e1,e2⟩:=bind_ok e
  obtain⟨t,st2,e3,e4⟩:=bind_ok e2
  injection e4 with _ e4
  subst e4
  obtain⟨hk3,_,rfl⟩:=want_ok e3
  have h1:∃x:PS,x=(if(next s st).fseen=true then note eTwice st.t.pos (next s st)else next s st)∧Fwd s (next s st) x∧(x.wrong=none→(next s st).fseen=false):=by
   refine⟨_,rfl,?_⟩
   split
   ·exact⟨Fwd.note f0.ok _ _,fun x=>absurd x (note_wrong _ _ _)⟩
   ·rename_i hf;exact⟨Fwd.refl f0.ok,fun _=>by simpa using hf⟩
  obtain⟨x,hx,f1,w1⟩:=h1
  rw[←hx]at e1
  have ok2:({x with fseen:=true}:PS).Ok s:=⟨f1.ok.i,f1.ok.pos,f1.ok.more,f1.ok.num,f1.ok.name⟩
  obtain⟨f2,l2,w2⟩:=number_ok ok2 e1
  have ok3:({st1 with freq:=n}:PS).Ok s:=⟨f2.ok.i,f2.ok.pos,f2.ok.more,f2.ok.num,f2.ok.name⟩
  have f3:=Fwd.next ok3
  have l1:=f1.left
  have l2':left s st1<left s x:=l2
  have l3:left s (next s {st1 with freq:=n})≤left s st1:=f3.left
  have d1:(next s {st1 with freq:=n}).decls=st.decls:=f3.decls.trans (f2.decls.trans (f1.decls.trans f0.decls))
  have r1:(next s {st1 with freq:=n}).rules=st.rules:=f3.rules.trans (f2.rules.trans (f1.rules.trans f0.rules))
  refine⟨⟨f3.ok,f3.depth.trans (f2.depth.trans (f1.depth.trans (f0.depth.trans h.depth))),f3.loops.trans (f2.loops.trans (f1.loops.trans (f0.loops.trans h.loops))),?_,?_,?_,?_⟩,r1.trans hr,by omega⟩
  ·rw[d1];have:=h.dl;omega
  ·rw[r1];have:=h.rl;omega
  ·rw[r1];have:=h.sz;omega
  ·intro hw
   have y3:=f3.wrong hw
   have y2:=f2.wrong y3
   obtain⟨a,b,c⟩:=h.w (f0.wrong (f1.wrong y2))
   refine⟨by rw[d1];exact a,?_,by rw[d1,r1];exact c⟩
   have fs:(next s {st1 with freq:=n}).fseen=true:=f3.fseen.trans f2.fseen
   have fq:(next s {st1 with freq:=n}).freq=n:=f3.freq
   rw[fs,fq]
   exact w2 y3
 ·obtain⟨n,st1,e1,e2⟩:=bind_ok e
  obtain⟨m,st2,e3,e4⟩:=bind_ok e2
  obtain⟨t,st3,e5,e6⟩:=bind_ok e4
  injection e6 with _ e6
  subst e6
  obtain⟨hk1,rfl,rfl⟩:=want_ok e1
  obtain⟨hk5,_,rfl⟩:=want_ok e5
  have f1:=Fwd.next f0.ok
  obtain⟨f2,l2,w2⟩:=declNote_parts (next s st).t f1.ok
  obtain⟨f3,l3,w3⟩:=number_ok f2.ok e3
  have f4:=Fwd.next f3.ok
  have F:=(((f0.trans f1).trans f2).trans f3).trans f4
  have hle:=F.left
  have l1:=f1.left
  have l4:=f4.left
  have okF:({next s st2 with decls:=(next s st2).decls++[⟨declKind st.t.kind,(next s st).t.text,m⟩]}:PS).Ok s:=⟨f4.ok.i,f4.ok.pos,f4.ok.more,f4.ok.num,f4.ok.name⟩
  have lF:left s ({next s st2 with decls:=(next s st2).decls++[⟨declKind st.t.kind,(next s st).t.text,m⟩]}:PS)=left s (next s st2):=rfl
  have d1:(next s st2).decls=st.decls:=F.decls
  have r1:(next s st2).rules=st.rules:=F.rules
  refine⟨⟨okF,F.depth.trans h.depth,F.loops.trans h.loops,?_,?_,?_,?_⟩,r1.trans hr,by rw[lF];omega⟩
  ·rw[lF];show((next s st2).decls++[_]).length+_≤701
   rw[d1];have:=h.dl;simp;omega
  ·rw[lF];show(next s st2).rules.length+_≤701
   rw[r1];have:=h.rl;omega
  ·rw[lF];show sizes (next s st2).rules+_≤701
   rw[r1];have:=h.sz;omega
  ·intro hw
   have y4:(next s st2).wrong=none:=hw
   have y3:=f4.wrong y4
   have y2:=f3.wrong y3
   obtain⟨a,b,c⟩:=h.w (f0.wrong (f1.wrong (f2.wrong y2)))
   obtain⟨n1,n2⟩:=w2 y2
   have hd2:(next s (next s st)).decls=st.decls:=f1.decls.trans f0.decls
   rw[hd2]at n1 n2
   refine⟨?_,?_,?_⟩
   ·show DeclsW ((next s st2).decls++[_])
    rw[d1]
    refine⟨by have:=a.len;simp;omega,?_,?_⟩
    ·intro d hd
     rcases List.mem_append.1 hd with hd|hd
     ·exact a.each d hd
     ·simp at hd
      subst hd
      refine⟨?_,f0.ok.name hk1,(w3 y3).1,?_⟩
      ·unfold declKind;simp only;split<;>(try split)<;>omega
      ·have:=(w3 y3).2
       unfold declMost at this
       unfold declKind
       simp only
       split at this
       ·rename_i hv;rw[if_pos hv];simpa using this
       ·rename_i hv;rw[if_neg hv]
        split<;>simpa using this
    ·rw[List.map_append,List.nodup_append]
     refine⟨a.nodup,by simp,fun x hx y hy=>?_⟩
     simp at hy
     subst hy
     rintro rfl
     exact find_neg n1 hx
   ·show FreqW (next s st2).fseen (next s st2).freq
    rw[F.fseen,F.freq];exact b
   ·show RulesW ((next s st2).decls++[_]) (next s st2).rules
    rw[r1,hr]
    exact⟨fun x hx=>(by cases hx),(by simp)⟩
theorem declsR_mid:∀(n:Nat) {st st':PS},Mid s st→st.rules=[]→declsR s n st= .ok () st'→Mid s st'∧st'.rules=[]
 |0,_,_,_,_,e=>by cases e
 |n+1,st,st',h,hr,e=>by
  unfold declsR at e
  split at e
  ·rename_i hk
   obtain⟨u,st1,e1,e2⟩:=bind_ok e
   obtain⟨a,b,_⟩:=decl_mid h hk hr e1
   exact declsR_mid n a b e2
  ·injection e with _ e
   subst e
   exact⟨h,hr⟩
theorem ruleOf_none {r:List (Int×Blk)} {k:Int} (h:(ruleOf r k).isSome=false):k∉r.map (·.1):=by
 intro hm
 obtain⟨x,hx,rfl⟩:=List.mem_map.1 hm
 unfold ruleOf at h
 rw[Option.isSome_map,Option.isSome_eq_false_iff,Option.isNone_iff_eq_none,List.find?_eq_none]at h
 exact h x hx (by simp)
theorem ruleHead_mid {k:Int} (h:st.Ok s) (hk:st.t.kind=kOn) (e:ruleHead s st= .ok k st'):
  Fwd s st st'∧left s st'<left s st∧(st'.wrong=none→(k= -1∨NameW st.decls false k)∧k∉st.rules.map (·.1)):=by
 have f0:=Fwd.next h
 have l0:=next_lt h hk (by decide) (by decide)
 unfold ruleHead at e
 simp only at e
 obtain⟨k',st1,e1,e2⟩:=bind_ok e
 injection e2 with e2 e3
 subst e2
 have h1:Fwd s (next s st) st1∧(st1.wrong=none→k'= -1∨NameW st.decls false k'):=by
  split at e1
  ·injection e1 with e1 e4
   subst e1 e4
   exact⟨Fwd.next f0.ok,fun _=>.inl rfl⟩
  ·obtain⟨a,b,c⟩:=name_ok f0.ok e1
   exact⟨a,fun x=>.inr (c x)⟩
 obtain⟨f1,w1⟩:=h1
 have hl:=f1.left
 have hru:st1.rules=st.rules:=f1.rules.trans f0.rules
 split at e3
 ·subst e3
  have f2:=Fwd.note f1.ok eRule st.t.pos
  exact⟨(f0.trans f1).trans f2,by have:=f2.left;omega,fun x=>absurd x (note_wrong _ _ _)⟩
 ·rename_i hc
  subst e3
  refine⟨f0.trans f1,by omega,fun x=>⟨w1 x,ruleOf_none ?_⟩⟩
  rw[x,hru]at hc
  simpa using hc
theorem rule_mid {n:Nat} (h:Mid s st) (hk:st.t.kind=kOn) (e:rule s n st= .ok () st'):Mid s st'∧left s st'<left s st∧st'.decls=st.decls:=by
 unfold rule at e
 obtain⟨k,st1,e1,e2⟩:=bind_ok e
 obtain⟨b,st2,e3,e4⟩:=bind_ok e2
 injection e4 with _ e4
 obtain⟨f1,l1,w1⟩:=ruleHead_mid h.ok hk e1
 obtain⟨f2,w2,m2,dd2,nn2,z2⟩:=block_ok f1.ok (by rw[f1.depth,h.depth];omega) (by rw[f1.loops,h.loops];omega) e3
 rw[f1.depth,h.depth]at dd2
 rw[f1.loops,h.loops]at nn2
 have F:=f1.trans f2
 split at e4
 ·rename_i hw
  have hw':st2.wrong=none:=by simpa using hw
  subst e4
  have lF:left s ({st2 with rules:=st2.rules++[(k,b)]}:PS)=left s st2:=rfl
  refine⟨⟨⟨F.ok.i,F.ok.pos,F.ok.more,F.ok.num,F.ok.name⟩,F.depth.trans h.depth,F.loops.trans h.loops,?_,?_,?_,?_⟩,by omega,F.decls⟩
  ·rw[lF];show st2.decls.length+_≤701
   rw[F.decls];have:=h.dl;omega
  ·rw[lF];show(st2.rules++[(k,b)]).length+_≤701
   rw[F.rules];have:=h.rl;simp;omega
  ·rw[lF];show sizes (st2.rules++[(k,b)])+_≤701
   rw[F.rules];have:=h.sz;unfold sizes at*;simp;omega
  ·intro _
   obtain⟨a,b',c⟩:=h.w (F.wrong hw')
   obtain⟨x1,x2⟩:=w1 (f2.wrong hw')
   refine⟨by rw[show({st2 with rules:=st2.rules++[(k,b)]}:PS).decls=st.decls from F.decls];exact a,?_,?_⟩
   ·show FreqW st2.fseen st2.freq
    rw[F.fseen,F.freq];exact b'
   ·show RulesW st2.decls (st2.rules++[(k,b)])
    rw[F.decls,F.rules]
    refine⟨fun x hx=>?_,?_⟩
    ·rcases List.mem_append.1 hx with hx|hx
     ·exact c.each x hx
     ·simp at hx
      subst hx
      exact⟨x1,by have:=w2 hw';rw[f1.decls]at this;exact this,m2,by show 1+b.deep≤8;omega,by show b.nest≤2;omega⟩
    ·rw[List.map_append,List.nodup_append]
     refine⟨c.nodup,by simp,fun x hx y hy=>?_⟩
     simp at hy
     subst hy
     rintro rfl
     exact x2 hx
 ·rename_i hw
  subst e4
  refine⟨⟨F.ok,F.depth.trans h.depth,F.loops.trans h.loops,by rw[F.decls];have:=h.dl;omega,by rw[F.rules];have:=h.rl;omega,by rw[F.rules];have:=h.sz;omega,fun x=>by simp[x]at hw⟩,by omega,F.decls⟩
theorem rulesR_mid {m:Nat}:∀(n:Nat) {st st':PS},Mid s st→rulesR s m n st= .ok () st'→Mid s st'
 |0,_,_,_,e=>by cases e
 |n+1,st,st',h,e=>by
  unfold rulesR at e
  split at e
  ·rename_i hk
   obtain⟨u,st1,e1,e2⟩:=bind_ok e
   exact rulesR_mid n (rule_mid h hk e1).1 e2
  ·injection e with _ e
   subst e
   exact h
theorem start_mid (s:Bytes) (h:s.length≤700):Mid s (start s):=by
 have hl:left s (start s)≤701:=by unfold left;omega
 refine⟨start_ok s,rfl,rfl,by simpa[start]using hl,by simpa[start]using hl,by simpa[start,sizes]using hl,fun _=>⟨⟨by simp[start],fun d hd=>(by cases hd),by simp[start]⟩,rfl,⟨fun x hx=>(by cases hx),by simp[start]⟩⟩⟩
structure PolW (p:Policy):Prop where
 decls:DeclsW p.decls
 freq:0≤p.freq∧p.freq≤99
 rules:RulesW p.decls p.rules
 miss:(missOf p.rules).isSome
 size:sizes p.rules≤700
 rl:p.rules.length≤700
theorem read_W {p:Policy} (h:read s= .ok p):PolW p:=by
 unfold read at h
 split at h
 ·cases h
 ·rename_i h700
  split at h
  ·cases h
  ·rename_i t st e
   split at h
   ·cases h
   ·rename_i hw
    split at h
    ·cases h
    ·rename_i hm
     injection h with h
     subst h
     unfold readAll at e
     obtain⟨u,st1,e1,e2⟩:=bind_ok e
     obtain⟨u2,st2,e3,e4⟩:=bind_ok e2
     obtain⟨a,b⟩:=declsR_mid 702 (start_mid s (by omega)) rfl e1
     have c:=rulesR_mid 702 a e3
     obtain⟨_,_,rfl⟩:=want_ok e4
     have f:=Fwd.next c.ok
     obtain⟨x,y,z⟩:=c.w (f.wrong hw)
     have hp:=left_pos c.ok
     refine⟨x,?_,z,by simpa[Option.isSome_iff_ne_none]using hm,?_,?_⟩
     ·show 0≤st2.freq∧st2.freq≤99
      unfold FreqW at y
      split at y<;>omega
     ·have:=c.sz;show sizes st2.rules≤700;omega
     ·have:=c.rl;show st2.rules.length≤700;omega
end
end Go.Proofs.YtepoejiigmhlbaaGreatDoor.Ev
namespace Go.Proofs.YtepoejiigmhlbaaGreatDoor.Ev
structure SInv (p:Policy) (s:St):Prop where
 q:s.q.length=p.decls.length
 v:s.vars.length=p.decls.length
 fr:∀(k:Nat) l,s.q[k]?=some l→∀e∈l,0≤e.freq∧e.freq≤p.freq
 vr:∀(k:Nat) (x:Int),s.vars[k]?=some x→0≤x∧x≤(declAt p.decls (k:Int)).max
structure AR where
 A:Arena
 vars:List Int
 out:List Int
def alen (A:Arena) (q:Int):Nat:=A.len q.toNat
def afull (l:List Decl) (A:Arena) (q:Int):Bool:=decide ((declAt l q).max≤(alen A q:Int))
def alast (p:Policy) (key:Int) (x:Prim) (r:AR):Except Nat AR:=
 match x with
 | .cool _=>.ok {r with A:=r.A.tune key (-1) p.freq}
 | .evict q=>.ok {r with A:=r.A.out key,out:=if resident p.decls q then r.out++[key]else r.out}
 | .shift q t tl=>
  if afull p.decls (r.A.out key) t then .error eFull
  else .ok {r with A:=(r.A.out key).in_ key (r.A.outFreq key) t.toNat tl,out:=if resident p.decls q&&!resident p.decls t then r.out++[key]else r.out}
 |_=>.ok r
def aprim (p:Policy) (key:Int) (x:Prim) (r:AR):Except Nat AR:=
 match x with
 | .put q t=>
  if afull p.decls (r.A.out key) q then .error eFull
  else .ok {r with A:=(r.A.out key).in_ key (r.A.outFreq key) q.toNat t,out:=if resident p.decls (r.A.where_ key)&&!resident p.decls q then r.out++[key]else r.out}
 | .drop=>.ok {r with A:=r.A.out key,out:=if resident p.decls (r.A.where_ key)then r.out++[key]else r.out}
 | .inc v=>.ok {r with vars:=r.vars.set v.toNat (clampUp ((r.vars[v.toNat]?).getD 0) 1 (declAt p.decls v).max)}
 | .dec v=>.ok {r with vars:=r.vars.set v.toNat (clampUp ((r.vars[v.toNat]?).getD 0) (-1) (declAt p.decls v).max)}
 | .bump=>.ok {r with A:=r.A.tune key 1 p.freq}
 | .cool q=>if alen r.A q=0 then .error eEmpty else alast p (r.A.tail q.toNat) (.cool q) r
 | .evict q=>if alen r.A q=0 then .error eEmpty else alast p (r.A.tail q.toNat) (.evict q) r
 | .shift q t tl=>if alen r.A q=0 then .error eEmpty else alast p (r.A.tail q.toNat) (.shift q t tl) r
section
variable {A:Arena} {ns:List (List Nat)} {p:Policy} {s:St}
theorem eraseIdx_mid {α:Type} (l1 l2:List α) (x:α):(l1++x::l2).eraseIdx l1.length=l1++l2:=by
 rw[List.eraseIdx_append_of_length_le (Nat.le_refl _)]
 simp
theorem queue_toNat (s:St) (k:Int):s.queue k=(s.q[k.toNat]?).getD []:=rfl
theorem queue_nat (s:St) (k:Nat):s.queue (k:Int)=(s.q[k]?).getD []:=rfl
theorem out_st (h:AInv A ns s.q) (key:Int):
  (∀n,A.idx key=some n→∃q,A.CanUnlink n q)∧(A.out key).idx key=none∧(A.out key).qs.length=A.qs.length∧
  match s.find key with
  |none=>A.out key=A∧A.outFreq key=0∧A.where_ key= -1
  |some (k,i)=>(∃ns',AInv (A.out key) ns' (s.out k i).q)∧A.outFreq key=(entAt (s.queue k) i).freq∧(entAt (s.queue k) i).key=key∧A.where_ key=k∧(∃l,s.q[k]?=some l∧i<l.length):=by
 have hfind:s.find key=(⟨s.q,s.vars⟩:St).find key:=rfl
 cases hi:A.idx key with
 |none=>
  have e:A.out key=A:=by unfold Arena.out;rw[hi]
  rw[hfind,h.find_none hi s.vars,e]
  exact⟨fun n hn=>(by cases hn),hi,rfl,rfl,by unfold Arena.outFreq;rw[hi],by unfold Arena.where_;rw[hi]⟩
 |some n=>
  obtain⟨k,l1,l2,a,b,c,d⟩:=h.find_some hi s.vars
  obtain⟨x1,x2,x3⟩:=h.outAt hi a
  have e:A.out key=A.outAt key n:=by unfold Arena.out;rw[hi]
  have hq:s.queue (k:Int)=(l1++n::l2).map (entOf A):=by rw[queue_nat,h.at_q a];rfl
  rw[hfind,b,e]
  refine⟨fun m hm=>(by injection hm with hm;subst hm;exact⟨k,x2⟩),?_,?_,?_⟩
  ·have:=idx_erase h.atn key key
   rw[if_pos rfl]at this
   exact this
  ·rw[←x1.len,List.length_set,h.len]
  ·refine⟨⟨ns.set k (l1++l2),?_⟩,?_,?_,?_,⟨_,h.at_q a,by simp⟩⟩
   ·have e2:(s.out k l1.length).q=s.q.set k ((l1++l2).map (entOf A)):=by
     unfold St.out
     simp only
     rw[h.at_q a]
     simp only[Option.getD_some]
     congr 1
     have:=eraseIdx_mid (l1.map (entOf A)) (l2.map (entOf A)) (entOf A n)
     simpa using this
    rw[e2]
    exact x1
   ·rw[hq,entAt_map]
    unfold Arena.outFreq
    rw[hi]
    exact x3
   ·rw[hq,entAt_map];exact c
   ·unfold Arena.where_;rw[hi];exact d
theorem in_st (h:AInv A ns s.q) {key f q:Int} (t:Bool) (hi:A.idx key=none) (hq:Ix s.q.length q) (hf:0≤f∧f≤1000) (h50:(s.queue q).length+1≤50):
  A.CanIn key f q.toNat∧∃ns',AInv (A.in_ key f q.toNat t) ns' (s.setQueue q (if t then s.queue q++[⟨key,f⟩]else⟨key,f⟩::s.queue q)).q:=by
 obtain⟨l,hl⟩:=h.get (k:=q.toNat) (by rw[←h.qlen];unfold Ix at hq;omega)
 have e:s.queue q=l.map (entOf A):=by rw[queue_toNat,h.at_q hl];rfl
 rw[e]at h50 ⊢
 obtain⟨a,b⟩:=h.in_ t hi hl hf (by simpa using h50)
 exact⟨a,_,b⟩
theorem alen_st (h:AInv A ns s.q) {q:Int} (hq:Ix s.q.length q):alen A q=(s.queue q).length:=by
 unfold alen
 have:=h.len_ s.vars (k:=q.toNat) (by rw[←h.qlen];unfold Ix at hq;omega)
 rw[this]
 unfold Ix at hq
 have e:((q.toNat:Nat):Int)=q:=by omega
 rw[e]
end
theorem set_self {α:Type} {l:List α} {k:Nat} {x:α} (h:l[k]?=some x):l.set k x=l:=by
 apply List.ext_getElem?
 intro j
 rw[List.getElem?_set]
 split
 ·rename_i e;subst e
  split
  ·exact h.symm
  ·rw[List.getElem?_eq_none (by omega)]
 ·rfl
section
variable {A:Arena} {ns:List (List Nat)} {p:Policy} {s:St}
theorem tune_st (h:AInv A ns s.q) (key by_ most:Int) (hm:0≤most∧most≤99) (hfr:∀(k:Nat) l,s.q[k]?=some l→∀e∈l,0≤e.freq∧e.freq≤most) (hb:by_=1∨by_= -1):
  match s.find key with
  |none=>A.tune key by_ most=A
  |some (k,i)=>∃l,s.q[k]?=some l∧i<l.length∧∃ns',AInv (A.tune key by_ most) ns' (s.q.set k (setFreq l i (clampUp (entAt l i).freq by_ most))):=by
 have hfind:s.find key=(⟨s.q,s.vars⟩:St).find key:=rfl
 cases hi:A.idx key with
 |none=>
  rw[hfind,h.find_none hi s.vars]
  unfold Arena.tune
  rw[hi]
 |some n=>
  obtain⟨k,l1,l2,a,b,c,d⟩:=h.find_some hi s.vars
  rw[hfind,b]
  refine⟨_,h.at_q a,by simp,ns,?_⟩
  have e:A.tune key by_ most=A.setNode n {(A.node n)with freq:=clampUp (A.node n).freq by_ most}:=by unfold Arena.tune;rw[hi]
  rw[e]
  have hf:=hfr k _ (h.at_q a) (entOf A n) (by simp)
  have hf':0≤(A.node n).freq∧(A.node n).freq≤most:=hf
  have:=h.setFreq (clampUp (A.node n).freq by_ most) a (by unfold clampUp;omega)
  unfold setFreq
  rw[entAt_map]
  exact this
theorem max_le (hp:PolW p) {q:Int} (hq:Ix p.decls.length q):1≤(declAt p.decls q).max∧(declAt p.decls q).max≤99∧((declAt p.decls q).kind≠2→(declAt p.decls q).max≤50):=by
 unfold Ix at hq
 have hl:q.toNat<p.decls.length:=by omega
 have hd:=hp.decls.each _ (List.getElem_mem hl)
 have e:declAt p.decls q=p.decls[q.toNat]:=by unfold declAt;rw[List.getElem?_eq_getElem hl];rfl
 rw[e]
 have:=hd.hi
 refine⟨hd.lo,?_,fun h=>?_⟩
 ·split at this<;>omega
 ·rw[if_neg h]at this;exact this
theorem SInv.set_queue (hs:SInv p s) {k:Nat} {l:List Ent} (hl:∀e∈l,0≤e.freq∧e.freq≤p.freq):SInv p {s with q:=s.q.set k l}:=by
 refine⟨by simpa using hs.q,hs.v,fun j m hj e he=>?_,hs.vr⟩
 rcases set_get hj with⟨_,_,rfl⟩|⟨_,hj'⟩
 ·exact hl e he
 ·exact hs.fr j m hj' e he
theorem SInv.queue (hs:SInv p s) (k:Int):∀e∈s.queue k,0≤e.freq∧e.freq≤p.freq:=by
 intro e he
 rw[queue_toNat]at he
 cases hq:s.q[k.toNat]? with
 |none=>rw[hq]at he;cases he
 |some l=>rw[hq]at he;exact hs.fr _ _ hq e he
theorem SInv.out (hs:SInv p s) (k i:Nat):SInv p (s.out k i):=by
 unfold St.out
 refine hs.set_queue (fun e he=>?_)
 have:=List.mem_of_mem_eraseIdx he
 exact hs.queue k e (by rw[queue_nat];exact this)
theorem entAt_mem {l:List Ent} {i:Nat} (h:i<l.length):entAt l i∈l:=by
 unfold entAt
 rw[List.getElem?_eq_getElem h]
 exact List.getElem_mem h
theorem ent_eta (e:Ent) {key f:Int} (h1:e.key=key) (h2:e.freq=f):e=⟨key,f⟩:=by
 cases e;simp at h1 h2;subst h1 h2;rfl
theorem dropLast_eraseIdx {α:Type} (l:List α):l.eraseIdx (l.length-1)=l.dropLast:=by
 rcases List.eq_nil_or_concat l with h|⟨l0,a,h⟩
 ·subst h;rfl
 ·rw[List.concat_eq_append]at h
  subst h
  have:=eraseIdx_mid l0 [] a
  simpa using this
theorem leaves_eq (l:List Decl) (f key:Int) (r:Run):Run.leaves l f key r=⟨r.s,if resident l f then r.gone++[key]else r.gone⟩:=by
 unfold Run.leaves;split<;>rfl
theorem comes_st (h:AInv A ns s.q) (hs:SInv p s) (hp:PolW p) {key f q from_:Int} (t:Bool) (out:List Int) (hi:A.idx key=none) (hq:Ix p.decls.length q) (hqq:(declAt p.decls q).kind≠2) (hf:0≤f∧f≤p.freq):
  afull p.decls A q=decide ((declAt p.decls q).max≤((s.queue q).length:Int))∧
  (comes p.decls ⟨key,f⟩ from_ q t ⟨s,out⟩= .error eFull∧afull p.decls A q=true∨
   ∃r',comes p.decls ⟨key,f⟩ from_ q t ⟨s,out⟩= .ok r'∧afull p.decls A q=false∧r'.gone=(if resident p.decls from_&&!resident p.decls q then out++[key]else out)∧r'.s.vars=s.vars∧
    A.CanIn key f q.toNat∧(∃ns',AInv (A.in_ key f q.toNat t) ns' r'.s.q)∧SInv p r'.s):=by
 have hq':Ix s.q.length q:=by rw[hs.q];exact hq
 have e:afull p.decls A q=decide ((declAt p.decls q).max≤((s.queue q).length:Int)):=by unfold afull;rw[alen_st h hq']
 refine⟨e,?_⟩
 obtain⟨m1,m2,m3⟩:=max_le hp hq
 have m3:=m3 hqq
 have hfq:=hp.freq
 unfold comes
 by_cases hfull:(declAt p.decls q).max≤((s.queue q).length:Int)
 ·left
  rw[if_pos hfull,e]
  exact⟨rfl,by simpa using hfull⟩
 ·right
  rw[if_neg hfull,e]
  obtain⟨a,b⟩:=in_st h t hi hq' ⟨hf.1,by omega⟩ (by omega)
  have hmem:∀x∈(if t then s.queue q++[⟨key,f⟩]else⟨key,f⟩::s.queue q),0≤x.freq∧x.freq≤p.freq:=by
   intro x hx
   have:x∈s.queue q∨x=⟨key,f⟩:=by
    cases t
    ·simp at hx;exact hx.elim .inr .inl
    ·simp at hx;exact hx
   rcases this with h1|h1
   ·exact hs.queue q x h1
   ·subst h1;exact hf
  have hS:SInv p (s.setQueue q (if t then s.queue q++[⟨key,f⟩]else⟨key,f⟩::s.queue q)):=hs.set_queue hmem
  refine⟨_,rfl,by simpa using hfull,?_,?_,a,?_,?_⟩
  ·cases hr:resident p.decls q with
   |true=>simp
   |false=>simp[leaves_eq]
  ·simp only[leaves_eq];split<;>rfl
  ·simp only[leaves_eq];split<;>exact b
  ·simp only[leaves_eq];split<;>exact hS
theorem var_some (hs:SInv p s) {v:Int} (hv:Ix p.decls.length v):∃x,s.vars[v.toNat]?=some x∧s.var v=x∧0≤x∧x≤(declAt p.decls v).max:=by
 have hl:v.toNat<s.vars.length:=by rw[hs.v];unfold Ix at hv;omega
 have h1:=List.getElem?_eq_getElem hl
 have h2:=hs.vr _ _ h1
 have e:((v.toNat:Nat):Int)=v:=by unfold Ix at hv;omega
 rw[e]at h2
 exact⟨_,h1,by unfold St.var;rw[h1];rfl,h2⟩
theorem SInv.set_var (hs:SInv p s) {v x:Int} (hv:Ix p.decls.length v) (hx:0≤x∧x≤(declAt p.decls v).max):SInv p {s with vars:=s.vars.set v.toNat x}:=by
 refine⟨hs.q,by simpa using hs.v,hs.fr,fun j y hj=>?_⟩
 rcases set_get hj with⟨rfl,_,rfl⟩|⟨_,hj'⟩
 ·have e:((v.toNat:Nat):Int)=v:=by unfold Ix at hv;omega
  rw[e];exact hx
 ·exact hs.vr j y hj'
theorem prim_st (h:AInv A ns s.q) (hs:SInv p s) (hp:PolW p) (key:Int) (x:Prim) (hx:PrimOk p.decls x) (out:List Int):
  match prim p key x ⟨s,out⟩with
  | .error e=>aprim p key x ⟨A,s.vars,out⟩= .error e
  | .ok r'=>∃A' ns',aprim p key x ⟨A,s.vars,out⟩= .ok ⟨A',r'.s.vars,r'.gone⟩∧AInv A' ns' r'.s.q∧SInv p r'.s:=by
 have hfq:=hp.freq
 cases x with
 |put q t=>
  obtain⟨_,o2,o3,o4⟩:=out_st h key
  unfold prim aprim
  dsimp only
  cases hfd:s.find key with
  |none=>
   rw[hfd]at o4
   obtain⟨e1,e2,e3⟩:=o4
   rw[e1]at o2 ⊢
   rw[e2,e3]
   obtain⟨_,c⟩:=comes_st (from_:= -1) h hs hp t out o2 hx.1 hx.2 ⟨Int.le_refl 0,hfq.1⟩
   rcases c with⟨c1,c2⟩|⟨r',c1,c2,c3,c4,c5,⟨ns',c6⟩,c7⟩
   ·simp only[c1,c2,if_true]
   ·simp only[c1,c2,Bool.false_eq_true,if_false]
    exact⟨_,ns',by rw[c3,c4],c6,c7⟩
  |some ki=>
   obtain⟨k,i⟩:=ki
   dsimp only
   rw[hfd]at o4
   obtain⟨⟨ns1,e0⟩,e2,e3,e4,l,e5,e6⟩:=o4
   have hm:entAt (s.queue (k:Int)) i∈s.queue (k:Int):=entAt_mem (by rw[queue_nat,e5];exact e6)
   have hfr:=hs.queue (k:Int) _ hm
   rw[←e2]at hfr
   rw[ent_eta _ e3 e2.symm,e4]
   obtain⟨_,c⟩:=comes_st (s:=s.out k i) (from_:=k) e0 (hs.out k i) hp t out o2 hx.1 hx.2 hfr
   rcases c with⟨c1,c2⟩|⟨r',c1,c2,c3,c4,c5,⟨ns',c6⟩,c7⟩
   ·simp only[c1,c2,if_true]
   ·simp only[c1,c2,Bool.false_eq_true,if_false]
    exact⟨_,ns',by rw[c3,c4];rfl,c6,c7⟩
 |drop=>
  obtain⟨_,o2,o3,o4⟩:=out_st h key
  unfold prim aprim
  dsimp only
  cases hfd:s.find key with
  |none=>
   rw[hfd]at o4
   obtain⟨e1,e2,e3⟩:=o4
   rw[e1,e3]
   exact⟨A,ns,rfl,h,hs⟩
  |some ki=>
   obtain⟨k,i⟩:=ki
   dsimp only
   rw[hfd]at o4
   obtain⟨⟨ns1,e0⟩,e2,e3,e4,_⟩:=o4
   rw[e4]
   simp only[leaves_eq]
   exact⟨_,ns1,rfl,e0,hs.out k i⟩
 |inc v=>
  obtain⟨y,y1,y2,y3,y4⟩:=var_some hs hx
  unfold prim aprim
  dsimp only
  simp only[y1,y2,Option.getD_some]
  have e:clampUp y 1 (declAt p.decls v).max=if y<(declAt p.decls v).max then y+1 else y:=by unfold clampUp;split<;>omega
  rw[e]
  split
  ·exact⟨A,ns,rfl,h,hs.set_var hx (by omega)⟩
  ·rw[set_self y1];exact⟨A,ns,rfl,h,hs⟩
 |dec v=>
  obtain⟨y,y1,y2,y3,y4⟩:=var_some hs hx
  unfold prim aprim
  dsimp only
  simp only[y1,y2,Option.getD_some]
  have e:clampUp y (-1) (declAt p.decls v).max=if 0<y then y-1 else y:=by unfold clampUp;split<;>omega
  rw[e]
  split
  ·exact⟨A,ns,rfl,h,hs.set_var hx (by omega)⟩
  ·rw[set_self y1];exact⟨A,ns,rfl,h,hs⟩
 |bump=>
  have tt:=tune_st h key 1 p.freq hfq hs.fr (.inl rfl)
  unfold prim aprim
  dsimp only
  cases hfd:s.find key with
  |none=>rw[hfd]at tt;rw[tt];exact⟨A,ns,rfl,h,hs⟩
  |some ki=>
   obtain⟨k,i⟩:=ki
   dsimp only
   rw[hfd]at tt
   obtain⟨l,t1,t2,ns',t3⟩:=tt
   have hq:s.queue (k:Int)=l:=by rw[queue_nat,t1];rfl
   simp only[hq]
   have hfr:=hs.fr k l t1 _ (entAt_mem t2)
   have e:clampUp (entAt l i).freq 1 p.freq=if(entAt l i).freq<p.freq then(entAt l i).freq+1 else(entAt l i).freq:=by unfold clampUp;split<;>omega
   rw[e]at t3
   split
   ·rename_i hlt
    rw[if_pos hlt]at t3
    refine⟨_,ns',rfl,t3,hs.set_queue (fun x hx=>?_)⟩
    rcases List.mem_or_eq_of_mem_set hx with hx|rfl
    ·exact hs.fr k l t1 x hx
    ·simp;omega
   ·rename_i hlt
    rw[if_neg hlt]at t3
    have e2:setFreq l i (entAt l i).freq=l:=by unfold setFreq;exact set_self (by unfold entAt;rw[List.getElem?_eq_getElem t2];rfl)
    rw[e2,set_self t1]at t3
    exact⟨_,ns',rfl,t3,hs⟩
 |cool q=>
  have hq':Ix s.q.length q:=by rw[hs.q];exact hx
  unfold prim aprim
  dsimp only
  rw[alen_st h hq']
  by_cases hne:s.queue q=[]
  ·simp[hne]
  ·have hl0:(s.queue q).length≠0:=fun e=>hne (List.length_eq_zero_iff.1 e)
   rw[if_neg hne,if_neg hl0]
   have eq:((q.toNat:Nat):Int)=q:=by have hx':Ix p.decls.length q:=hx;unfold Ix at hx';omega
   have hk:q.toNat<A.qs.length:=by rw[←h.qlen];unfold Ix at hq';omega
   have hne':(⟨s.q,s.vars⟩:St).queue (q.toNat:Int)≠ []:=by rw[eq];exact hne
   have htl:=h.tail_ s.vars hk hne'
   have hft:=h.find_tail s.vars hk hne'
   rw[eq]at htl hft
   have htl':A.tail q.toNat=(lastEnt (s.queue q)).key:=htl
   have hft':s.find (lastEnt (s.queue q)).key=some (q.toNat,(s.queue q).length-1):=hft
   have tt:=tune_st h (lastEnt (s.queue q)).key (-1) p.freq hfq hs.fr (.inr rfl)
   rw[hft']at tt
   obtain⟨l,t1,t2,ns',t3⟩:=tt
   have hq:s.queue q=l:=by rw[queue_toNat,t1];rfl
   rw[htl']
   unfold alast
   simp only[hq]at*
   have hfr:=hs.fr _ l t1 _ (entAt_mem t2)
   have e:clampUp (entAt l (l.length-1)).freq (-1) p.freq=if 0<(entAt l (l.length-1)).freq then(entAt l (l.length-1)).freq-1 else(entAt l (l.length-1)).freq:=by unfold clampUp;split<;>omega
   rw[e]at t3
   have el:lastEnt l=entAt l (l.length-1):=rfl
   split
   ·rename_i hlt
    rw[el]at hlt
    rw[if_pos hlt]at t3
    refine⟨_,ns',rfl,t3,hs.set_queue (fun x hx=>?_)⟩
    rcases List.mem_or_eq_of_mem_set hx with hx|rfl
    ·exact hs.fr _ l t1 x hx
    ·simp[el];omega
   ·rename_i hlt
    rw[el]at hlt
    rw[if_neg hlt]at t3
    have e2:setFreq l (l.length-1) (entAt l (l.length-1)).freq=l:=by unfold setFreq;exact set_self (by unfold entAt;rw[List.getElem?_eq_getElem t2];rfl)
    rw[e2,set_self t1]at t3
    exact⟨_,ns',rfl,t3,hs⟩
 |evict q=>
  have hq':Ix s.q.length q:=by rw[hs.q];exact hx
  unfold prim aprim
  dsimp only
  rw[alen_st h hq']
  by_cases hne:s.queue q=[]
  ·simp[hne]
  ·have hl0:(s.queue q).length≠0:=fun e=>hne (List.length_eq_zero_iff.1 e)
   rw[if_neg hne,if_neg hl0]
   have eq:((q.toNat:Nat):Int)=q:=by have hx':Ix p.decls.length q:=hx;unfold Ix at hx';omega
   have hk:q.toNat<A.qs.length:=by rw[←h.qlen];unfold Ix at hq';omega
   have hne':(⟨s.q,s.vars⟩:St).queue (q.toNat:Int)≠ []:=by rw[eq];exact hne
   have htl:=h.tail_ s.vars hk hne'
   have hft:=h.find_tail s.vars hk hne'
   rw[eq]at htl hft
   have htl':A.tail q.toNat=(lastEnt (s.queue q)).key:=htl
   have hft':s.find (lastEnt (s.queue q)).key=some (q.toNat,(s.queue q).length-1):=hft
   obtain⟨_,o2,o3,o4⟩:=out_st h (lastEnt (s.queue q)).key
   rw[hft']at o4
   obtain⟨⟨ns1,e0⟩,e2,e3,e4,_⟩:=o4
   have eo:s.out q.toNat ((s.queue q).length-1)=s.setQueue q (s.queue q).dropLast:=by
    unfold St.out St.setQueue
    rw[←dropLast_eraseIdx]
    rfl
   rw[eo]at e0
   rw[htl']
   unfold alast
   simp only[leaves_eq]
   exact⟨_,ns1,rfl,e0,by rw[←eo];exact hs.out _ _⟩
 |shift q t tl=>
  have hq':Ix s.q.length q:=by rw[hs.q];exact hx.1
  have hx1:=hx.1
  unfold prim aprim
  dsimp only
  rw[alen_st h hq']
  by_cases hne:s.queue q=[]
  ·simp[hne]
  ·have hl0:(s.queue q).length≠0:=fun e=>hne (List.length_eq_zero_iff.1 e)
   rw[if_neg hne,if_neg hl0]
   have eq:((q.toNat:Nat):Int)=q:=by unfold Ix at hx1;omega
   have hk:q.toNat<A.qs.length:=by rw[←h.qlen];unfold Ix at hq';omega
   have hne':(⟨s.q,s.vars⟩:St).queue (q.toNat:Int)≠ []:=by rw[eq];exact hne
   have htl:=h.tail_ s.vars hk hne'
   have hft:=h.find_tail s.vars hk hne'
   rw[eq]at htl hft
   have htl':A.tail q.toNat=(lastEnt (s.queue q)).key:=htl
   have hft':s.find (lastEnt (s.queue q)).key=some (q.toNat,(s.queue q).length-1):=hft
   obtain⟨_,o2,o3,o4⟩:=out_st h (lastEnt (s.queue q)).key
   rw[hft']at o4
   obtain⟨⟨ns1,e0⟩,e2,e3,e4,_⟩:=o4
   have eo:s.out q.toNat ((s.queue q).length-1)=s.setQueue q (s.queue q).dropLast:=by
    unfold St.out St.setQueue
    rw[←dropLast_eraseIdx]
    rfl
   have hs1:SInv p (s.setQueue q (s.queue q).dropLast):=by rw[←eo];exact hs.out _ _
   rw[eo]at e0
   rw[eq]at e2 e3
   have hm:lastEnt (s.queue q)∈s.queue q:=entAt_mem (by omega)
   have hfr:=hs.queue q _ hm
   have e2':A.outFreq (lastEnt (s.queue q)).key=(lastEnt (s.queue q)).freq:=e2
   rw[htl']
   unfold alast
   rw[e2']
   obtain⟨_,c⟩:=comes_st (s:=s.setQueue q (s.queue q).dropLast) (from_:=q) e0 hs1 hp tl out o2 hx.2.1 hx.2.2 hfr
   have ee:(⟨(lastEnt (s.queue q)).key,(lastEnt (s.queue q)).freq⟩:Ent)=lastEnt (s.queue q):=rfl
   rw[ee]at c
   rcases c with⟨c1,c2⟩|⟨r',c1,c2,c3,c4,c5,⟨ns',c6⟩,c7⟩
   ·simp only[c1,c2,if_true]
   ·simp only[c1,c2,Bool.false_eq_true,if_false]
    exact⟨_,ns',by rw[c3,c4];rfl,c6,c7⟩
end
end Go.Proofs.YtepoejiigmhlbaaGreatDoor.Ev
namespace Go.Proofs.YtepoejiigmhlbaaGreatDoor.Ev
def cntUp (c:Cnt) (hit:Bool) (n:Nat):Cnt:=⟨c.hits+(if hit then 1 else 0),c.misses+(if hit then 0 else 1),c.evicted+n⟩
theorem most_le {l:List Decl}:∀(b:Blk) (k:Nat),BlkW l b→b.nest≤k→b.most≤50^k*b.size
 | .nil,k,_,_=>Nat.zero_le _
 | .prim x r,k,h,hn=>by
  have h1:=most_le r k h.2 hn
  have h2:1≤50^k:=Nat.one_le_pow _ _ (by omega)
  simp only[Blk.most,Blk.size,Nat.mul_add,Nat.mul_one]
  omega
 | .ite c t o e r,k,h,hn=>by
  simp only[Blk.nest]at hn
  have h1:=most_le t k h.2.1 (by omega)
  have h2:=most_le e k h.2.2.1 (by omega)
  have h3:=most_le r k h.2.2.2 (by omega)
  simp only[Blk.most,Blk.size,Nat.mul_add]
  omega
 | .rep n c b r,0,h,hn=>by
  simp only[Blk.nest]at hn
  omega
 | .rep n c b r,k+1,h,hn=>by
  simp only[Blk.nest]at hn
  have h1:=most_le b k h.2.1 (by omega)
  have h3:=most_le r (k+1) h.2.2.1 (by omega)
  have h4:=h.2.2.2
  have h5:n.toNat*b.most≤50*(50^k*b.size):=Nat.mul_le_mul (by omega) h1
  have e:50^(k+1)*b.size=50*(50^k*b.size):=by rw[Nat.pow_succ,Nat.mul_comm (50^k) 50,Nat.mul_assoc]
  simp only[Blk.most,Blk.size,Nat.mul_add]
  omega
theorem ruleOf_memW {r:List (Int×Blk)} {k:Int} {b:Blk} (h:ruleOf r k=some b):(k,b)∈r:=by
 unfold ruleOf at h
 rw[Option.map_eq_some_iff]at h
 obtain⟨x,hx,rfl⟩:=h
 have h1:=List.find?_some hx
 have h2:=List.mem_of_find?_eq_some hx
 have h3:x.1=k:=by simpa using h1
 rw[←h3]
 exact h2
theorem sizes_ge:∀{l:List (Int×Blk)} {x:Int×Blk},x∈l→x.2.size≤sizes l
 | [],x,h=>by cases h
 |y::l,x,h=>by
  have e:sizes (y::l)=y.2.size+sizes l:=by simp[sizes]
  rcases List.mem_cons.1 h with rfl|h
  ·omega
  ·have:=sizes_ge h;omega
theorem rule_most {p:Policy} (hp:PolW p) {k:Int} {b:Blk} (h:ruleOf p.rules k=some b):b.most≤1750000:=by
 have hm:=ruleOf_memW h
 have hW:=hp.rules.each _ hm
 have h1:=most_le b 2 hW.w hW.nest
 have h2:b.size≤sizes p.rules:=sizes_ge (x:=(k,b)) hm
 have h3:=hp.size
 have h4:(50:Nat)^2*b.size≤2500*700:=Nat.mul_le_mul (by decide) (by omega)
 omega
theorem rule_ok {p:Policy} (hp:PolW p) {k:Int} {b:Blk} (h:ruleOf p.rules k=some b):BlkOk p.decls b:=by
 have hW:=hp.rules.each _ (ruleOf_memW h)
 exact BlkW.ok b hW.w hW.form
end Go.Proofs.YtepoejiigmhlbaaGreatDoor.Ev
namespace Go.Proofs.YtepoejiigmhlbaaGreatDoor.Ev
open Go Go.RowKit
def encI (n:Int):Value:=.int .i64 n
def encU (n:Int):Value:=.int .u64 n
structure RoR (B:Nat) (w:World) (gg gp:Nat) (vd bmv bcv:Value) (lp:Nat) (p:Policy):Prop where
 prog:Row w gg 76 [.pointer (some ⟨gp,0,none⟩),bcv,.int .i64 lp]
 pol:Row w gp 63 [vd,.int .i64 p.freq,bmv]
 decls:Sl (fun b=>b<B) w 83 3 vd p.decls.length (p.decls.flatMap encDecl)
 gg0:gg<B
 gp0:gp<B
structure RV where
 gr:Nat
 gg:Nat
 gp:Nat
 gs:Nat
 ga:Nat
 vd:Value
 bmv:Value
 bcv:Value
 lp:Nat
 vst:Value
 vlo:Value
 vou:Value
 vva:Value
def Apart (u v:Value):Prop:=∀b,u.ownBlock=some b→v.ownBlock≠some b
structure RunR (B:Nat) (w:World) (x:RV) (SA:Nat→Prop) (p:Policy) (key:Int) (A:Arena) (v:VS):Prop where
 ro:RoR B w x.gg x.gp x.vd x.bmv x.bcv x.lp p
 row:Row w x.gr 153 [.pointer (some ⟨x.gg,0,none⟩),.pointer (some ⟨x.gs,0,none⟩),.int .u64 key,x.vst,.bool v.yes,x.vlo,x.vou]
 srow:Row w x.gs 71 [.pointer (some ⟨x.ga,0,none⟩),x.vva]
 stack:Sl (fun b=>B≤b) w 3 1 x.vst v.stack.length (v.stack.reverse.map encI)
 loops:Sl (fun b=>B≤b) w 3 1 x.vlo v.loops.length (v.loops.map encI)
 out:Sl (fun b=>B≤b) w 32 1 x.vou v.r.gone.length (v.r.gone.map encU)
 vars:Sl (fun b=>B≤b) w 3 1 x.vva v.r.s.vars.length (v.r.s.vars.map encI)
 ar:∃vl vf vq bm,ARep SA w x.ga A vl vf vq bm
 gr0:B≤x.gr
 gs0:B≤x.gs
 sa:∀b,SA b→B≤b∧b<w.heap.size
 sr:¬SA x.gr
 ss:¬SA x.gs
 s1:∀b,x.vst.ownBlock=some b→¬SA b
 s2:∀b,x.vlo.ownBlock=some b→¬SA b
 s3:∀b,x.vou.ownBlock=some b→¬SA b
 s4:∀b,x.vva.ownBlock=some b→¬SA b
 a1:Apart x.vst x.vlo
 a2:Apart x.vst x.vva
 a3:Apart x.vlo x.vva
theorem Sl.shrink {S:Nat→Prop} {w:World} {e:TypeId} {size n:Nat} {v:Value} {xs:List Value} (h:Sl S w e size v n xs):Sl (fun b=>S b∧b<w.heap.size) w e size v n xs:=⟨h.1,fun g hg=>⟨h.2 g hg,h.lt hg⟩⟩
theorem ARep.shrink {S:Nat→Prop} {w:World} {g bm:Nat} {A:Arena} {vl vf vq:Value} (h:ARep S w g A vl vf vq bm):ARep (fun b=>S b∧b<w.heap.size) w g A vl vf vq bm:=
 ⟨h.row,h.l.shrink,h.f.shrink,h.q.shrink,h.m,⟨h.sg,h.row.lt⟩,⟨h.sm,h.m.lt⟩⟩
theorem Sl.apart_ne {S S':Nat→Prop} {w:World} {e e':TypeId} {size size' n n':Nat} {v v':Value} {xs xs':List Value} (h:Sl S w e size v n xs) (h':Sl S' w e' size' v' n' xs') (hne:e≠e'):Apart v v':=fun _ hb hb'=>h.ne_sl h' hne hb' hb
section
variable {B:Nat} {w w':World} {gg gp:Nat} {vd bmv bcv:Value} {lp:Nat} {p:Policy}
theorem RoR.kept (h:RoR B w gg gp vd bmv bcv lp p) {S:Nat→Prop} (hk:Kept S w w') (hS:∀b,S b→B≤b):RoR B w' gg gp vd bmv bcv lp p:=
 ⟨h.prog.kept hk (fun hs=>by have:=hS _ hs;have:=h.gg0;omega),h.pol.kept hk (fun hs=>by have:=hS _ hs;have:=h.gp0;omega),
  h.decls.kept hk (fun b hb hs=>by have h1:=hS b hs;have h2:=h.decls.2 b hb;simp only at h2;omega),h.gg0,h.gp0⟩
end
section
variable {B:Nat} {w w':World} {x:RV} {SA:Nat→Prop} {p:Policy} {key:Int} {A:Arena} {v:VS}
theorem RunR.kept (h:RunR B w x SA p key A v) {T:Nat→Prop} (hk:Kept T w w') (hB:∀b,T b→B≤b) (t1:¬T x.gr) (t2:¬T x.gs) (t3:∀b,x.vst.ownBlock=some b→¬T b) (t4:∀b,x.vlo.ownBlock=some b→¬T b)
  (t5:∀b,x.vou.ownBlock=some b→¬T b) (t6:∀b,x.vva.ownBlock=some b→¬T b) (t7:∀b,SA b→¬T b):RunR B w' x SA p key A v:=by
 obtain⟨vl,vf,vq,bm,ha⟩:=h.ar
 exact⟨h.ro.kept hk hB,h.row.kept hk t1,h.srow.kept hk t2,h.stack.kept hk t3,h.loops.kept hk t4,h.out.kept hk t5,h.vars.kept hk t6,⟨vl,vf,vq,bm,ha.kept hk t7⟩,h.gr0,h.gs0,
  fun b hb=>⟨(h.sa b hb).1,Nat.lt_of_lt_of_le (h.sa b hb).2 hk.size⟩,h.sr,h.ss,h.s1,h.s2,h.s3,h.s4,h.a1,h.a2,h.a3⟩
theorem RunR.grown (h:RunR B w x SA p key A v) (hk:Kept (fun b=>w.heap.size≤b) w w') (hB:B≤w.heap.size):RunR B w' x SA p key A v:=by
 have r1:=h.row.lt
 have r2:=h.srow.lt
 refine h.kept hk (fun b hb=>Nat.le_trans hB hb) (by omega) (by omega) (fun b hb hs=>?_) (fun b hb hs=>?_) (fun b hb hs=>?_) (fun b hb hs=>?_) (fun b hb hs=>?_)
 ·have:=h.stack.lt hb;omega
 ·have:=h.loops.lt hb;omega
 ·have:=h.out.lt hb;omega
 ·have:=h.vars.lt hb;omega
 ·have:=(h.sa b hb).2;omega
theorem RunR.base (h:RunR B w x SA p key A v):B≤w.heap.size:=by
 have:=h.row.lt
 have:=h.gr0
 omega
theorem RunR.setStack (h:RunR B w x SA p key A v) {T:Nat→Prop} (hk:Kept T w w') (hT:∀b,T b→x.vst.ownBlock=some b∨w.heap.size≤b) {u:Value} {st:List Int}
  (hs:Sl (fun b=>B≤b) w' 3 1 u st.length (st.reverse.map encI)) (hu:∀b,u.ownBlock=some b→x.vst.ownBlock=some b∨w.heap.size≤b):
  RunR B (w'.setCell ⟨x.gr,3,none⟩ u) {x with vst:=u} SA p key A {v with stack:=st}:=by
 have hB:=h.base
 have n1:x.vst.ownBlock≠some x.gr:=h.stack.ne_row h.row (by decide)
 have n2:x.vst.ownBlock≠some x.gs:=h.stack.ne_row h.srow (by decide)
 have r1:=h.row.lt
 have r2:=h.srow.lt
 have h1:=h.kept hk (fun b hb=>(hT b hb).elim (fun e=>h.stack.2 b e) (fun e=>Nat.le_trans hB e)) (fun hb=>(hT _ hb).elim n1 (fun e=>by omega)) (fun hb=>(hT _ hb).elim n2 (fun e=>by omega))
 have o2:∀b,x.vlo.ownBlock=some b→¬T b:=fun b hb ht=>(hT b ht).elim (fun e=>h.a1 b e hb) (fun e=>by have:=h.loops.lt hb;omega)
 have o3:∀b,x.vou.ownBlock=some b→¬T b:=fun b hb ht=>(hT b ht).elim (fun e=>(h.stack.apart_ne h.out (by decide)) b e hb) (fun e=>by have:=h.out.lt hb;omega)
 have o4:∀b,x.vva.ownBlock=some b→¬T b:=fun b hb ht=>(hT b ht).elim (fun e=>h.a2 b e hb) (fun e=>by have:=h.vars.lt hb;omega)
 have o5:∀b,SA b→¬T b:=fun b hb ht=>(hT b ht).elim (fun e=>h.s1 b e hb) (fun e=>by have:=(h.sa b hb).2;omega)
 have hr':=h.row.kept hk (fun hb=>(hT _ hb).elim n1 (fun e=>by omega))
 have hs':=h.srow.kept hk (fun hb=>(hT _ hb).elim n2 (fun e=>by omega))
 have k3:Kept (fun b=>b=x.gr) w' (w'.setCell ⟨x.gr,3,none⟩ u):=Kept.one w' ⟨x.gr,3,none⟩ u
 obtain⟨vl,vf,vq,bm,ha⟩:=h.ar
 have row3:=hr'.set_ 3 u
 refine⟨(h.ro.kept hk (fun b hb=>(hT b hb).elim (fun e=>h.stack.2 b e) (fun e=>Nat.le_trans hB e))).kept k3 (fun b hb=>hb▸h.gr0),row3,hs'.kept k3 (hs'.ne_ hr' (by decide)),
  hs.kept k3 (fun b hb e=>hs.ne_row hr' (by decide) (e▸hb)),(h.loops.kept hk o2).kept k3 (fun b hb e=>(h.loops.kept hk o2).ne_row hr' (by decide) (e▸hb)),
  (h.out.kept hk o3).kept k3 (fun b hb e=>(h.out.kept hk o3).ne_row hr' (by decide) (e▸hb)),(h.vars.kept hk o4).kept k3 (fun b hb e=>(h.vars.kept hk o4).ne_row hr' (by decide) (e▸hb)),
  ⟨vl,vf,vq,bm,(ha.kept hk o5).kept k3 (fun b hb e=>h.sr (e▸hb))⟩,h.gr0,h.gs0,fun b hb=>⟨(h.sa b hb).1,Nat.lt_of_lt_of_le (h.sa b hb).2 (Nat.le_trans hk.size k3.size)⟩,h.sr,h.ss,?_,h.s2,h.s3,h.s4,?_,?_,h.a3⟩
 ·exact fun b hb hs=>(hu b hb).elim (fun e=>h.s1 b e hs) (fun e=>by have:=(h.sa b hs).2;omega)
 ·exact fun b hb hs=>(hu b hb).elim (fun e=>h.a1 b e hs) (fun e=>by have:=h.loops.lt hs;omega)
 ·exact fun b hb hs=>(hu b hb).elim (fun e=>h.a2 b e hs) (fun e=>by have:=h.vars.lt hs;omega)
theorem RunR.setOut (h:RunR B w x SA p key A v) {T:Nat→Prop} (hk:Kept T w w') (hT:∀b,T b→x.vou.ownBlock=some b∨w.heap.size≤b) {u:Value} {l:List Int}
  (hs:Sl (fun b=>B≤b) w' 32 1 u l.length (l.map encU)) (hu:∀b,u.ownBlock=some b→x.vou.ownBlock=some b∨w.heap.size≤b):
  RunR B (w'.setCell ⟨x.gr,6,none⟩ u) {x with vou:=u} SA p key A {v with r:={v.r with gone:=l}}:=by
 have hB:=h.base
 have n1:x.vou.ownBlock≠some x.gr:=h.out.ne_row h.row (by decide)
 have n2:x.vou.ownBlock≠some x.gs:=h.out.ne_row h.srow (by decide)
 have r1:=h.row.lt
 have r2:=h.srow.lt
 have o1:∀b,x.vst.ownBlock=some b→¬T b:=fun b hb ht=>(hT b ht).elim (fun e=>(h.stack.apart_ne h.out (by decide)) b hb e) (fun e=>by have:=h.stack.lt hb;omega)
 have o2:∀b,x.vlo.ownBlock=some b→¬T b:=fun b hb ht=>(hT b ht).elim (fun e=>(h.loops.apart_ne h.out (by decide)) b hb e) (fun e=>by have:=h.loops.lt hb;omega)
 have o4:∀b,x.vva.ownBlock=some b→¬T b:=fun b hb ht=>(hT b ht).elim (fun e=>(h.vars.apart_ne h.out (by decide)) b hb e) (fun e=>by have:=h.vars.lt hb;omega)
 have o5:∀b,SA b→¬T b:=fun b hb ht=>(hT b ht).elim (fun e=>h.s3 b e hb) (fun e=>by have:=(h.sa b hb).2;omega)
 have hr':=h.row.kept hk (fun hb=>(hT _ hb).elim n1 (fun e=>by omega))
 have hs':=h.srow.kept hk (fun hb=>(hT _ hb).elim n2 (fun e=>by omega))
 have k3:Kept (fun b=>b=x.gr) w' (w'.setCell ⟨x.gr,6,none⟩ u):=Kept.one w' ⟨x.gr,6,none⟩ u
 obtain⟨vl,vf,vq,bm,ha⟩:=h.ar
 have row3:=hr'.set_ 6 u
 refine⟨(h.ro.kept hk (fun b hb=>(hT b hb).elim (fun e=>h.out.2 b e) (fun e=>Nat.le_trans hB e))).kept k3 (fun b hb=>hb▸h.gr0),row3,hs'.kept k3 (hs'.ne_ hr' (by decide)),
  (h.stack.kept hk o1).kept k3 (fun b hb e=>(h.stack.kept hk o1).ne_row hr' (by decide) (e▸hb)),(h.loops.kept hk o2).kept k3 (fun b hb e=>(h.loops.kept hk o2).ne_row hr' (by decide) (e▸hb)),
  hs.kept k3 (fun b hb e=>hs.ne_row hr' (by decide) (e▸hb)),(h.vars.kept hk o4).kept k3 (fun b hb e=>(h.vars.kept hk o4).ne_row hr' (by decide) (e▸hb)),
  ⟨vl,vf,vq,bm,(ha.kept hk o5).kept k3 (fun b hb e=>h.sr (e▸hb))⟩,h.gr0,h.gs0,fun b hb=>⟨(h.sa b hb).1,Nat.lt_of_lt_of_le (h.sa b hb).2 (Nat.le_trans hk.size k3.size)⟩,h.sr,h.ss,h.s1,h.s2,?_,h.s4,h.a1,h.a2,h.a3⟩
 exact fun b hb hs=>(hu b hb).elim (fun e=>h.s3 b e hs) (fun e=>by have:=(h.sa b hs).2;omega)
theorem RunR.setArena (h:RunR B w x SA p key A v) (hk:Kept (fun b=>SA b∨w.heap.size≤b) w w') {A':Arena} (ha:∃vl vf vq bm,ARep (fun b=>SA b∨w.heap.size≤b) w' x.ga A' vl vf vq bm):
  RunR B w' x (fun b=>(SA b∨w.heap.size≤b)∧b<w'.heap.size) p key A' v:=by
 have hB:=h.base
 have r1:=h.row.lt
 have r2:=h.srow.lt
 have o:∀b,¬SA b→b<w.heap.size→¬(SA b∨w.heap.size≤b):=fun b h1 h2 h3=>h3.elim h1 (fun e=>by omega)
 obtain⟨vl,vf,vq,bm,ha⟩:=ha
 refine⟨h.ro.kept hk (fun b hb=>hb.elim (fun e=>(h.sa b e).1) (fun e=>Nat.le_trans hB e)),h.row.kept hk (o _ h.sr r1),h.srow.kept hk (o _ h.ss r2),h.stack.kept hk (fun b hb=>o _ (h.s1 b hb) (h.stack.lt hb)),h.loops.kept hk (fun b hb=>o _ (h.s2 b hb) (h.loops.lt hb)),
  h.out.kept hk (fun b hb=>o _ (h.s3 b hb) (h.out.lt hb)),h.vars.kept hk (fun b hb=>o _ (h.s4 b hb) (h.vars.lt hb)),⟨vl,vf,vq,bm,ha.shrink⟩,h.gr0,h.gs0,fun b hb=>⟨hb.1.elim (fun e=>(h.sa b e).1) (fun e=>Nat.le_trans hB e),hb.2⟩,
  fun hb=>o _ h.sr r1 hb.1,fun hb=>o _ h.ss r2 hb.1,fun b hb hs=>o _ (h.s1 b hb) (h.stack.lt hb) hs.1,fun b hb hs=>o _ (h.s2 b hb) (h.loops.lt hb) hs.1,fun b hb hs=>o _ (h.s3 b hb) (h.out.lt hb) hs.1,fun b hb hs=>o _ (h.s4 b hb) (h.vars.lt hb) hs.1,h.a1,h.a2,h.a3⟩
theorem RunR.setYes (h:RunR B w x SA p key A v) (y:Bool):RunR B (w.setCell ⟨x.gr,4,none⟩ (.bool y)) x SA p key A {v with yes:=y}:=by
 have k3:Kept (fun b=>b=x.gr) w (w.setCell ⟨x.gr,4,none⟩ (.bool y)):=Kept.one w ⟨x.gr,4,none⟩ _
 obtain⟨vl,vf,vq,bm,ha⟩:=h.ar
 exact⟨h.ro.kept k3 (fun b hb=>hb▸h.gr0),h.row.set_ 4 _,h.srow.kept k3 (h.srow.ne_ h.row (by decide)),h.stack.kept k3 (fun b hb e=>h.stack.ne_row h.row (by decide) (e▸hb)),h.loops.kept k3 (fun b hb e=>h.loops.ne_row h.row (by decide) (e▸hb)),
  h.out.kept k3 (fun b hb e=>h.out.ne_row h.row (by decide) (e▸hb)),h.vars.kept k3 (fun b hb e=>h.vars.ne_row h.row (by decide) (e▸hb)),⟨vl,vf,vq,bm,ha.kept k3 (fun b hb e=>h.sr (e▸hb))⟩,h.gr0,h.gs0,
  fun b hb=>⟨(h.sa b hb).1,Nat.lt_of_lt_of_le (h.sa b hb).2 k3.size⟩,h.sr,h.ss,h.s1,h.s2,h.s3,h.s4,h.a1,h.a2,h.a3⟩
theorem set_map {f:Int→Value} (l:List Int) (i:Nat) (n:Int):(l.map f).set i (f n)=(l.set i n).map f:=by rw[List.map_set]
theorem Sl.set1 {S:Nat→Prop} {e:TypeId} {l:List Int} {u:Value} (f:Int→Value) (h:Sl S w e 1 u l.length (l.map f)) {i g cap:Nat} (hu:u= .slice (some ⟨g,0,none⟩) l.length cap) (n:Int):
  Sl S (w.setCell ⟨g,i,none⟩ (f n)) e 1 u (l.set i n).length ((l.set i n).map f):=by
 subst hu
 have hs:=h.1.stored i (f n)
 rw[set_map]at hs
 rw[List.length_set]
 exact⟨hs.1,h.2⟩
end
end Go.Proofs.YtepoejiigmhlbaaGreatDoor.Ev
namespace Go.Proofs.YtepoejiigmhlbaaGreatDoor.Ev
open Go Go.RowKit
theorem infoInt_:(Tryz.prog.info? 3).map (fun i=>(i.zero,i.size,i.bytes))=some (some (.int .i64 0),1,8):=by kernel_rfl
section
variable {B:Nat} {w:World} {x:RV} {SA:Nat→Prop} {p:Policy} {key:Int} {A:Arena} {v:VS}
set_option maxRecDepth 100000 in
set_option maxHeartbeats 1000000 in
theorem push_any (h:RunR B w x SA p key A v) (hl:v.stack.length≤1) (n:Int):
  Calls Tryz.prog 85 #[.pointer (some ⟨x.gr,0,none⟩),.int .i64 n] w fun e w'=>
   e= .returned (.tuple #[])∧Kept (fun b=>B≤b) w w'∧∃u,RunR B w' {x with vst:=u} SA p key A {v with stack:=n::v.stack}:=by
 obtain⟨gr,gg,gp,gs,ga,vd,bmv,bcv,lp,vst,vlo,vou,vva⟩:=x
 obtain⟨av,cv,rfl⟩:∃a c,vst= .slice a v.stack.length c:=h.stack.shape
 have c3:=h.row.cell 3
 have f:=fun j=>h.row.frozen j
 have r1:=h.row.lt
 have hB:=h.base
 simp only at c3 f r1 ⊢
 have hne:¬gr=w.heap.size:=by omega
 have ha:=h.grown ((Kept.refl _ w).alloc (Nat.le_refl _) (.cells #[.int .i64 n] 3)) hB
 obtain⟨i0,hi0,hz0,hz1,hz2⟩:=info_parts infoInt_
 have q1:B≤(w.alloc (.cells #[.int .i64 n] 3)).heap.size:=Nat.le_trans hB (by simp)
 have q2:=cells_new w [.int .i64 n] 3
 have q3:∀u∈ [Value.int .i64 n],u.oneCell'=true:=by intro u hu;simp at hu;subst hu;rfl
 have q4:v.stack.length+1≤maxLen:=by unfold maxLen;omega
 have q5:(v.stack.length+1)*8≤140737488355328:=by omega
 have q6:¬((Value.slice av v.stack.length cv).ownBlock=some gr∨(w.alloc (.cells #[.int .i64 n] 3)).heap.size≤gr):=by
  rintro(h0|h0)
  ·exact h.stack.ne_row h.row (by decide) h0
  ·simp at h0;omega
 have H:=Lib.hid h
 have HA:=Lib.hid ha
 have Q1:=Lib.hid q1
 have Q2:=Lib.hid q2
 have Q3:=Lib.hid q3
 have Q6:=Lib.hid q6
 clear h ha q1 q2 q3 q6
 simp at c3
 go_enter Tryz.func85,Tryz.ntmps85
 go_wp2_with (at_builtin;go_must (refine wp_append1 Tryz.underlying69 hi0 hz0 hz1 hz2 rfl (by decide) HA.out.stack Q1.out rfl _ _ rfl rfl ⟨w.heap.size,0,none⟩ 1 1 [.int .i64 n] rfl rfl Q2.out Q3.out q4 q5 (Nat.succ_pos _) ?_;intro g2 cap2 w2 hs2 hk2 hloc;have e1:=(HA.out.row.kept hk2 Q6.out).cell 3;have e5:∀j,w2.frozen? ⟨gr,j,none⟩=false:=fun j=>(HA.out.row.kept hk2 Q6.out).frozen j;have Hs2:=Lib.hid hs2;have Hk2:=Lib.hid hk2;have HL:=Lib.hid hloc;clear hs2 hk2 hloc;simp at e1))
 go_end0
 have hst:=HA.out.setStack (st:=n::v.stack) Hk2.out (fun b hb=>hb) (by simpa[encI]using Hs2.out) (fun b hb=>by
  injection hb with hb
  simp only at hb
  subst hb
  exact HL.out.imp id (fun e=>by rw[e];exact Nat.le_refl _))
 refine⟨rfl,?_,_,hst⟩
 exact(((Kept.refl _ w).alloc hB _).trans (Hk2.out.mono (fun b hb=>hb.elim (fun e=>H.out.stack.2 b e) (fun e=>Nat.le_trans hB (Nat.le_trans (by simp) e))))).setCell (p:=⟨gr,3,none⟩) H.out.gr0 _
set_option maxRecDepth 100000 in
set_option maxHeartbeats 1000000 in
theorem pop_any (h:RunR B w x SA p key A v) {n:Int} {st:List Int} (hs:v.stack=n::st) (hl:v.stack.length≤2):
  Calls Tryz.prog 88 #[.pointer (some ⟨x.gr,0,none⟩)] w fun e w'=>
   e= .returned (.int .i64 n)∧Kept (fun b=>B≤b) w w'∧∃u,RunR B w' {x with vst:=u} SA p key A {v with stack:=st}:=by
 obtain⟨gr,gg,gp,gs,ga,vd,bmv,bcv,lp,vst,vlo,vou,vva⟩:=x
 have hlen:v.stack.length=st.length+1:=by rw[hs];rfl
 obtain⟨g1,cap,rfl,_,hcap,hcm,hg1⟩:∃g cap,vst= .slice (some ⟨g,0,none⟩) v.stack.length cap∧B≤g∧v.stack.length≤cap∧cap≤maxLen∧g<w.heap.size:=h.stack.form (by omega)
 have hc:=h.stack.1.cellAt st.length (by simp[hlen])
 have ec:(v.stack.reverse.map encI)[st.length]?=some (.int .i64 n):=by
  rw[hs]
  simp[encI]
 rw[ec]at hc
 have hls:Sl (fun b=>B≤b) w 3 1 (.slice (some ⟨g1,0,none⟩) st.length cap) st.length (st.reverse.map encI):=by
  have h1:Sl (fun b=>B≤b) w 3 1 (.slice (some ⟨g1,0,none⟩) v.stack.length cap) v.stack.length (v.stack.reverse.map encI):=h.stack
  have h2:=h1.take st.length (by omega)
  rw[Nat.mul_one]at h2
  have e:(v.stack.reverse.map encI).take st.length=st.reverse.map encI:=by
   rw[hs,List.reverse_cons,List.map_append,List.take_left' (by simp)]
  rw[e]at h2
  exact h2
 have c3:=h.row.cell 3
 have f:∀j,w.frozen? ⟨gr,j,none⟩=false:=fun j=>h.row.frozen j
 have r1:gr<w.heap.size:=h.row.lt
 rw[hlen]at c3 hl hcap
 have hc':w.cell? ⟨g1,st.length,none⟩=some (.int .i64 n):=by simpa using hc
 unfold maxLen at hcm
 have H:=Lib.hid h
 have HS:=Lib.hid hls
 clear h hls hs hc ec hlen
 simp at c3
 go_enter Tryz.func88,Tryz.ntmps88
 go_wp2
 go_quiet (fail)
 go_wp2
 go_region
 go_wp2
 go_ret
 have hst:=(H.out.grown ((Kept.refl _ w).drewN _|>.drew) H.out.base).setStack (w':=(w.drewN nq).drew) (T:=fun _=>False) (st:=st) (Kept.refl _ _) (fun b hb=>hb.elim) (HS.out.of_heap rfl) (fun b hb=>.inl hb)
 refine⟨rfl,?_,_,hst⟩
 exact(((Kept.refl _ w).drewN _).drew).setCell (p:=⟨gr,3,none⟩) H.out.gr0 _
end
end Go.Proofs.YtepoejiigmhlbaaGreatDoor.Ev
namespace Go.Proofs.YtepoejiigmhlbaaGreatDoor.Ev
open Go Go.RowKit
theorem declAt_get {l:List Decl} {q:Int} (h:Ix l.length q):l[q.toNat]?=some (declAt l q):=by
 obtain⟨h1,h2⟩:=h
 have hlt:q.toNat<l.length:=by omega
 unfold declAt
 rw[List.getElem?_eq_getElem hlt];rfl
section
variable {B:Nat} {w:World} {x:RV} {SA:Nat→Prop} {p:Policy} {key:Int} {A:Arena} {v:VS}
theorem RoR.decl {gg gp:Nat} {vd bmv bcv:Value} {lp:Nat} (h:RoR B w gg gp vd bmv bcv lp p) {q:Int} (hq:Ix p.decls.length q):
  ∃g cap,vd= .slice (some ⟨g,0,none⟩) p.decls.length cap∧p.decls.length≤cap∧cap≤maxLen∧w.cell? ⟨g,q.toNat*3,none⟩=some (.int .i64 (declAt p.decls q).kind)∧w.cell? ⟨g,q.toNat*3+2,none⟩=some (.int .i64 (declAt p.decls q).max):=by
 obtain⟨g,cap,rfl,_,h1,h2,_⟩:=h.decls.form (by unfold Ix at hq;omega)
 have c:=fun j hj=>h.decls.at_ (f:=encDecl) (fun _=>rfl) (declAt_get hq) (j:=j) hj
 exact⟨g,cap,rfl,h1,h2,c 0 (by omega),c 2 (by omega)⟩
set_option maxRecDepth 100000 in
set_option maxHeartbeats 1000000 in
theorem full_any (h:RunR B w x SA p key A v) (ok:A.Ok) (hp:p.decls.length≤8) (hA:A.qs.length=p.decls.length) {q:Int} (hq:Ix p.decls.length q):
  Calls Tryz.prog 89 #[.pointer (some ⟨x.gr,0,none⟩),.int .i64 q] w fun e w'=>e= .returned (.bool (afull p.decls A q))∧∃n,w'=w.drewN n:=by
 obtain⟨gr,gg,gp,gs,ga,vd,bmv,bcv,lp,vst,vlo,vou,vva⟩:=x
 have c0:=h.row.cell 0
 have c1:=h.row.cell 1
 have s0:=h.srow.cell 0
 have g0:=h.ro.prog.cell 0
 have p0:=h.ro.pol.cell 0
 obtain⟨gd,cd,e1,hcd,hcm,_,d2⟩:=h.ro.decl hq
 simp only at e1
 subst e1
 obtain⟨vl,vf,vq,bm,har⟩:=h.ar
 have hql:q.toNat<A.qs.length:=by unfold Ix at hq;omega
 have hlen:=fun n=>(len_any (har.drewN n) ok q.toNat hql (by omega)).mono fun e w' h=>(⟨h.1,h.2.symm⟩:e= .returned (.int .i64 (A.len q.toNat))∧w'=w.drewN n)
 have hqn:((q.toNat:Nat):Int)=q:=by unfold Ix at hq;omega
 obtain⟨m,rfl⟩:∃m:Nat,q=(m:Int):=⟨q.toNat,hqn.symm⟩
 rw[Int.toNat_natCast]at*
 have hm:m<p.decls.length:=by unfold Ix at hq;omega
 unfold afull alen
 rw[Int.toNat_natCast]
 generalize A.len m=L at*
 generalize (declAt p.decls (m:Int)).max=M at*
 generalize p.decls.length=D at*
 have HL:=Lib.hid hlen
 unfold maxLen at hcm
 clear h har hlen hqn hq ok hA hql
 simp at c0 c1 s0 g0 p0
 have d2':w.cell? ⟨gd,m*3+2,none⟩=some (.int .i64 M):=d2
 go_enter Tryz.func89,Tryz.ntmps89
 go_wp2
 go_quiet ((go_at_call 86;exact Calls.quiet_of_same (HL.out _)))
 go_wp2
 go_ret
 exact⟨rfl,_,rfl⟩
set_option maxRecDepth 100000 in
set_option maxHeartbeats 1000000 in
theorem resident_any (h:RunR B w x SA p key A v) (hp:p.decls.length≤8) {q:Int} (hq:q= -1∨Ix p.decls.length q):
  Calls Tryz.prog 91 #[.pointer (some ⟨x.gr,0,none⟩),.int .i64 q] w fun e w'=>e= .returned (.bool (resident p.decls q))∧w'=w:=by
 obtain⟨gr,gg,gp,gs,ga,vd,bmv,bcv,lp,vst,vlo,vou,vva⟩:=x
 rcases hq with rfl|hq
 ·have e:resident p.decls (-1)=false:=rfl
  rw[e]
  clear h
  go_enter Tryz.func91,Tryz.ntmps91
  go_wp2
  go_ret
  exact⟨rfl,rfl⟩
 ·have c0:=h.row.cell 0
  have g0:=h.ro.prog.cell 0
  have p0:=h.ro.pol.cell 0
  obtain⟨gd,cd,e1,hcd,hcm,d0,_⟩:=h.ro.decl hq
  simp only at e1
  subst e1
  have hqn:((q.toNat:Nat):Int)=q:=by unfold Ix at hq;omega
  obtain⟨m,rfl⟩:∃m:Nat,q=(m:Int):=⟨q.toNat,hqn.symm⟩
  rw[Int.toNat_natCast]at*
  have hm:m<p.decls.length:=by unfold Ix at hq;omega
  have e:resident p.decls (m:Int)=((declAt p.decls (m:Int)).kind==0):=by unfold resident;simp
  rw[e]
  generalize (declAt p.decls (m:Int)).kind=K at*
  generalize p.decls.length=D at*
  unfold maxLen at hcm
  have hK:(K==0)=decide ((K:Int)=0):=by
   rw[Bool.eq_iff_iff];simp
  rw[hK]
  clear h hqn hq e hK
  simp at c0 g0 p0
  go_enter Tryz.func91,Tryz.ntmps91
  go_wp2
  go_ret
  exact⟨rfl,rfl⟩
end
end Go.Proofs.YtepoejiigmhlbaaGreatDoor.Ev
namespace Go.Proofs.YtepoejiigmhlbaaGreatDoor.Ev
structure MoveOk (p:Policy) (A:Arena) (key:Int):Prop where
 ok:A.Ok
 un:∀n,A.idx key=some n→∃q,A.CanUnlink n q
 ok':(A.out key).Ok
 len:(A.out key).qs.length=A.qs.length
 frq:0≤A.outFreq key∧A.outFreq key≤99
 cin:∀q,Ix p.decls.length q→(declAt p.decls q).kind≠2→afull p.decls (A.out key) q=false→(A.out key).CanIn key (A.outFreq key) q.toNat
 wh:A.where_ key= -1∨Ix p.decls.length (A.where_ key)
 q8:A.qs.length≤8
 ql:A.qs.length=p.decls.length
theorem move_ok {A:Arena} {ns:List (List Nat)} {p:Policy} {s:St} (h:AInv A ns s.q) (hs:SInv p s) (hp:PolW p) (key:Int):MoveOk p A key:=by
 obtain⟨o1,o2,o3,o4⟩:=out_st h key
 have hql:A.qs.length=p.decls.length:=by rw[←h.qlen,hs.q]
 have hfq:=hp.freq
 cases hfd:s.find key with
 |none=>
  rw[hfd]at o4
  obtain⟨e1,e2,e3⟩:=o4
  refine⟨h.ok,o1,by rw[e1];exact h.ok,o3,by rw[e2];omega,fun q hq hk hf=>?_,.inl e3,h.q8,hql⟩
  rw[e1]at o2 hf ⊢
  rw[e2]
  obtain⟨_,c⟩:=comes_st (from_:= -1) h hs hp false [] o2 hq hk ⟨Int.le_refl 0,hfq.1⟩
  rcases c with⟨_,c2⟩|⟨_,_,_,_,_,c5,_⟩
  ·rw[hf]at c2;cases c2
  ·exact c5
 |some ki=>
  obtain⟨k,i⟩:=ki
  rw[hfd]at o4
  obtain⟨⟨ns1,e0⟩,e2,e3,e4,l,e5,e6⟩:=o4
  have hm:entAt (s.queue (k:Int)) i∈s.queue (k:Int):=entAt_mem (by rw[queue_nat,e5];exact e6)
  have hfr:=hs.queue (k:Int) _ hm
  rw[←e2]at hfr
  have hkl:k<s.q.length:=(List.getElem?_eq_some_iff.1 e5).1
  refine⟨h.ok,o1,e0.ok,o3,⟨hfr.1,by omega⟩,fun q hq hk hf=>?_,.inr (by rw[e4];unfold Ix;rw[hs.q]at hkl;omega),h.q8,hql⟩
  obtain⟨_,c⟩:=comes_st (s:=s.out k i) (from_:=k) e0 (hs.out k i) hp false [] o2 hq hk hfr
  rcases c with⟨_,c2⟩|⟨_,_,_,_,_,c5,_⟩
  ·rw[hf]at c2;cases c2
  ·exact c5
end Go.Proofs.YtepoejiigmhlbaaGreatDoor.Ev
namespace Go.Proofs.YtepoejiigmhlbaaGreatDoor.Ev
open Go Go.RowKit
section
variable {P:Program} {ops:Array Oper} {md:Region.Mode} {C:World→Prop}
def wpAnyT (P:Program) (md:Region.Mode) (ops:Array Oper) (C:World→Prop) (n:Nat) (L:Array Bool→Act→Prop):Nat→Array Bool→Act→Prop
 |0,listed,a=>L listed a
 |f+1,listed,a=>
  Region.ready md ops listed≠ []∧∀i∈Region.ready md ops listed,i<n∧qOp P ops C i (wpAnyT P md ops C n L f (listed.setIfInBounds i true)) a
theorem wpAny_of_headT {n g:Nat} {L:Array Bool→Act→Prop} {Q':Exit→Act→World→Prop} (hL:∀listed a w,C w→L listed a→wpAny P md ops Q' g listed a w):
  ∀(f:Nat) (listed:Array Bool) (a:Act) (w:World),C w→wpAnyT P md ops C n L f listed a→wpAny P md ops Q' (f+g) listed a w
 |0,listed,a,w,hw,h=>by rw[Nat.zero_add];exact hL _ _ _ hw h
 |f+1,listed,a,w,hw,h=>by
  rw[show f+1+g=(f+g)+1 by omega]
  exact⟨fun h0=>absurd h0 h.1,fun i hi=>wpOp_of_qOp hw (fun a' w' hw' h'=>wpAny_of_headT hL f _ a' w' hw' h') (h.2 i hi).2⟩
theorem wpAnyT_first {n i:Nat} {oi:Oper} {v:Value} {L:Array Bool→Act→Prop} (hi:ops[i]?=some oi) (hsel:∀(j:Nat) (o:Oper) cs b,ops[j]?=some o→o.op≠.select cs b)
  (hs:Region.sinkB md ops n=true) (hc:Region.chainB md ops n=true) (hn:n<ops.size) (hin:i<n)
  (hdone:∀listed a,L listed a→∀j∈Region.ready md ops listed,n≤j):
  ∀(f:Nat) (listed:Array Bool) (a:Act),HeadInv md ops n listed→
   (∀j oj,ops[j]?=some oj→j≠i→listed.getD j true=false→(∀e∈oj.after,Region.binds md e=true→e.on≠i)→oi.apart ops oj=true)→
   i∈Region.ready md ops listed→YieldsIn P ops C oi v a→
   wpAnyT P md ops C n L f (listed.setIfInBounds i true) (a.put oi.dst v)→wpAnyT P md ops C n L (f+1) listed a:=by
 intro f
 induction f with
 |zero=>
  intro listed a inv _ hr hy H
  have hun:=(mem_ready.1 hr).1
  refine⟨fun h=>(by rw[h]at hr;cases hr),fun j hj=>?_⟩
  have hjn:j<n:=by
   rcases Nat.lt_or_ge j n with h|h
   ·exact h
   ·exact absurd hj (tail_waits hs hc hn inv _ i rfl hin hun j h)
  refine⟨hjn,?_⟩
  by_cases hji:j=i
  ·subst hji;exact hy.qOp hi H
  ·have:=hdone _ _ H j (ready_mono hj hji)
   omega
 |succ f ih=>
  intro listed a inv hfree hr hy H
  have hun:=(mem_ready.1 hr).1
  refine⟨fun h=>(by rw[h]at hr;cases hr),fun j hj=>?_⟩
  have hjn:j<n:=by
   rcases Nat.lt_or_ge j n with h|h
   ·exact h
   ·exact absurd hj (tail_waits hs hc hn inv _ i rfl hin hun j h)
  refine⟨hjn,?_⟩
  by_cases hji:j=i
  ·subst hji;exact hy.qOp hi H
  ·have h1:=(H.2 j (ready_mono hj hji)).2
   obtain⟨hjun,oj,hoj,hall⟩:=mem_ready.1 hj
   have hnot:∀e∈oj.after,Region.binds md e=true→e.on≠i:=fun e he hb heq=>by
    have h1:=hall e he hb
    rw[heq,getD_both hun]at h1
    cases h1
   have h2:=qOp_put hoj (hfree j oj hoj hji hjun hnot) (fun cs b=>hsel i oi cs b hi) (fun cs b=>hsel j oj cs b hoj) hy h1
   have hfree':∀k ok,ops[k]?=some ok→k≠i→(listed.setIfInBounds j true).getD k true=false→
     (∀e∈ok.after,Region.binds md e=true→e.on≠i)→oi.apart ops ok=true:=fun k ok hk hki hun hno=>by
    refine hfree k ok hk hki ?_ hno
    by_cases hjk:j=k
    ·subst hjk;exact hjun
    ·rw[getD_set_ne true hjk]at hun;exact hun
   refine qOp_mono (fun a' h3=>ih (listed.setIfInBounds j true) a' (inv.set hj hjn) hfree' (ready_mono hr (Ne.symm hji)) h3.1 ?_) h2
   rw[Array.setIfInBounds_comm _ _ hji]
   exact h3.2
theorem wpAnyT_lex {n g:Nat} {Lq:Act→Prop} (hsel:Region.noSelect ops=true) (hs:Region.sinkB md ops n=true) (hc:Region.chainB md ops n=true) (hn:n<ops.size):
  ∀(l:List Oper) (k:Nat) (listed:Array Bool) (a:Act),(∀j,j<l.length→l[j]?=ops[k+j]?)→k+l.length=n→HeadInv md ops n listed→
  Region.lexHead md ops g l.length k listed=true→wpQuiet P ops C Lq l a→
  wpAnyT P md ops C n (fun listed' a'=>Region.seqB md ops g n listed'=true∧Lq a') l.length listed a
 | [],k,listed,a,_,hk,_,hB,h=>by
  have:k=n:=by simpa using hk
  subst this
  exact⟨by simpa[Region.lexHead]using hB,h⟩
 |o::l,k,listed,a,hl,hk,inv,hB,h=>by
  have h0:ops[k]?=some o:=by simpa using(hl 0 (by simp)).symm
  simp only[List.length_cons,Region.lexHead,Bool.and_eq_true]at hB
  obtain⟨⟨hr,hf⟩,hB'⟩:=hB
  have hkn:k<n:=by simp only[List.length_cons]at hk;omega
  have hr':k∈Region.ready md ops listed:=by simpa using hr
  have hst:qOp P ops C k (wpQuiet P ops C Lq l) a:=by unfold qOp;simp only[h0];exact h
  obtain⟨v,hy,hK⟩:=yieldsIn_of_qOp h0 hst
  exact wpAnyT_first h0 (Region.noSelect_spec hsel) hs hc hn hkn (fun listed' a' hL=>seqB_ready hL.1) l.length listed a inv (Region.free_spec h0 hf) hr' hy
   (wpAnyT_lex hsel hs hc hn l (k+1) _ _ (fun j hj=>by have:=hl (j+1) (by simp;omega);simpa[Nat.add_assoc,Nat.add_comm 1 j]using this) (by simp only[List.length_cons]at hk;omega) (inv.set hr' hkn) hB' hK)
theorem wp_qtail {id:Nat} {Q:Exit→Act→World→Prop} {a:Act} {w:World} {l:List Oper} (n:Nat) (hm:P.follows .mixedOrders=true) (hB:Region.lexTailB .any l.toArray n=true)
  (h:wpQuiet P l.toArray (fun w'=>∃k,w'=w.drewN k) (fun a'=>∀k,wpList P l.toArray Q (l.drop n) a' (w.drewN k)) (l.take n) a):(Code.region id l.toArray true).wp P Q a w:=by
 simp only[Region.lexTailB,Bool.and_eq_true,decide_eq_true_eq]at hB
 obtain⟨⟨⟨⟨hsel,hn⟩,hs⟩,hc⟩,hlex⟩:=hB
 have hn':n<l.length:=by simpa using hn
 have htl:(l.take n).length=n:=by simp;omega
 have hdl:(l.drop n).length=l.toArray.size-n:=by simp
 have inv0:HeadInv .any l.toArray n (Array.replicate l.toArray.size false):=
  ⟨by simp,fun j oj _ hl=>(by rw[getD_replicate_false]at hl;cases hl),fun t _ ht=>getD_in (by simpa using ht) (getD_replicate_false _ _)⟩
 have H:=wpAnyT_lex (md:=.any) (g:=l.toArray.size-n) hsel hs hc hn (l.take n) 0 _ a (fun j hj=>by
  have hj':j<n:=by rw[htl]at hj;exact hj
  simp[hj']) (by simpa using htl) inv0 (by rw[htl];exact hlex) h
 refine wp_region_any hm ?_
 have:=wpAny_of_headT (Q':=Q) (g:=l.toArray.size-n) (fun listed a' w' hw' hL=>by
  obtain⟨k,rfl⟩:=hw'
  have:=wpAny_of_seq (md:=.any) (Q':=Q) (l.drop n) n listed a' (w.drewN k) (fun j=>by simp[List.getElem?_drop]) (by rw[hdl];exact hL.1) (hL.2 k)
  rwa [hdl]at this) _ _ _ {w with drawn:=w.drawn+1} ⟨1,rfl⟩ H
 rw[htl,show n+(l.toArray.size-n)=l.toArray.size by omega]at this
 exact this
end
end Go.Proofs.YtepoejiigmhlbaaGreatDoor.Ev
namespace Go.Proofs.YtepoejiigmhlbaaGreatDoor.Ev
open Go Go.RowKit
structure ErrC (B:Nat) (ea:Nat→Addr) (w:World):Prop where
 full:w.cell? ⟨12,0,none⟩=some (errV ea 11)
 emp:w.cell? ⟨13,0,none⟩=some (errV ea 12)
 lf:12<B
 le:13<B
theorem ErrC.kept {B:Nat} {ea:Nat→Addr} {w w':World} (h:ErrC B ea w) {S:Nat→Prop} (hk:Kept S w w') (hS:∀b,S b→B≤b):ErrC B ea w':=
 ⟨(hk.cell (p:=⟨12,0,none⟩) (fun hs=>by have:=hS _ hs;have:=h.lf;simp at*;omega)).trans h.full,(hk.cell (p:=⟨13,0,none⟩) (fun hs=>by have:=hS _ hs;have:=h.le;simp at*;omega)).trans h.emp,h.lf,h.le⟩
def OutDo (B:Nat) (ea:Nat→Addr) (w:World) (x:RV) (p:Policy) (key:Int) (v:VS) (res:Except Nat AR) (e:Ending) (w':World):Prop:=
 Kept (fun b=>B≤b) w w'∧match res with
  | .error k=>e= .returned (errV ea k)
  | .ok r'=>e= .returned .nilIface∧∃SA' u,RunR B w' {x with vou:=u} SA' p key r'.A {v with r:=⟨⟨v.r.s.q,r'.vars⟩,r'.out⟩}
section
variable {B:Nat} {ea:Nat→Addr} {w:World} {x:RV} {SA:Nat→Prop} {p:Policy} {key:Int} {A:Arena} {v:VS}
theorem RunR.arena (h:RunR B w x SA p key A v):∃vl vf vq bm,ARep (fun b=>SA b∨w.heap.size≤b) w x.ga A vl vf vq bm:=by
 obtain⟨vl,vf,vq,bm,ha⟩:=h.ar
 exact⟨vl,vf,vq,bm,ha.mono (fun b hb=>.inl hb)⟩
theorem RunR.up (w:World) (SA:Nat→Prop):Up (fun b=>SA b∨w.heap.size≤b) w:=fun _ hb=>.inr hb
theorem RunR.keptB (h:RunR B w x SA p key A v) {w':World} (hk:Kept (fun b=>SA b∨w.heap.size≤b) w w'):Kept (fun b=>B≤b) w w':=
 hk.mono (fun b hb=>hb.elim (fun e=>(h.sa b e).1) (fun e=>Nat.le_trans h.base e))
set_option maxRecDepth 100000 in
set_option maxHeartbeats 1000000 in
theorem last_cool (h:RunR B w x SA p key A v) (hp:PolW p) (ok:A.Ok) (q kt:Int):
  Calls Tryz.prog 93 #[.pointer (some ⟨x.gr,0,none⟩),.agg #[.int .u8 8,.int .i64 q,.int .i64 0],.int .u64 kt] w (OutDo B ea w x p key v (alast p kt (.cool q) ⟨A,v.r.s.vars,v.r.gone⟩)):=by
 have ha:=h.grown ((Kept.refl _ w).alloc (Nat.le_refl _) (.cells #[.int .u8 8,.int .i64 q,.int .i64 0] 131)) h.base
 obtain⟨vl,vf,vq,bm,har⟩:=ha.arena
 have hfq:=hp.freq
 have ht:=tune_any har ok kt (-1) p.freq (by omega) (by omega)
 have c0:=h.row.cell 0
 have c1:=h.row.cell 1
 have s0:=h.srow.cell 0
 have g0:=h.ro.prog.cell 0
 have p1:=h.ro.pol.cell 1
 have r1:=h.row.lt
 have r2:=h.srow.lt
 have r3:=h.ro.prog.lt
 have r4:=h.ro.pol.lt
 have q1:¬x.gr=w.heap.size:=by omega
 have q2:¬x.gs=w.heap.size:=by omega
 have q3:¬x.gg=w.heap.size:=by omega
 have q4:¬x.gp=w.heap.size:=by omega
 have HA:=Lib.hid ha
 have HT:=Lib.hid ht
 have HB:=Lib.hid h.base
 clear h ha har ht ok hp hfq
 simp at c0 c1 s0 g0 p1
 go_enter Tryz.func93,Tryz.ntmps93
 go_wp2_with fail
 refine HT.out.mono ?_
 rintro e w' ⟨rfl,hk,vl',har'⟩
 have hr:=HA.out.setArena hk ⟨vl',vf,vq,bm,har'⟩
 have HR:=Lib.hid hr
 have HK:=Lib.hid hk
 clear hk har' hr
 go_wp2
 go_ret
 exact⟨((Kept.refl _ w).alloc HB.out _).trans (HA.out.keptB HK.out),rfl,_,x.vou,HR.out⟩
theorem infoU64_:(Tryz.prog.info? 32).map (fun i=>(i.zero,i.size,i.bytes))=some (some (.int .u64 0),1,8):=by kernel_rfl
structure AppOk (B:Nat) (w:World) (x:RV) (SA:Nat→Prop) (p:Policy) (key:Int) (A:Arena) (v:VS) (n:Int):Prop where
 run:RunR B (w.alloc (.cells #[.int .u64 n] 32)) x SA p key A v
 base:B≤(w.alloc (.cells #[.int .u64 n] 32)).heap.size
 cells:∀j u,[Value.int .u64 n][j]?=some u→(w.alloc (.cells #[.int .u64 n] 32)).cell? ((⟨w.heap.size,0,none⟩:Addr).add j)=some u
 one:∀u∈ [Value.int .u64 n],u.oneCell'=true
 gr:¬(x.vou.ownBlock=some x.gr∨(w.alloc (.cells #[.int .u64 n] 32)).heap.size≤x.gr)
 gs:¬(x.vou.ownBlock=some x.gs∨(w.alloc (.cells #[.int .u64 n] 32)).heap.size≤x.gs)
 gg:¬(x.vou.ownBlock=some x.gg∨(w.alloc (.cells #[.int .u64 n] 32)).heap.size≤x.gg)
 gp:¬(x.vou.ownBlock=some x.gp∨(w.alloc (.cells #[.int .u64 n] 32)).heap.size≤x.gp)
 old:w.heap.size+1=(w.alloc (.cells #[.int .u64 n] 32)).heap.size
theorem RunR.appOk (h:RunR B w x SA p key A v) (n:Int):AppOk B w x SA p key A v n:=by
 have r1:=h.row.lt
 have r2:=h.srow.lt
 have r3:=h.ro.prog.lt
 have r4:=h.ro.pol.lt
 refine⟨h.grown ((Kept.refl _ w).alloc (Nat.le_refl _) _) h.base,Nat.le_trans h.base (by simp),cells_new w [.int .u64 n] 32,by intro u hu;simp at hu;subst hu;rfl,?_,?_,?_,?_,by simp⟩
 ·rintro(h0|h0)
  ·exact h.out.ne_row h.row (by decide) h0
  ·simp at h0;omega
 ·rintro(h0|h0)
  ·exact h.out.ne_row h.srow (by decide) h0
  ·simp at h0;omega
 ·rintro(h0|h0)
  ·exact h.out.ne_row h.ro.prog (by decide) h0
  ·simp at h0;omega
 ·rintro(h0|h0)
  ·exact h.out.ne_row h.ro.pol (by decide) h0
  ·simp at h0;omega
theorem AppOk.done {n:Int} (h:AppOk B w x SA p key A v n) {w2:World} {g2 cap2:Nat}
  (hs:Sl (fun b=>B≤b) w2 32 1 (.slice (some ⟨g2,0,none⟩) (v.r.gone.length+1) cap2) (v.r.gone.length+1) (v.r.gone.map encU++[.int .u64 n]))
  (hk:Kept (fun b=>x.vou.ownBlock=some b∨(w.alloc (.cells #[.int .u64 n] 32)).heap.size≤b) (w.alloc (.cells #[.int .u64 n] 32)) w2)
  (hl:x.vou.ownBlock=some g2∨g2=(w.alloc (.cells #[.int .u64 n] 32)).heap.size) (hB:B≤w.heap.size):
  Kept (fun b=>B≤b) w (w2.setCell ⟨x.gr,6,none⟩ (.slice (some ⟨g2,0,none⟩) (v.r.gone.length+1) cap2))∧
  RunR B (w2.setCell ⟨x.gr,6,none⟩ (.slice (some ⟨g2,0,none⟩) (v.r.gone.length+1) cap2)) {x with vou:=.slice (some ⟨g2,0,none⟩) (v.r.gone.length+1) cap2} SA p key A {v with r:={v.r with gone:=v.r.gone++[n]}}:=by
 have hst:=h.run.setOut (l:=v.r.gone++[n]) hk (fun b hb=>hb) (by simpa[encU]using hs) (fun b hb=>by
  injection hb with hb
  simp only at hb
  subst hb
  exact hl.imp id (fun e=>by rw[e];exact Nat.le_refl _))
 have e:(v.r.gone++[n]).length=v.r.gone.length+1:=by simp
 refine⟨?_,hst⟩
 exact(((Kept.refl _ w).alloc hB _).trans (hk.mono (fun b hb=>hb.elim (fun e=>h.run.out.2 b e) (fun e=>Nat.le_trans h.base e)))).setCell (p:=⟨x.gr,6,none⟩) h.run.gr0 _
set_option maxRecDepth 100000 in
set_option maxHeartbeats 2000000 in
theorem last_evict (h:RunR B w x SA p key A v) (hp:p.decls.length≤8) (hg:v.r.gone.length<goneMax) {q kt:Int} (hq:Ix p.decls.length q) (hm:MoveOk p A kt):
  Calls Tryz.prog 93 #[.pointer (some ⟨x.gr,0,none⟩),.agg #[.int .u8 2,.int .i64 q,.int .i64 0],.int .u64 kt] w (OutDo B ea w x p key v (alast p kt (.evict q) ⟨A,v.r.s.vars,v.r.gone⟩)):=by
 have ha:=h.grown ((Kept.refl _ w).alloc (Nat.le_refl _) (.cells #[.int .u8 2,.int .i64 q,.int .i64 0] 131)) h.base
 obtain⟨vl,vf,vq,bm,har⟩:=ha.arena
 have ho:=out_any har (RunR.up _ SA) hm.ok (by have:=hm.q8;omega) kt hm.un
 have c1:=h.row.cell 1
 have s0:=h.srow.cell 0
 have r1:=h.row.lt
 have r2:=h.srow.lt
 have q1:¬x.gr=w.heap.size:=by omega
 have q2:¬x.gs=w.heap.size:=by omega
 have hR:Row (w.alloc (.cells #[.int .u8 2,.int .i64 q,.int .i64 0] 131)) w.heap.size 131 [.int .u8 2,.int .i64 q,.int .i64 0]:=Row.new w _ _
 have hRS:¬(SA w.heap.size∨(w.alloc (.cells #[.int .u8 2,.int .i64 q,.int .i64 0] 131)).heap.size≤w.heap.size):=by
  rintro(h0|h0)
  ·have:=(h.sa _ h0).2;omega
  ·simp at h0;omega
 obtain⟨i0,hi0,hz0,hz1,hz2⟩:=info_parts infoU64_
 have HA:=Lib.hid ha
 have HO:=Lib.hid ho
 have HB:=Lib.hid h.base
 have HM:=Lib.hid hm
 have HR:=Lib.hid hR
 have HRS:=Lib.hid hRS
 have HQ:=Lib.hid hq
 have q4:v.r.gone.length+1≤maxLen:=by unfold goneMax at hg;unfold maxLen;omega
 have q5:(v.r.gone.length+1)*8≤140737488355328:=by unfold goneMax at hg;omega
 clear h ha har ho hm hR hRS hq hg
 simp at c1 s0
 go_enter Tryz.func93,Tryz.ntmps93
 go_wp2_with fail
 refine HO.out.mono ?_
 rintro e w1 ⟨rfl,hk,vl',vf',vq',har'⟩
 have hr:=HA.out.setArena hk ⟨vl',vf',vq',bm,har'⟩
 have hR1:=HR.out.kept hk HRS.out
 have b0:=hR1.cell 0
 have b1:=hR1.cell 1
 have hres:=resident_any hr hp (.inr HQ.out)
 have hk1:=((Kept.refl (fun b=>B≤b) w).alloc HB.out (.cells #[.int .u8 2,.int .i64 q,.int .i64 0] 131)).trans (HA.out.keptB hk)
 have HR1:=Lib.hid hr
 have HK1:=Lib.hid hk1
 have HRES:=Lib.hid hres
 clear hk har' hr hR1 hres hk1
 simp at b0 b1
 cases hd:resident p.decls q with
 |false=>
  have hres2:=HRES.out
  rw[hd]at hres2
  have HRES2:=Lib.hid hres2
  have HD:=Lib.hid hd
  clear hres2 hd
  go_wp2_with (go_at_call 91;refine HRES2.out.mono ?_;rintro e w' ⟨rfl,rfl⟩)
  go_ret
  have e:alast p kt (.evict q) ⟨A,v.r.s.vars,v.r.gone⟩= .ok ⟨A.out kt,v.r.s.vars,v.r.gone⟩:=by simp[alast,HD.out]
  rw[e]
  exact⟨HK1.out,rfl,_,x.vou,HR1.out⟩
 |true=>
  have hres2:=HRES.out
  rw[hd]at hres2
  have HRES2:=Lib.hid hres2
  have HD:=Lib.hid hd
  have hap:=HR1.out.appOk kt
  have c6:=HR1.out.row.cell 6
  have f:∀j,w1.frozen? ⟨x.gr,j,none⟩=false:=fun j=>HR1.out.row.frozen j
  have r1':=HR1.out.row.lt
  have q1':¬x.gr=w1.heap.size:=by omega
  obtain⟨gr,gg,gp,gs,ga,vd,bmv,bcv,lp,vst,vlo,vou,vva⟩:=x
  obtain⟨av,cv,rfl⟩:∃a c,vou= .slice a v.r.gone.length c:=hap.run.out.shape
  have HAP:=Lib.hid hap
  have HB1:=Lib.hid HR1.out.base
  clear hres2 hd hap
  simp at c6
  simp only at*
  go_wp2_with (first|(go_at_call 91;refine HRES2.out.mono ?_;rintro e w' ⟨rfl,rfl⟩)|(at_builtin;go_must (refine wp_append1 Tryz.underlying22 hi0 hz0 hz1 hz2 rfl (by decide) HAP.out.run.out HAP.out.base rfl _ _ rfl rfl ⟨w'.heap.size,0,none⟩ 1 1 [.int .u64 kt] rfl rfl HAP.out.cells HAP.out.one q4 q5 (Nat.succ_pos _) ?_;intro g2 cap2 w2 hs2 hk2 hloc;have e1:=(HAP.out.run.row.kept hk2 HAP.out.gr).cell 6;have e5:∀j,w2.frozen? ⟨gr,j,none⟩=false:=fun j=>(HAP.out.run.row.kept hk2 HAP.out.gr).frozen j;have Hs2:=Lib.hid hs2;have Hk2:=Lib.hid hk2;have HL:=Lib.hid hloc;clear hs2 hk2 hloc;simp at e1)))
  go_ret
  have hfin:=HAP.out.done Hs2.out Hk2.out HL.out HB1.out
  have e:alast p kt (.evict q) ⟨A,v.r.s.vars,v.r.gone⟩= .ok ⟨A.out kt,v.r.s.vars,v.r.gone++[kt]⟩:=by simp[alast,HD.out]
  rw[e]
  exact⟨HK1.out.trans hfin.1,rfl,_,_,hfin.2⟩
end
end Go.Proofs.YtepoejiigmhlbaaGreatDoor.Ev
namespace Go.Proofs.YtepoejiigmhlbaaGreatDoor.Ev
open Go Go.RowKit
section
variable {B:Nat} {ea:Nat→Addr} {w:World} {x:RV} {SA:Nat→Prop} {p:Policy} {key:Int} {A:Arena} {v:VS}
def shiftOp (tl:Bool):Int:=if tl then 4 else 3
set_option maxRecDepth 100000 in
set_option maxHeartbeats 4000000 in
theorem last_shift (h:RunR B w x SA p key A v) (he:ErrC B ea w) (hp:p.decls.length≤8) (hg:v.r.gone.length<goneMax) {q t kt:Int} (tl:Bool) (hq:Ix p.decls.length q) (ht:Ix p.decls.length t) (htk:(declAt p.decls t).kind≠2) (hm:MoveOk p A kt):
  Calls Tryz.prog 93 #[.pointer (some ⟨x.gr,0,none⟩),.agg #[.int .u8 (shiftOp tl),.int .i64 q,.int .i64 t],.int .u64 kt] w (OutDo B ea w x p key v (alast p kt (.shift q t tl) ⟨A,v.r.s.vars,v.r.gone⟩)):=by
 obtain⟨so,hso⟩:∃so,so=shiftOp tl:=⟨_,rfl⟩
 rw[←hso]
 have ha:=h.grown ((Kept.refl _ w).alloc (Nat.le_refl _) (.cells #[.int .u8 so,.int .i64 q,.int .i64 t] 131)) h.base
 have he1:=he.kept ((Kept.refl (fun b=>B≤b) w).alloc h.base (.cells #[.int .u8 so,.int .i64 q,.int .i64 t] 131)) (fun b hb=>hb)
 obtain⟨vl,vf,vq,bm,har⟩:=ha.arena
 have ho:=out_any har (RunR.up _ SA) hm.ok (by have:=hm.q8;omega) kt hm.un
 have c1:=h.row.cell 1
 have s0:=h.srow.cell 0
 have r1:=h.row.lt
 have r2:=h.srow.lt
 have q1:¬x.gr=w.heap.size:=by omega
 have q2:¬x.gs=w.heap.size:=by omega
 have hR:Row (w.alloc (.cells #[.int .u8 so,.int .i64 q,.int .i64 t] 131)) w.heap.size 131 [.int .u8 so,.int .i64 q,.int .i64 t]:=Row.new w _ _
 have hRS:¬(SA w.heap.size∨(w.alloc (.cells #[.int .u8 so,.int .i64 q,.int .i64 t] 131)).heap.size≤w.heap.size):=by
  rintro(h0|h0)
  ·have:=(h.sa _ h0).2;omega
  ·simp at h0;omega
 obtain⟨i0,hi0,hz0,hz1,hz2⟩:=info_parts infoU64_
 have HA:=Lib.hid ha
 have HE:=Lib.hid he1
 have HO:=Lib.hid ho
 have HB:=Lib.hid h.base
 have HM:=Lib.hid hm
 have HR:=Lib.hid hR
 have HRS:=Lib.hid hRS
 have HQ:=Lib.hid hq
 have HT:=Lib.hid ht
 have HTK:=Lib.hid htk
 have q4:v.r.gone.length+1≤maxLen:=by unfold goneMax at hg;unfold maxLen;omega
 have q5:(v.r.gone.length+1)*8≤140737488355328:=by unfold goneMax at hg;omega
 have hso8:decide (so=8)=false∧decide (so=2)=false∧decide (so=4)=tl:=by subst hso;cases tl<;>exact⟨rfl,rfl,rfl⟩
 obtain⟨hso8,hso2,hso4⟩:=hso8
 have hsb8:(so==8)=false:=by simpa using hso8
 have hsb2:(so==2)=false:=by simpa using hso2
 have hsb4:(so==4)=tl:=by rw[←hso4];rfl
 clear h he he1 ha har ho hm hR hRS hq ht htk hg hso
 simp at c1 s0
 go_enter Tryz.func93,Tryz.ntmps93
 go_wp2_with fail
 refine HO.out.mono ?_
 rintro e w1 ⟨rfl,hk,vl',vf',vq',har'⟩
 have hr:=HA.out.setArena hk ⟨vl',vf',vq',bm,har'⟩
 have hR1:=HR.out.kept hk HRS.out
 have he2:=HE.out.kept (HA.out.keptB hk) (fun b hb=>hb)
 have b0:=hR1.cell 0
 have b1:=hR1.cell 1
 have b2:=hR1.cell 2
 have hk1:=((Kept.refl (fun b=>B≤b) w).alloc HB.out (.cells #[.int .u8 so,.int .i64 q,.int .i64 t] 131)).trans (HA.out.keptB hk)
 have hrl:=hR1.lt
 have hns:¬((SA w.heap.size∨(w.alloc (.cells #[.int .u8 so,.int .i64 q,.int .i64 t] 131)).heap.size≤w.heap.size)∧w.heap.size<w1.heap.size):=fun h=>HRS.out h.1
 generalize hsa:(fun b=>(SA b∨(w.alloc (.cells #[.int .u8 so,.int .i64 q,.int .i64 t] 131)).heap.size≤b)∧b<w1.heap.size)=SA1 at hr
 have hns1:¬SA1 w.heap.size:=by rw[←hsa];exact hns
 have hfull:=full_any hr HM.out.ok' hp (HM.out.len.trans HM.out.ql) HT.out
 have HFULL:=Lib.hid hfull
 have HR1:=Lib.hid hr
 have HK1:=Lib.hid hk1
 have HRR:=Lib.hid hR1
 have HE2:=Lib.hid he2
 have HNS:=Lib.hid hns1
 clear hk har' hr hR1 hk1 hns hns1 hsa hfull he2
 simp at b0 b1 b2
 go_wp2_with fail
 refine HFULL.out.mono ?_
 rintro e w2 ⟨rfl,nf,rfl⟩
 cases hfl:afull p.decls (A.out kt) t with
 |true=>
  have HFL:=Lib.hid hfl
  have ef:=HE2.out.full
  clear hfl
  go_wp2
  go_ret
  have e:alast p kt (.shift q t tl) ⟨A,v.r.s.vars,v.r.gone⟩= .error eFull:=by simp[alast,HFL.out]
  rw[e]
  exact⟨HK1.out.drewN _,rfl⟩
 |false=>
  have HFL:=Lib.hid hfl
  clear hfl
  have hr2:=HR1.out.grown (w':=w1.drewN nf) ((Kept.refl _ _).drewN _) HR1.out.base
  have hresq:=resident_any hr2 hp (.inr HQ.out)
  have hrest:=resident_any hr2 hp (.inr HT.out)
  have hcin:=HM.out.cin t HT.out HTK.out HFL.out
  have HCIN:=Lib.hid hcin
  have htn:((t.toNat:Nat):Int)=t:=by have:=HT.out.1;omega
  have HRESQ:=Lib.hid hresq
  have HREST:=Lib.hid hrest
  have HR2:=Lib.hid hr2
  clear hresq hrest hr2 hcin
  cases hdq:resident p.decls q with
  |false=>
   have h1:=HRESQ.out
   rw[hdq]at h1
   have H1:=Lib.hid h1
   have HD:=Lib.hid hdq
   obtain⟨vl3,vf3,vq3,bm3,har3⟩:=HR2.out.arena
   have hin:=in_any har3 (RunR.up _ SA1) HM.out.ok' (by have:=HM.out.q8;rw[HM.out.len];omega) kt (A.outFreq kt) t.toNat tl HCIN.out
   rw[htn]at hin
   have HIN:=Lib.hid hin
   clear h1 hdq har3 hin
   go_wp2_with (first|(go_at_call 91;refine H1.out.mono ?_;rintro e w' ⟨rfl,rfl⟩)|(go_at_call 92;refine HIN.out.mono ?_;rintro e w' ⟨rfl,hk4,vl4,vf4,vq4,har4⟩;have hr4:=HR2.out.setArena hk4 ⟨vl4,vf4,vq4,bm3,har4⟩;have HR4:=Lib.hid hr4;have HK4:=Lib.hid (HR2.out.keptB hk4);clear hk4 har4 hr4))
   go_ret
   have e:alast p kt (.shift q t tl) ⟨A,v.r.s.vars,v.r.gone⟩= .ok ⟨(A.out kt).in_ kt (A.outFreq kt) t.toNat tl,v.r.s.vars,v.r.gone⟩:=by simp[alast,HFL.out,HD.out]
   rw[e]
   exact⟨(HK1.out.drewN _).trans HK4.out,rfl,_,x.vou,HR4.out⟩
  |true=>
   have h1:=HRESQ.out
   rw[hdq]at h1
   have H1:=Lib.hid h1
   have HD:=Lib.hid hdq
   clear h1 hdq
   cases hdt:resident p.decls t with
   |true=>
    have h2:=HREST.out
    rw[hdt]at h2
    have H2:=Lib.hid h2
    have HDT:=Lib.hid hdt
    obtain⟨vl3,vf3,vq3,bm3,har3⟩:=HR2.out.arena
    have hin:=in_any har3 (RunR.up _ SA1) HM.out.ok' (by have:=HM.out.q8;rw[HM.out.len];omega) kt (A.outFreq kt) t.toNat tl HCIN.out
    rw[htn]at hin
    have HIN:=Lib.hid hin
    clear h2 hdt har3 hin
    have tok1:True:=trivial
    go_wp2_with (first|(go_at_call 91;have _t:=tok1;refine H1.out.mono ?_;rintro e w' ⟨rfl,rfl⟩;clear tok1 _t)|(go_at_call 91;refine H2.out.mono ?_;rintro e w' ⟨rfl,rfl⟩)|(go_at_call 92;refine HIN.out.mono ?_;rintro e w' ⟨rfl,hk4,vl4,vf4,vq4,har4⟩;have hr4:=HR2.out.setArena hk4 ⟨vl4,vf4,vq4,bm3,har4⟩;have HR4:=Lib.hid hr4;have HK4:=Lib.hid (HR2.out.keptB hk4);clear hk4 har4 hr4))
    go_ret
    have e:alast p kt (.shift q t tl) ⟨A,v.r.s.vars,v.r.gone⟩= .ok ⟨(A.out kt).in_ kt (A.outFreq kt) t.toNat tl,v.r.s.vars,v.r.gone⟩:=by simp[alast,HFL.out,HD.out,HDT.out]
    rw[e]
    exact⟨(HK1.out.drewN _).trans HK4.out,rfl,_,x.vou,HR4.out⟩
   |false=>
    have h2:=HREST.out
    rw[hdt]at h2
    have H2:=Lib.hid h2
    have HDT:=Lib.hid hdt
    have hap:=HR2.out.appOk kt
    have c6:=HR2.out.row.cell 6
    have f:∀j,(w1.drewN nf).frozen? ⟨x.gr,j,none⟩=false:=fun j=>HR2.out.row.frozen j
    have r1':x.gr<w1.heap.size:=HR2.out.row.lt
    have q1':¬x.gr=w1.heap.size:=by omega
    have hBo:=HRR.out.drewN nf|>.alloc (.cells #[.int .u64 kt] 32)
    have hBn:¬(x.vou.ownBlock=some w.heap.size∨((w1.drewN nf).alloc (.cells #[.int .u64 kt] 32)).heap.size≤w.heap.size):=by
     rintro(h0|h0)
     ·exact hap.run.out.ne_row hBo (by decide) h0
     ·simp at h0;omega
    obtain⟨gr,gg,gp,gs,ga,vd,bmv,bcv,lp,vst,vlo,vou,vva⟩:=x
    obtain⟨av,cv,rfl⟩:∃a c,vou= .slice a v.r.gone.length c:=hap.run.out.shape
    have HAP:=Lib.hid hap
    have HBO:=Lib.hid hBo
    have HBN:=Lib.hid hBn
    have HB1:=Lib.hid HR2.out.base
    clear h2 hdt hap hBo hBn
    simp at c6
    simp only at*
    have tok1:True:=trivial
    go_wp2_with (first|(go_at_call 91;have _t:=tok1;refine H1.out.mono ?_;rintro e w' ⟨rfl,rfl⟩;clear tok1 _t)|(go_at_call 91;refine H2.out.mono ?_;rintro e w' ⟨rfl,rfl⟩)|(at_builtin;go_must (refine wp_append1 Tryz.underlying22 hi0 hz0 hz1 hz2 rfl (by decide) HAP.out.run.out HAP.out.base rfl _ _ rfl rfl ⟨(w1.drewN nf).heap.size,0,none⟩ 1 1 [.int .u64 kt] rfl rfl HAP.out.cells HAP.out.one q4 q5 (Nat.succ_pos _) ?_;intro g2 cap2 w2 hs2 hk2 hloc;have e1:=(HAP.out.run.row.kept hk2 HAP.out.gr).cell 6;have e5:∀j,w2.frozen? ⟨gr,j,none⟩=false:=fun j=>(HAP.out.run.row.kept hk2 HAP.out.gr).frozen j;have e6:=(HBO.out.kept hk2 HBN.out).cell 0;have e7:=(HBO.out.kept hk2 HBN.out).cell 2;have e8:¬w.heap.size=gr:=(HBO.out.kept hk2 HBN.out).ne_ (HAP.out.run.row.kept hk2 HAP.out.gr) (by decide);have Hs2:=Lib.hid hs2;have Hk2:=Lib.hid hk2;have HL:=Lib.hid hloc;clear hs2 hk2 hloc;simp at e1 e6 e7)))
    have hfin:=HAP.out.done Hs2.out Hk2.out HL.out HB1.out
    obtain⟨vl3,vf3,vq3,bm3,har3⟩:=hfin.2.arena
    have hin:=in_any har3 (RunR.up _ SA1) HM.out.ok' (by have:=HM.out.q8;rw[HM.out.len];omega) kt (A.outFreq kt) t.toNat tl HCIN.out
    rw[htn]at hin
    have HIN:=Lib.hid hin
    have HFIN:=Lib.hid hfin
    clear har3 hin hfin
    go_wp2_with (go_at_call 92;refine HIN.out.mono ?_;rintro e w' ⟨rfl,hk4,vl4,vf4,vq4,har4⟩;have hr4:=HFIN.out.2.setArena hk4 ⟨vl4,vf4,vq4,bm3,har4⟩;have HR4:=Lib.hid hr4;have HK4:=Lib.hid (HFIN.out.2.keptB hk4);clear hk4 har4 hr4)
    go_ret
    have e:alast p kt (.shift q t tl) ⟨A,v.r.s.vars,v.r.gone⟩= .ok ⟨(A.out kt).in_ kt (A.outFreq kt) t.toNat tl,v.r.s.vars,v.r.gone++[kt]⟩:=by simp[alast,HFL.out,HD.out,HDT.out]
    rw[e]
    exact⟨((HK1.out.drewN _).trans HFIN.out.1).trans HK4.out,rfl,_,_,HR4.out⟩
end
end Go.Proofs.YtepoejiigmhlbaaGreatDoor.Ev
namespace Go.Proofs.YtepoejiigmhlbaaGreatDoor.Ev
open Go Go.RowKit
section
variable {B:Nat} {ea:Nat→Addr} {w:World} {x:RV} {SA:Nat→Prop} {p:Policy} {key:Int} {A:Arena} {v:VS}
def lastOp:Prim→Int
 | .evict _=>2
 | .shift _ _ tl=>shiftOp tl
 |_=>8
def lastA:Prim→Int
 | .evict q=>q
 | .shift q _ _=>q
 | .cool q=>q
 |_=>0
def lastB:Prim→Int
 | .shift _ t _=>t
 |_=>0
def isLast:Prim→Bool
 | .evict _=>true
 | .shift _ _ _=>true
 | .cool _=>true
 |_=>false
theorem last_any (h:RunR B w x SA p key A v) (he:ErrC B ea w) (hp:PolW p) (hg:v.r.gone.length<goneMax) {y:Prim} (hy:PrimOk p.decls y) (hl:isLast y=true) {kt:Int} (hm:MoveOk p A kt):
  Calls Tryz.prog 93 #[.pointer (some ⟨x.gr,0,none⟩),.agg #[.int .u8 (lastOp y),.int .i64 (lastA y),.int .i64 (lastB y)],.int .u64 kt] w (OutDo B ea w x p key v (alast p kt y ⟨A,v.r.s.vars,v.r.gone⟩)):=by
 cases y with
 |evict q=>exact last_evict h hp.decls.len hg hy hm
 |cool q=>exact last_cool h hp hm.ok q kt
 |shift q t tl=>exact last_shift h he hp.decls.len hg tl hy.1 hy.2.1 hy.2.2 hm
 |_=>cases hl
set_option maxRecDepth 100000 in
set_option maxHeartbeats 4000000 in
theorem do_last (h:RunR B w x SA p key A v) (he:ErrC B ea w) (hp:PolW p) (hg:v.r.gone.length<goneMax) {y:Prim} (hy:PrimOk p.decls y) (hl:isLast y=true) (hq:Ix p.decls.length (lastA y))
  (ok:A.Ok) (hql:A.qs.length=p.decls.length) (hm:0<alen A (lastA y)→MoveOk p A (A.tail (lastA y).toNat)):
  Calls Tryz.prog 54 #[.pointer (some ⟨x.gr,0,none⟩),.agg #[.int .u8 (lastOp y),.int .i64 (lastA y),.int .i64 (lastB y)]] w
   (OutDo B ea w x p key v (if alen A (lastA y)=0 then .error eEmpty else alast p (A.tail (lastA y).toNat) y ⟨A,v.r.s.vars,v.r.gone⟩)):=by
 have ha:=h.grown ((Kept.refl _ w).alloc (Nat.le_refl _) (.cells #[.int .u8 (lastOp y),.int .i64 (lastA y),.int .i64 (lastB y)] 131)) h.base
 have he1:=he.kept ((Kept.refl (fun b=>B≤b) w).alloc h.base (.cells #[.int .u8 (lastOp y),.int .i64 (lastA y),.int .i64 (lastB y)] 131)) (fun b hb=>hb)
 have h8:=hp.decls.len
 obtain⟨vl,vf,vq,bm,har⟩:=ha.ar
 have hqa:(lastA y).toNat<A.qs.length:=by unfold Ix at hq;omega
 have hlen:=len_any har ok (lastA y).toNat hqa (by omega)
 have htl:=fun k=>tail_any (har.drewN k) ok (lastA y).toNat hqa (by omega)
 have hqn:(((lastA y).toNat:Nat):Int)=lastA y:=by have:=hq.1;omega
 rw[hqn]at hlen
 have hal:A.len (lastA y).toNat=alen A (lastA y):=rfl
 rw[hal]at hlen
 have htl2:∀k,Calls Tryz.prog 90 #[.pointer (some ⟨x.ga,0,none⟩),.int .i64 (lastA y)] ((w.alloc (.cells #[.int .u8 (lastOp y),.int .i64 (lastA y),.int .i64 (lastB y)] 131)).drewN k) fun e w'=>e= .returned (.int .u64 (A.tail (lastA y).toNat))∧∃n,w'=((w.alloc (.cells #[.int .u8 (lastOp y),.int .i64 (lastA y),.int .i64 (lastB y)] 131)).drewN k).drewN n:=by
  intro k
  have:=htl k
  rw[hqn]at this
  exact this
 have hl2:=fun(hpos:0<alen A (lastA y)) k=>last_any (ea:=ea) (ha.grown (w':=(w.alloc (.cells #[.int .u8 (lastOp y),.int .i64 (lastA y),.int .i64 (lastB y)] 131)).drewN k) ((Kept.refl _ _).drewN k) ha.base) (he1.kept ((Kept.refl (fun b=>B≤b) _).drewN k) (fun b hb=>hb)) hp hg hy hl (hm hpos)
 have c1:=h.row.cell 1
 have s0:=h.srow.cell 0
 have r1:=h.row.lt
 have r2:=h.srow.lt
 have q1:¬x.gr=w.heap.size:=by omega
 have q2:¬x.gs=w.heap.size:=by omega
 have ef:=he1.emp
 have hop:lastOp y=2∨lastOp y=3∨lastOp y=4∨lastOp y=8:=by
  cases y with
  |evict q=>exact .inl rfl
  |cool q=>exact .inr (.inr (.inr rfl))
  |shift q t tl=>cases tl;exact .inr (.inl rfl);exact .inr (.inr (.inl rfl))
  |_=>cases hl
 clear hy hl hq hm hqa hqn hal htl ok hql hp h8
 generalize hres:alast p (A.tail (lastA y).toNat) y ⟨A,v.r.s.vars,v.r.gone⟩=RES at*
 generalize hkt:A.tail (lastA y).toNat=KT at*
 generalize ho:lastOp y=o at*
 generalize hqa2:lastA y=QA at*
 generalize hqb2:lastB y=QB at*
 generalize alen A QA=L at*
 have HA:=Lib.hid ha
 have HLN:=Lib.hid hlen
 have HTL:=Lib.hid htl2
 have HL2:=Lib.hid hl2
 have HB:=Lib.hid h.base
 clear h he he1 ha hg har hlen htl2 hl2 ho hkt hqa2 hqb2 hres
 simp at c1 s0
 by_cases hz:L=0
 ·subst hz
  rw[show((0:Nat):Int)=0 from rfl]at HLN
  have HZ:=Lib.hid (True.intro)
  rcases hop with rfl|rfl|rfl|rfl
  all_goals
   go_enter Tryz.func54,Tryz.ntmps54
   go_wp2_with (go_at_call 86;refine HLN.out.mono ?_;rintro e w' ⟨rfl,rfl⟩)
   go_ret
   exact⟨(Kept.refl _ w).alloc HB.out _,rfl⟩
 ·have hpos:0<L:=Nat.pos_of_ne_zero hz
  have b1:((L:Int)==0)=false:=by simpa using hz
  have b2:decide ((L:Int)=0)=false:=by simpa using hz
  rw[if_neg hz]
  cases RES with
  |error k=>
   rcases hop with rfl|rfl|rfl|rfl
   all_goals
    go_enter Tryz.func54,Tryz.ntmps54
    go_wp2_with (go_at_call 86;refine HLN.out.mono ?_;rintro e w' ⟨rfl,rfl⟩)
    refine wp_qtail 6 (by kernel_rfl) (by kernel_rfl) ?_
    simp only[List.take_succ_cons,List.take_zero,List.drop_succ_cons,List.drop_zero]
    repeat (go_big_quiet_step ((go_at_call 90;exact Calls.quiet_of (HTL.out _))))
    refine wpQuiet_nil ?_
    intro nq
    go_wp2_with (go_at_call 93;refine(HL2.out hpos _).mono ?_;rintro e w' ⟨hk,rfl⟩)
    go_ret
    exact⟨((Kept.refl (fun b=>B≤b) w).alloc HB.out _).drewN nq|>.trans hk,rfl⟩
  |ok r'=>
   rcases hop with rfl|rfl|rfl|rfl
   all_goals
    go_enter Tryz.func54,Tryz.ntmps54
    go_wp2_with (go_at_call 86;refine HLN.out.mono ?_;rintro e w' ⟨rfl,rfl⟩)
    refine wp_qtail 6 (by kernel_rfl) (by kernel_rfl) ?_
    simp only[List.take_succ_cons,List.take_zero,List.drop_succ_cons,List.drop_zero]
    repeat (go_big_quiet_step ((go_at_call 90;exact Calls.quiet_of (HTL.out _))))
    refine wpQuiet_nil ?_
    intro nq
    go_wp2_with (go_at_call 93;refine(HL2.out hpos _).mono ?_;rintro e w' ⟨hk,rfl,hr⟩;have HR:=Lib.hid hr;clear hr)
    go_ret
    exact⟨((Kept.refl (fun b=>B≤b) w).alloc HB.out _).drewN nq|>.trans hk,rfl,HR.out⟩
end
end Go.Proofs.YtepoejiigmhlbaaGreatDoor.Ev
namespace Go.Proofs.YtepoejiigmhlbaaGreatDoor.Ev
open Go Go.RowKit
section
variable {B:Nat} {ea:Nat→Addr} {w:World} {x:RV} {SA:Nat→Prop} {p:Policy} {key:Int} {A:Arena} {v:VS}
set_option maxRecDepth 100000 in
set_option maxHeartbeats 4000000 in
theorem do_bump (h:RunR B w x SA p key A v) (hp:PolW p) (ok:A.Ok):
  Calls Tryz.prog 54 #[.pointer (some ⟨x.gr,0,none⟩),.agg #[.int .u8 7,.int .i64 0,.int .i64 0]] w (OutDo B ea w x p key v (aprim p key .bump ⟨A,v.r.s.vars,v.r.gone⟩)):=by
 have ha:=h.grown ((Kept.refl _ w).alloc (Nat.le_refl _) (.cells #[.int .u8 7,.int .i64 0,.int .i64 0] 131)) h.base
 have hfq:=hp.freq
 have hT:∀k,Calls Tryz.prog 94 #[.pointer (some ⟨x.ga,0,none⟩),.int .u64 key,.int .i64 1,.int .i64 p.freq] ((w.alloc (.cells #[.int .u8 7,.int .i64 0,.int .i64 0] 131)).drewN k) fun e w'=>
   e= .returned (.tuple #[])∧Kept (fun b=>B≤b) ((w.alloc (.cells #[.int .u8 7,.int .i64 0,.int .i64 0] 131)).drewN k) w'∧∃SA',RunR B w' x SA' p key (A.tune key 1 p.freq) v:=by
  intro k
  have hk:=ha.grown (w':=(w.alloc (.cells #[.int .u8 7,.int .i64 0,.int .i64 0] 131)).drewN k) ((Kept.refl _ _).drewN k) ha.base
  obtain⟨vl,vf,vq,bm,har⟩:=hk.arena
  refine(tune_any har ok key 1 p.freq (by omega) (by omega)).mono ?_
  rintro e w' ⟨rfl,hk2,vl',har'⟩
  exact⟨rfl,hk.keptB hk2,_,hk.setArena hk2 ⟨vl',vf,vq,bm,har'⟩⟩
 have c0:=h.row.cell 0
 have c1:=h.row.cell 1
 have c2:=h.row.cell 2
 have s0:=h.srow.cell 0
 have g0:=h.ro.prog.cell 0
 have p1:=h.ro.pol.cell 1
 have r1:=h.row.lt
 have r2:=h.srow.lt
 have r3:=h.ro.prog.lt
 have r4:=h.ro.pol.lt
 have q1:¬x.gr=w.heap.size:=by omega
 have q2:¬x.gs=w.heap.size:=by omega
 have q3:¬x.gg=w.heap.size:=by omega
 have q4:¬x.gp=w.heap.size:=by omega
 have HT:=Lib.hid hT
 have HB:=Lib.hid h.base
 clear h ha hT hp hfq ok
 simp at c0 c1 c2 s0 g0 p1
 go_enter Tryz.func54,Tryz.ntmps54
 go_wp2_with fail
 refine wp_qtail 15 (by kernel_rfl) (by kernel_rfl) ?_
 simp only[List.take_succ_cons,List.take_zero,List.drop_succ_cons,List.drop_zero]
 repeat (go_big_quiet_step (fail))
 refine wpQuiet_nil ?_
 intro nq
 go_wp2_with (go_at_call 94;refine(HT.out _).mono ?_;rintro e w' ⟨rfl,hk,hr⟩;have HR:=Lib.hid hr;clear hr)
 go_ret
 obtain⟨SA',hr⟩:=HR.out
 exact⟨((Kept.refl (fun b=>B≤b) w).alloc HB.out _).drewN nq|>.trans hk,rfl,SA',x.vou,hr⟩
set_option maxRecDepth 100000 in
set_option maxHeartbeats 4000000 in
theorem do_var (h:RunR B w x SA p key A v) (h8:p.decls.length≤8) (hv:v.r.s.vars.length=p.decls.length) {n by_:Int} (hn:Ix p.decls.length n) (hb:by_=1∨by_= -1) (h0:0≤v.r.s.var n) (h9:v.r.s.var n≤99) (hm:(declAt p.decls n).max≤99):
  Calls Tryz.prog 54 #[.pointer (some ⟨x.gr,0,none⟩),.agg #[.int .u8 6,.int .i64 n,.int .i64 by_]] w
   (OutDo B ea w x p key v (.ok ⟨A,v.r.s.vars.set n.toNat (clampUp (v.r.s.var n) by_ (declAt p.decls n).max),v.r.gone⟩)):=by
 have ha:=h.grown ((Kept.refl _ w).alloc (Nat.le_refl _) (.cells #[.int .u8 6,.int .i64 n,.int .i64 by_] 131)) h.base
 obtain⟨m,rfl⟩:∃m:Nat,n=(m:Int):=⟨n.toNat,by unfold Ix at hn;omega⟩
 have hmd:m<p.decls.length:=by unfold Ix at hn;omega
 have hmv:m<v.r.s.vars.length:=by omega
 obtain⟨gd,cd,e1,hcd,hcdm,_,d2⟩:=h.ro.decl hn
 rw[Int.toNat_natCast]at d2 ⊢
 obtain⟨g,cap,e,hgB,hcap,hcm,hgl⟩:=h.vars.form (by omega)
 have hc:w.cell? ⟨g,m,none⟩=some (.int .i64 (v.r.s.var m)):=by
  have h1:=h.vars
  rw[e]at h1
  have h2:=h1.1.cellAt m (by simpa using hmv)
  refine h2.trans ?_
  unfold St.var
  rw[Int.toNat_natCast,List.getElem?_map,List.getElem?_eq_getElem hmv]
  rfl
 have hfz:∀j,w.frozen? ⟨g,j,none⟩=false:=by
  intro j
  have h1:=h.vars
  rw[e]at h1
  exact h1.1.frozenAt j
 have hfin:∀k c,c=clampUp (v.r.s.var m) by_ (declAt p.decls m).max→RunR B (((w.alloc (.cells #[.int .u8 6,.int .i64 m,.int .i64 by_] 131)).drewN k).setCell ⟨g,m,none⟩ (.int .i64 c)) x SA p key A
   {v with r:=⟨⟨v.r.s.q,v.r.s.vars.set m (clampUp (v.r.s.var m) by_ (declAt p.decls m).max)⟩,v.r.gone⟩}:=by
  rintro k _ rfl
  have hk:=ha.grown (w':=(w.alloc (.cells #[.int .u8 6,.int .i64 m,.int .i64 by_] 131)).drewN k) ((Kept.refl _ _).drewN k) ha.base
  generalize clampUp (v.r.s.var m) by_ (declAt p.decls m).max=V
  have hs:=(hk.vars).set1 encI (i:=m) e V
  have k3:Kept (fun b=>b=g) ((w.alloc (.cells #[.int .u8 6,.int .i64 m,.int .i64 by_] 131)).drewN k) (((w.alloc (.cells #[.int .u8 6,.int .i64 m,.int .i64 by_] 131)).drewN k).setCell ⟨g,m,none⟩ (.int .i64 V)):=Kept.one _ ⟨g,m,none⟩ _
  have hown:x.vva.ownBlock=some g:=by rw[e];rfl
  obtain⟨vl,vf,vq,bm,har⟩:=hk.ar
  exact⟨hk.ro.kept k3 (fun b hb=>hb▸hgB),hk.row.kept k3 (fun e=>hk.vars.ne_row hk.row (by decide) (e▸hown)),hk.srow.kept k3 (fun e=>hk.vars.ne_row hk.srow (by decide) (e▸hown)),hk.stack.kept k3 (fun b hb e=>hk.a2 b hb (e▸hown)),hk.loops.kept k3 (fun b hb e=>hk.a3 b hb (e▸hown)),
   hk.out.kept k3 (fun b hb e=>hk.vars.apart_ne hk.out (by decide) b (e▸hown) hb),hs,⟨vl,vf,vq,bm,har.kept k3 (fun b hb e=>hk.s4 b (e▸hown) hb)⟩,hk.gr0,hk.gs0,fun b hb=>⟨(hk.sa b hb).1,Nat.lt_of_lt_of_le (hk.sa b hb).2 k3.size⟩,hk.sr,hk.ss,hk.s1,hk.s2,hk.s3,hk.s4,hk.a1,hk.a2,hk.a3⟩
 have hkf:∀k V,Kept (fun b=>B≤b) w (((w.alloc (.cells #[.int .u8 6,.int .i64 m,.int .i64 by_] 131)).drewN k).setCell ⟨g,m,none⟩ (.int .i64 V)):=fun k V=>(((Kept.refl _ w).alloc h.base _).drewN k).setCell (p:=⟨g,m,none⟩) hgB _
 have c0:=h.row.cell 0
 have c1:=h.row.cell 1
 have s1:=h.srow.cell 1
 have s0:=h.srow.cell 0
 have g0:=h.ro.prog.cell 0
 have p0:=h.ro.pol.cell 0
 rw[e]at s1
 rw[e1]at p0
 have r1:=h.row.lt
 have r2:=h.srow.lt
 have r3:=h.ro.prog.lt
 have r4:=h.ro.pol.lt
 have r5:gd<w.heap.size:=by
  have h1:=h.ro.decls
  rw[e1]at h1
  exact h1.lt rfl
 have q1:¬x.gr=w.heap.size:=by omega
 have q2:¬x.gs=w.heap.size:=by omega
 have q3:¬x.gg=w.heap.size:=by omega
 have q4:¬x.gp=w.heap.size:=by omega
 have q5:¬gd=w.heap.size:=by omega
 have q6:¬g=w.heap.size:=by omega
 have HF:=Lib.hid hfin
 have HK:=Lib.hid hkf
 clear h ha hn e e1 hfin hkf
 generalize v.r.s.var m=V at*
 generalize (declAt p.decls m).max=M at*
 rw[hv]at s1 hcap
 generalize p.decls.length=D at*
 clear hv hmv
 unfold maxLen at hcdm hcm
 simp at c0 c1 s0 s1 g0 p0
 have hbv:V+by_≤100∧-1≤V+by_∧-1≤by_∧by_≤1:=by rcases hb with rfl|rfl<;>omega
 obtain⟨b1,b2,b3,b4⟩:=hbv
 have HBB:=Lib.hid hb
 have hwr:IntKind.i64.wrap (V+by_)=V+by_:=IntWalk.i64_in _ (by omega)
 clear hb
 go_enter Tryz.func54,Tryz.ntmps54
 go_wp2_with fail
 refine wp_qtail 41 (by kernel_rfl) (by kernel_rfl) ?_
 simp only[List.take_succ_cons,List.take_zero,List.drop_succ_cons,List.drop_zero]
 repeat (go_big_quiet_step (fail))
 refine wpQuiet_nil ?_
 intro nq
 go_wp2
 all_goals
  go_ret
  exact⟨HK.out _ _,rfl,SA,x.vou,HF.out _ _ (by unfold clampUp;omega)⟩
end
end Go.Proofs.YtepoejiigmhlbaaGreatDoor.Ev
namespace Go.Proofs.YtepoejiigmhlbaaGreatDoor.Ev
open Go Go.RowKit
section
variable {B:Nat} {ea:Nat→Addr} {w:World} {x:RV} {SA:Nat→Prop} {p:Policy} {key:Int} {A:Arena} {v:VS}
structure AppD (B:Nat) (w:World) (x:RV) (SA:Nat→Prop) (p:Policy) (key:Int) (A:Arena) (v:VS) (n:Int):Prop where
 run:RunR B (w.alloc (.cells #[.int .u64 n] 32)).drew x SA p key A v
 base:B≤((w.alloc (.cells #[.int .u64 n] 32)).drew).heap.size
 cells:∀j u,[Value.int .u64 n][j]?=some u→((w.alloc (.cells #[.int .u64 n] 32)).drew).cell? ((⟨w.heap.size,0,none⟩:Addr).add j)=some u
 one:∀u∈ [Value.int .u64 n],u.oneCell'=true
 gr:¬(x.vou.ownBlock=some x.gr∨((w.alloc (.cells #[.int .u64 n] 32)).drew).heap.size≤x.gr)
 done:∀(w2:World) (g2 cap2:Nat),Sl (fun b=>B≤b) w2 32 1 (.slice (some ⟨g2,0,none⟩) (v.r.gone.length+1) cap2) (v.r.gone.length+1) (v.r.gone.map encU++[.int .u64 n])→
  Kept (fun b=>x.vou.ownBlock=some b∨((w.alloc (.cells #[.int .u64 n] 32)).drew).heap.size≤b) ((w.alloc (.cells #[.int .u64 n] 32)).drew) w2→
  (x.vou.ownBlock=some g2∨g2=((w.alloc (.cells #[.int .u64 n] 32)).drew).heap.size)→
  Kept (fun b=>B≤b) w (w2.setCell ⟨x.gr,6,none⟩ (.slice (some ⟨g2,0,none⟩) (v.r.gone.length+1) cap2))∧
  RunR B (w2.setCell ⟨x.gr,6,none⟩ (.slice (some ⟨g2,0,none⟩) (v.r.gone.length+1) cap2)) {x with vou:=.slice (some ⟨g2,0,none⟩) (v.r.gone.length+1) cap2} SA p key A {v with r:={v.r with gone:=v.r.gone++[n]}}
theorem RunR.appD (h:RunR B w x SA p key A v) (n:Int):AppD B w x SA p key A v n:=by
 have hd:=h.grown (w':=w.drew) (Kept.refl _ _).drew h.base
 have ha:=hd.appOk n
 refine⟨ha.run,ha.base,ha.cells,ha.one,ha.gr,fun w2 g2 cap2 h1 h2 h3=>?_⟩
 have:=ha.done h1 h2 h3 h.base
 exact⟨((Kept.refl (fun b=>B≤b) w).drew).trans this.1,this.2⟩
set_option maxRecDepth 100000 in
set_option maxHeartbeats 4000000 in
theorem do_drop (h:RunR B w x SA p key A v) (hp:p.decls.length≤8) (hg:v.r.gone.length<goneMax) (hm:MoveOk p A key):
  Calls Tryz.prog 54 #[.pointer (some ⟨x.gr,0,none⟩),.agg #[.int .u8 5,.int .i64 0,.int .i64 0]] w (OutDo B ea w x p key v (aprim p key .drop ⟨A,v.r.s.vars,v.r.gone⟩)):=by
 have ha:=h.grown ((Kept.refl _ w).alloc (Nat.le_refl _) (.cells #[.int .u8 5,.int .i64 0,.int .i64 0] 131)) h.base
 obtain⟨vl,vf,vq,bm,har⟩:=ha.ar
 have hw:=where_any har hm.ok key
 have hres:=resident_any ha hp hm.wh
 have c1:=h.row.cell 1
 have c2:=h.row.cell 2
 have c6:=h.row.cell 6
 have f:=fun j=>h.row.frozen j
 have s0:=h.srow.cell 0
 have r1:=h.row.lt
 have r2:=h.srow.lt
 have q1:¬x.gr=w.heap.size:=by omega
 have q2:¬x.gs=w.heap.size:=by omega
 have q3:¬x.gr=w.heap.size+1:=by omega
 obtain⟨i0,hi0,hz0,hz1,hz2⟩:=info_parts infoU64_
 have q4:v.r.gone.length+1≤maxLen:=by unfold goneMax at hg;unfold maxLen;omega
 have q5:(v.r.gone.length+1)*8≤140737488355328:=by unfold goneMax at hg;omega
 have HA:=Lib.hid ha
 have HW:=Lib.hid hw
 have HRES:=Lib.hid hres
 have HB:=Lib.hid h.base
 have HM:=Lib.hid hm
 clear h ha har hw hres hm hg
 simp at c1 c2 c6 s0
 cases hd:resident p.decls (A.where_ key)with
 |false=>
  have h1:=HRES.out
  rw[hd]at h1
  have H1:=Lib.hid h1
  have HD:=Lib.hid hd
  obtain⟨vl,vf,vq,bm,har⟩:=HA.out.arena
  have ho:=out_any har (RunR.up _ SA) HM.out.ok (by have:=HM.out.q8;omega) key HM.out.un
  have HO:=Lib.hid ho
  clear h1 hd har ho
  go_enter Tryz.func54,Tryz.ntmps54
  go_wp2_with (first|(go_at_call 25;refine HW.out.mono ?_;rintro e w' ⟨rfl,rfl⟩)|(go_at_call 91;refine H1.out.mono ?_;rintro e w' ⟨rfl,rfl⟩)|(go_at_call 28;refine HO.out.mono ?_;rintro e w' ⟨rfl,hk4,vl4,vf4,vq4,har4⟩;have hr4:=HA.out.setArena hk4 ⟨vl4,vf4,vq4,bm,har4⟩;have HR4:=Lib.hid hr4;have HK4:=Lib.hid (HA.out.keptB hk4);clear hk4 har4 hr4))
  go_ret
  have e:aprim p key .drop ⟨A,v.r.s.vars,v.r.gone⟩= .ok ⟨A.out key,v.r.s.vars,v.r.gone⟩:=by simp[aprim,HD.out]
  rw[e]
  exact⟨((Kept.refl (fun b=>B≤b) w).alloc HB.out _).trans HK4.out,rfl,_,x.vou,HR4.out⟩
 |true=>
  have h1:=HRES.out
  rw[hd]at h1
  have H1:=Lib.hid h1
  have HD:=Lib.hid hd
  have hap:=HA.out.appD key
  obtain⟨gr,gg,gp,gs,ga,vd,bmv,bcv,lp,vst,vlo,vou,vva⟩:=x
  obtain⟨av,cv,rfl⟩:∃a c,vou= .slice a v.r.gone.length c:=hap.run.out.shape
  have d2:(w.alloc (.cells #[.int .u8 5,.int .i64 0,.int .i64 0] 131)).cell? ⟨gr,2,none⟩=some (.int .u64 key):=HA.out.row.cell 2
  have d6:(w.alloc (.cells #[.int .u8 5,.int .i64 0,.int .i64 0] 131)).cell? ⟨gr,6,none⟩=some (.slice av v.r.gone.length cv):=HA.out.row.cell 6
  have df:∀j,(w.alloc (.cells #[.int .u8 5,.int .i64 0,.int .i64 0] 131)).frozen? ⟨gr,j,none⟩=false:=fun j=>HA.out.row.frozen j
  have dl:gr<(w.alloc (.cells #[.int .u8 5,.int .i64 0,.int .i64 0] 131)).heap.size:=HA.out.row.lt
  have dk:=(Kept.refl (fun b=>B≤b) w).alloc HB.out (.cells #[.int .u8 5,.int .i64 0,.int .i64 0] 131)
  have HAP:=Lib.hid hap
  have HDK:=Lib.hid dk
  clear h1 hd hap dk
  simp only at*
  go_enter Tryz.func54,Tryz.ntmps54
  go_wp2_with (first|(go_at_call 25;refine HW.out.mono ?_;rintro e w' ⟨rfl,rfl⟩)|(go_at_call 91;refine H1.out.mono ?_;rintro e w' ⟨rfl,rfl⟩))
  clear HW H1 HRES
  generalize w.alloc (.cells #[.int .u8 5,.int .i64 0,.int .i64 0] 131)=w1 at*
  have dn:¬gr=w1.heap.size:=by omega
  have b4:((w1.alloc (.cells #[.int .u64 key] 32)).drew).cell? ⟨gr,6,none⟩=some (.slice av v.r.gone.length cv):=HAP.out.run.row.cell 6
  have fz:((w1.alloc (.cells #[.int .u64 key] 32)).drew).frozen? ⟨gr,6,none⟩=false:=HAP.out.run.row.frozen 6
  have B4:=Lib.hid b4
  have FZ:=Lib.hid fz
  clear b4 fz
  go_region_law (first
   |(refine step_append1 Tryz.underlying22 hi0 hz0 hz1 hz2 rfl (by decide) HAP.out.run.out HAP.out.base rfl _ _ (by rfl) (by rfl) ⟨w1.heap.size,0,none⟩ 1 1 [.int .u64 key] (by rfl) (by rfl) HAP.out.cells HAP.out.one q4 q5 (by omega) ?_;intro g2 cap2 w2 hs2 hk2 hloc;have e1:=(hk2.cell (p:=⟨gr,6,none⟩) HAP.out.gr).trans B4.out;have e2:=(hk2.frozen (p:=⟨gr,6,none⟩) HAP.out.gr).trans FZ.out;have Hs2:=Lib.hid hs2;have Hk2:=Lib.hid hk2;have HL2:=Lib.hid hloc;clear hs2 hk2 hloc))
  all_goals
   have hfin:=HAP.out.done w2 g2 cap2 Hs2.out Hk2.out HL2.out
   have x1:=hfin.2.row.cell 1
   have x2:=hfin.2.row.cell 2
   have y0:=hfin.2.srow.cell 0
   obtain⟨vl,vf,vq,bm,har⟩:=hfin.2.arena
   have ho:=out_any har (RunR.up _ SA) HM.out.ok (by have:=HM.out.q8;omega) key HM.out.un
   have HO:=Lib.hid ho
   have HFIN:=Lib.hid hfin
   clear har ho hfin e1 e2
   simp at x1 x2 y0
   go_wp2_with (go_at_call 28;refine HO.out.mono ?_;rintro e w' ⟨rfl,hk4,vl4,vf4,vq4,har4⟩;have hr4:=HFIN.out.2.setArena hk4 ⟨vl4,vf4,vq4,bm,har4⟩;have HR4:=Lib.hid hr4;have HK4:=Lib.hid (HFIN.out.2.keptB hk4);clear hk4 har4 hr4)
   go_ret
   have e:aprim p key .drop ⟨A,v.r.s.vars,v.r.gone⟩= .ok ⟨A.out key,v.r.s.vars,v.r.gone++[key]⟩:=by simp[aprim,HD.out]
   rw[e]
   exact⟨(HDK.out.trans HFIN.out.1).trans HK4.out,rfl,_,_,HR4.out⟩
end
end Go.Proofs.YtepoejiigmhlbaaGreatDoor.Ev
