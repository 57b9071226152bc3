/- Lemmas for a law's walk. Conditions: none. -/
import Derived.Test.YtepoejiigmhlbaaGreatDoorZa06
import Derived.Test.YtepoejiigmhlbaaGreatDoorZa08
set_option linter.all false
set_option maxRecDepth 100000
set_option maxHeartbeats 8000000
namespace Go.Proofs.YtepoejiigmhlbaaGreatDoor.Ev
open _root_.Go.Proofs.Tryz
open Go Go.RowKit
theorem UF.kept {B:Nat}{ea:Nat->Addr}{w w':World}{S:Nat->Prop}(h:UF B ea w) (a:Ac S w w') (d:∀b,S b->B<=b):UF B ea w':=
 ⟨Ad h.size a.size,λk e f=>(a.cell (p:=⟨Ly k,0,none⟩) (λc=>by have:=d _ c;have:=h.lt k e f;simp at*;omega)).trans (h.err k e f),h.lt,
  YH h.kw a (λc=>by have:=d _ c;have:=h.pP;omega),h.pP⟩
structure DO (B:Nat) (ea:Nat->Addr) (w:World) (g gp bm:Nat) (vd wp:Value) (s:Ah) (st:PS):Prop where
 env:UF B ea w
 row:AE w g 103 (Dt s st gp wp)
 ba:AE w gp 63 [vd,.int .i64 st.aD,.map (some bm)]
 decls:Sl (λb=>B<=b/\b≠g) w 83 3 vd st.decls.length (st.decls.flatMap Dv)
 rules:FP (λb=>B<=b/\b≠g) w bm st.rules
 bC:IM B ea w wp st.bC
 g0:B<=g
 lA:B<=gp
 mW:B<=bm
 i:st.i<=s.length
 s:s.length<=700
 dl:st.decls.length<=1000
abbrev Kg (g:Nat) (w w':World):Prop:=Ac (λb=>b=g\/w.heap.size<=b) w w'
theorem Kg.trans {g:Nat}{a b c:World}(h:Kg g a b) (k:Kg g b c):Kg g a c:=
 Ac.trans h (k.mono λx d=>d.elim .inl (λe=>.inr (Ad h.size e)))
section
variable {B:Nat}{ea:Nat->Addr}{w w':World}{g gp bm:Nat}{vd wp:Value}{s:Ah}{st:PS}
theorem FP.kept {N:Nat->Prop}{a:List (Int×Az)}(h:FP N w bm a) (b:w'.heap[bm]?=w.heap[bm]?) (c:∀k cs,N k->AE w k 203 cs->w'.heap[k]?=w.heap[k]?):FP N w' bm a:=by obtain⟨M,d,e,f⟩:=h;exact⟨M,d.fo b,e,λi x y j l=>(f i x y j l).kept c⟩
theorem DO.p7 (h:DO B ea w g gp bm vd wp s st):gp≠g:=h.ba.bt h.row (by decide)
theorem If (a:Kg g w w') {b:Nat}(d:b<w.heap.size) (c:b≠g):w'.heap[b]?=w.heap[b]?:=a.block b (by rintro(h|h);exact c h;omega)
structure L3 (B:Nat) (w w':World):Prop where
 os:w'.os=w.os
 tape:w'.tape=w.tape
 output:w'.output=w.output
 size:w.heap.size<=w'.heap.size
 low:∀b,b<B->w'.heap[b]?=w.heap[b]?
 row:∀(b:Nat) t cs,AE w b t cs->(t=63\/t=83\/t=203\/t=59)->w'.heap[b]?=w.heap[b]?
 maps:∀(b:Nat) es c,w.heap[b]?=some (Obj.map es c)->w'.heap[b]?=w.heap[b]?
theorem L3.kg (l:B<=w.heap.size) (m:B<=g) {cs:List Value}(e:AE w g 103 cs) (a:Kg g w w'):L3 B w w':=
 ⟨a.os,a.tape,a.output,a.size,λb n=>If a (by omega) (by omega),
  λb t j i k=>If a i.lt (i.bt e (by rcases k with rfl|rfl|rfl|rfl<;>decide)),
  λb o c d=>If a (by
   rcases Be b w.heap.size with f|h
   ·exact f
   ·rw[Ch h]at d;cases d) (by
   rintro rfl;unfold AE at e;rw[e]at d;cases d)⟩
theorem L3.bF {n:Nat}{t:TypeId}{cs:List Value}(m:B<=n) (e:AE w n t cs) (a:t≠63/\t≠83/\t≠203/\t≠59) (i:Nat) (u:Value):L3 B w (w.setCell ⟨n,i,none⟩ u):=by
 have d:Ac (λb=>b=n) w _:=Ac.one w ⟨n,i,none⟩ u;refine⟨rfl,rfl,rfl,d.size,λb o=>d.block b (by omega),λb p k l f=>d.block b (l.bt e ?_),λb q c j=>d.block b ?_⟩
 ·rintro rfl;rcases f with h|h|h|h
  ·exact a.1 h
  ·exact a.2.1 h
  ·exact a.2.2.1 h
  ·exact a.2.2.2 h
 ·rintro rfl;unfold AE at e;rw[e]at j;cases j
theorem L3.alloc (o:Obj) (h:B<=w.heap.size):L3 B w (w.alloc o):=
 ⟨rfl,rfl,rfl,by simp,λb i=>FT w o b (by omega),λb t cs f _=>FT w o b f.lt,λb j c e=>FT w o b (by
   rcases Be b w.heap.size with a|d
   ·exact a
   ·rw[Ch d]at e;cases e)⟩
theorem IM.quiet {x:Option (Nat×Nat)}(h:IM B ea w wp x) (b:L3 B w w'):IM B ea w' wp x:=by
 cases x with
 |none=>exact h
 |some y=>
  obtain⟨gf,c,d,a⟩:=h;exact⟨gf,c,d,(b.row gf _ _ a (.inr (.inr (.inr rfl)))).trans a⟩
theorem Sl.nB {S:Nat->Prop}{n:Nat}{v:Value}{xs:List Value}(h:Sl S w 83 3 v n xs) (e:L3 B w w'):Sl S w' 83 3 v n xs:=by
 obtain⟨⟨f,b⟩,i⟩:=h;refine⟨⟨f,?_⟩,i⟩;rcases b with b|⟨g,c,a,rfl,j,d,k⟩
 ·exact .inl b
 ·exact .inr ⟨g,c,a,rfl,j,(e.row g _ a.toList (by unfold AE;simpa using d) (.inr (.inl rfl))).trans d,k⟩
theorem DO.dv (h:DO B ea w g gp bm vd wp s st) (a:L3 B w w') {st':PS}{c:Value}(d:AE w' g 103 (Dt s st' gp c)) (f:st'.decls=st.decls) (o:st'.aD=st.aD) (e:st'.rules=st.rules)
  (p:IM B ea w' c st'.bC) (q:st'.i<=s.length):DO B ea w' g gp bm vd c s st':=by
 refine⟨h.env.kept (S:=λb=>B<=b) ⟨a.os,a.tape,a.output,a.size,λb j=>a.low b (by omega)⟩ (λb j=>j),d,?_,?_,?_,p,h.g0,h.lA,h.mW,q,h.s,by rw[f];exact h.dl⟩
 ·rw[o];exact(a.row gp _ _ h.ba (.inl rfl)).trans h.ba
 ·rw[f];exact h.decls.nB a
 ·rw[e];obtain⟨M,⟨l,m,n,r⟩,t,u⟩:=h.rules;exact⟨M,⟨l,m,(a.maps bm l m n).trans n,r⟩,t,λi x y v z=>(u i x y v z).kept (λk cs _ d=>a.row k _ cs d (.inr (.inr (.inl rfl))))⟩
theorem DO.kg (h:DO B ea w g gp bm vd wp s st) (a:Kg g w w'):L3 B w w':=L3.kg h.env.size h.g0 h.row a
theorem DO.alloc (h:DO B ea w g gp bm vd wp s st) (o:Obj):DO B ea (w.alloc o) g gp bm vd wp s st:=
 h.dv (L3.alloc o h.env.size) (h.row.alloc o) rfl rfl rfl (h.bC.quiet (L3.alloc o h.env.size)) h.i
theorem DO.bF (h:DO B ea w g gp bm vd wp s st) {n:Nat}{t:TypeId}{cs:List Value}(c:B<=n) (a:AE w n t cs) (d:t≠63/\t≠83/\t≠203/\t≠59) (b:t≠103) (i:Nat) (u:Value):
  DO B ea (w.setCell ⟨n,i,none⟩ u) g gp bm vd wp s st:=
 h.dv (L3.bF c a d i u) (h.row.dc (h.row.bt a (λe=>b e.symm)) u) rfl rfl rfl (h.bC.quiet (L3.bF c a d i u)) h.i
end
def SE (B:Nat) (ea:Nat->Addr) (w:World) (e:Ending) (w':World) (k pos:Nat):Prop:=
 ∃gf,e= .panicked [{v:=.iface 54 (.pointer (some ⟨gf,0,none⟩)),recovered:=false}]/\Ac (λb=>B<=b) w w'/\AE w' gf 59 [Dq ea k,.int .i64 pos]/\B<=gf
section
variable {B:Nat}{ea:Nat->Addr}{w:World}{g gp bm:Nat}{vd wp:Value}{s:Ah}{st:PS}
theorem RS (h:DO B ea w g gp bm vd wp s st) (k:Nat):Calls prog 76 #[.pointer (some ⟨g,0,none⟩),Dq ea k] w λe w'=>SE B ea w e w' k st.t.pos:=by
 obtain⟨_,_,_,_,c4,_⟩:=AX h.row;have b:=h.env.size;have a:SE B ea w (.panicked [{v:=.iface 54 (.pointer (some ⟨w.heap.size,0,none⟩)),recovered:=false}]) (w.alloc (.cells #[Dq ea k,.int .i64 st.t.pos] 59)) k st.t.pos:=
  ⟨_,rfl,zAr.alloc b _,AE.new w _ _,b⟩
 have c:=Aa a;unfold Dq at*;clear a h b;go_enter func76,ntmps76;go_wp2;exact⟨rfl,c.out⟩
theorem dC (h:DO B ea w g gp bm vd wp s st) {w':World}(c:Ac (λb=>b=g) w w') (d:AE w' g 103 (Dt s (next s st) gp wp)):DO B ea w' g gp bm vd wp s (next s st):=by
 have a:Kg g w w':=c.mono λb e=>.inl e;exact h.dv (h.kg a) d rfl rfl rfl (h.bC.quiet (h.kg a)) (by
  exact(JX s st.i h.i).2.2.1)
theorem En (h:DO B ea w g gp bm vd wp s st):
  Calls prog 36 #[.pointer (some ⟨g,0,none⟩)] w λe w'=>e= .returned (.tuple #[])/\Kg g w w'/\DO B ea w' g gp bm vd wp s (next s st):=by
 refine(oV g gp wp s st w h.env.kw (λe=>by have:=h.env.pP;have:=h.g0;omega) (by have:=h.s;omega) h.i h.row).mono ?_;rintro e w' ⟨c,a,d⟩;exact⟨c,a.mono λb f=>.inl f,dC h a d⟩
def IK (t:MS):Value:=.agg #[vs t.kind,vs t.text,.int .i64 t.pos]
def DU {α:Type} (B:Nat) (ea:Nat->Addr) (w:World) (g gp bm:Nat) (s:Ah) (x:AO α) (b:World->α->Value->Prop) (e:Ending) (w':World):Prop:=
 match x with
 | .ok a st'=>∃v,e= .returned v/\b w' a v/\Kg g w w'/\∃vd wp,DO B ea w' g gp bm vd wp s st'
 | .bad k pos=>SE B ea w e w' k pos
theorem Gp (h:DO B ea w g gp bm vd wp s st) (k:Ah):
  Calls prog 73 #[.pointer (some ⟨g,0,none⟩),vs k] w λe w'=>e= .returned (.bool (take s k st).1)/\Kg g w w'/\DO B ea w' g gp bm vd wp s (take s k st).2:=by
 obtain⟨_,_,c2,_⟩:=AX h.row;have f:=Aa h;unfold vs at*;by_cases a:st.t.kind=k
 ·have e1:(st.t.kind==k)=true:=by simpa using a
  have b:take s k st=(true,next s st):=by unfold take;rw[Al a]
  rw[b];clear a b h;go_enter func73,ntmps73;go_wp2_with (go_at_call 36;refine(En f.out).mono ?_;rintro e w' ⟨rfl,c,i⟩;have d:=Aa c;have j:=Aa i;clear c i);go_ret;exact⟨rfl,d.out,j.out⟩
 ·have e1:(st.t.kind==k)=false:=by simpa using a
  have b:take s k st=(false,st):=by unfold take;rw[Ai a]
  rw[b];clear a b h;go_enter func73,ntmps73;go_wp2;go_ret;exact⟨rfl,Ac.refl _ _,f.out⟩
theorem Db (h:DO B ea w g gp bm vd wp s st) (k:Ah):
  Calls prog 39 #[.pointer (some ⟨g,0,none⟩),vs k] w λe w'=>DU B ea w g gp bm s (want s k st) (λ_ t v=>v=IK t) e w':=by
 obtain⟨_,_,c2,c3,c4,_⟩:=AX h.row;have U:=h.row.lt;have l:w.cell? ⟨7,0,none⟩=some (.iface 307 (.pointer (some (ea 2)))):=h.env.err 2 (by omega) (by omega);have z:7<w.heap.size:=An (h.env.lt 2 (by omega) (by omega)) h.env.size;have m:=Aa h;unfold vs at*;by_cases c:st.t.kind=k
 ·have e1:(st.t.kind==k)=true:=by simpa using c
  have n:want s k st= .ok st.t (next s st):=by unfold want;rw[Al c]
  rw[n];clear c n h l z;have A:=Aa ((m.out.alloc (.cells #[.string ⟨#[]⟩,.string ⟨#[]⟩,.int .i64 0] 101)).alloc (.cells #[.string ⟨st.t.kind.toArray⟩,.string ⟨st.t.text.toArray⟩,.int .i64 st.t.pos] 101));have C:=m.out.env.size;have V:=m.out.row.lt;go_enter func39,ntmps39;go_wp2_with fail;refine(En A.out).mono ?_;rintro e w1 ⟨rfl,a,o⟩;have d:AE ((w.alloc (.cells #[.string ⟨#[]⟩,.string ⟨#[]⟩,.int .i64 0] 101)).alloc (.cells #[.string ⟨st.t.kind.toArray⟩,.string ⟨st.t.text.toArray⟩,.int .i64 st.t.pos] 101)) w.heap.size 101 [vs [],vs [],.int .i64 0]:=(AE.new w _ _).alloc _;have f:AE ((w.alloc (.cells #[.string ⟨#[]⟩,.string ⟨#[]⟩,.int .i64 0] 101)).alloc (.cells #[.string ⟨st.t.kind.toArray⟩,.string ⟨st.t.text.toArray⟩,.int .i64 st.t.pos] 101)) (w.heap.size+1) 101 [vs st.t.kind,vs st.t.text,.int .i64 st.t.pos]:=by have:=AE.new (w.alloc (.cells #[.string ⟨#[]⟩,.string ⟨#[]⟩,.int .i64 0] 101)) 101 [vs st.t.kind,vs st.t.text,.int .i64 st.t.pos];simpa using this
  have i:AE w1 w.heap.size 101 _:=(If a d.lt (by omega)).trans d;have y:AE w1 (w.heap.size+1) 101 _:=(If a f.lt (by omega)).trans f;obtain⟨L,M,N,O,q,r⟩:=zp6 (i.cell 0) (i.cell 1) (i.cell 2) (y.cell 0) (y.cell 1) (y.cell 2);have W:=λj=>i.frozen j;obtain⟨X,Y,D⟩:=zq3 i o a;clear i y d f o a;simp at L M N O q r;go_wp2;have E:=X.out;have o:=Y.out;have F:B<=w.heap.size:=C;have P:=o.bF F E (by decide) (by decide) 0 (.string ⟨st.t.kind.toArray⟩);have G:=E.bF 0 (.string ⟨st.t.kind.toArray⟩);have g2:=P.bF F G (by decide) (by decide) 1 (.string ⟨st.t.text.toArray⟩);have H:=G.bF 1 (.string ⟨st.t.text.toArray⟩);have Q:=g2.bF F H (by decide) (by decide) 2 (.int .i64 st.t.pos);have u:=H.bF 2 (.int .i64 st.t.pos);have x:Kg g w _:=((((Ac.refl (λb=>b=g\/w.heap.size<=b) w).alloc (.inr (Ab _)) _).alloc (.inr (by simp)) _).trans (D.out.mono (λb Z=>Z.elim .inl (λh=>.inr (Ad (by simp;omega) h))))).setCell (p:=⟨w.heap.size,0,none⟩) (.inr (Ab _)) (.string ⟨st.t.kind.toArray⟩)|>.setCell (p:=⟨w.heap.size,1,none⟩) (.inr (Ab _)) (.string ⟨st.t.text.toArray⟩)|>.setCell (p:=⟨w.heap.size,2,none⟩) (.inr (Ab _)) (.int .i64 st.t.pos);obtain⟨G3,I⟩:=zq2 Q x;have R:=u.cell 0;have S:=u.cell 1;have T:=u.cell 2;have zf:=λj=>u.frozen j;simp at R S T;clear Q x P g2 o E G H u L M N O q r W;generalize be:((w1.setCell ⟨w.heap.size,0,none⟩ _).setCell ⟨w.heap.size,1,none⟩ _).setCell ⟨w.heap.size,2,none⟩ _=w2 at*;refine AA (v:=IK st.t) (by simp[results,Tryz.results39,go_sem,R,S,T,zf,IK,vs]) rfl ?_;exact⟨_,rfl,rfl,I.out,_,_,G3.out⟩
 ·have e1:(st.t.kind==k)=false:=by simpa using c
  have n:want s k st= .bad D5 st.t.pos:=by unfold want fail;rw[Ai c]
  rw[n];clear c n h;have A:=Aa (m.out.alloc (.cells #[.string ⟨#[]⟩,.string ⟨#[]⟩,.int .i64 0] 101));have C:=m.out.env.size;go_enter func39,ntmps39;go_wp2_with fail;refine(RS A.out 2).mono ?_;rintro e w1 ⟨gf,rfl,c,hr,J⟩;have K:Ac (λb=>B<=b) w w1:=((Ac.refl _ w).alloc C _).trans c;go_wp2;exact⟨rfl,gf,rfl,K,hr,J⟩
theorem Hb (h:DO B ea w g gp bm vd wp s st) (k pos:Nat):
  Calls prog 70 #[.pointer (some ⟨g,0,none⟩),Dq ea k,.int .i64 pos] w λe w'=>e= .returned (.tuple #[])/\Kg g w w'/\∃l,DO B ea w' g gp bm vd l s (note k pos st):=by
 obtain⟨_,_,_,_,_,_,_,_,_,t⟩:=AX h.row;have q:=h.row.lt;have f:=λj=>h.row.frozen j;have n:=Aa h;have b:=h.bC;cases a:st.bC with
 |none=>
  rw[a]at b;have m:wp= .pointer none:=b;subst m;have c:note k pos st={st with bC:=some (k,pos)}:=by unfold note;rw[a]
  rw[c];clear b a c h;unfold Dq;go_enter func70,ntmps70;go_wp2;go_end0;have d:=n.out;have r:Kg g w (w.setCell ⟨g,9,none⟩ (.pointer (some ⟨w.heap.size,0,none⟩))):=Ac.setCell (p:=⟨g,9,none⟩) zAr (.inl rfl) _;have o:=r.alloc (.inr (by simp)) (.cells #[Dq ea k,.int .i64 pos] 59);have n1:=(AE.new (w.setCell ⟨g,9,none⟩ (.pointer (some ⟨w.heap.size,0,none⟩))) 59 [Dq ea k,.int .i64 pos]);refine⟨rfl,o,.pointer (some ⟨w.heap.size,0,none⟩),d.dv (st':={st with bC:=some (k,pos)}) (d.kg o) ?_ rfl rfl rfl ?_ d.i⟩
  ·have:=(d.row.bF 9 (.pointer (some ⟨w.heap.size,0,none⟩))).alloc (.cells #[Dq ea k,.int .i64 pos] 59);exact this
  ·exact⟨_,rfl,d.env.size,by simpa using n1⟩
 |some y=>
  rw[a]at b;obtain⟨gf,rfl,_,_⟩:=b;have c:note k pos st=st:=by unfold note;rw[a]
  rw[c];clear a c h;unfold Dq;go_enter func70,ntmps70;go_wp2;go_end0;exact⟨rfl,Ac.refl _ _,_,n.out⟩
end
theorem bY:∀(l:Ah) (n:Nat),(∀c∈l,Gn c=true)->∃m,Lib.decFrom n l=some m/\l.foldl (λ(n:Int) c=>10*n+((c.toNat:Int)-48)) (n:Int)=(m:Int)
 | [],n,_=>⟨n,rfl,rfl⟩
 |c::l,n,h=>by
  have a:=h c (by simp);have b:48<=c.toNat/\c.toNat<=57:=by simp only[Gn,Ee,Eu,DW]at a;exact a
  obtain⟨m,d,e⟩:=bY l (n*10+(c.toNat-48)) (λx f=>h x (by simp[f]));refine⟨m,?_,?_⟩
  ·simp[Lib.decFrom,Lib.digitVal,b,d]
  ·rw[←e,Uz];congr 1;omega
theorem wE {l:Ah}(h:Ux l):Lib.atoi l=some (atoi l)/\0<=atoi l:=by
 obtain⟨f,n,a⟩:=h;cases l with
 |nil=>simp at f
 |cons c l=>
  have b:=a c (by simp);have d:48<=c.toNat/\c.toNat<=57:=by simp only[Gn,Ee,Eu,DW]at b;exact b
  obtain⟨m,i,j⟩:=bY (c::l) 0 a;have n1:(c==45)=false:=by rw[BH];rintro rfl;simp at d
  have k:(c==43)=false:=by rw[BH];rintro rfl;simp at d
  have e:atoi (c::l)=(m:Int):=j;rw[e];refine⟨?_,by omega⟩;unfold Lib.atoi;simp only[n1,k,Ap,A8];unfold Lib.decNat;simp[i]
section
variable {B:Nat}{ea:Nat->Addr}{w:World}{g gp bm:Nat}{vd wp:Value}{s:Ah}{st:PS}
theorem aT (g:Nat) (w:World) (e:TypeId) (t:ByteArray):Kg g w (Lib.bytesWorld w e t):=
 Ac.cY (Joins.below_bytesWorld w.heap.size w e t (Ab _)) (λk a=>.inr a)
theorem DO.ji (h:DO B ea w g gp bm vd wp s st) {w':World}(a:Kg g w w') (b:w'.heap[g]?=w.heap[g]?):DO B ea w' g gp bm vd wp s st:=
 h.dv (h.kg a) (b.trans h.row) rfl rfl rfl (h.bC.quiet (h.kg a)) h.i
theorem DO.bytes (h:DO B ea w g gp bm vd wp s st) (e:TypeId) (t:ByteArray):DO B ea (Lib.bytesWorld w e t) g gp bm vd wp s st:=
 h.ji (aT g w e t) (Lib.bytesWorld_at_old w e t g h.row.lt)
theorem IJ (h:DO B ea w g gp bm vd wp s st) (z:st.Ok s) (c d:Int):
  Calls prog 71 #[.pointer (some ⟨g,0,none⟩),.int .i64 c,.int .i64 d] w λe w'=>DU B ea w g gp bm s (number s c d st) (λ_ n v=>v= .int .i64 n) e w':=by
 have U:=Aa h;by_cases q:st.t.kind=Bv
 ·have k:want s Bv st= .ok st.t (next s st):=by unfold want;rw[Al q]
  have r:number s c d st= .ok (atoi st.t.text) (if atoi st.t.text<c\/atoi st.t.text>d then note Lh st.t.pos (next s st)else next s st):=by unfold number;rw[k];rfl
  rw[r];have a:=Db h Bv;rw[k]at a;obtain⟨I,N⟩:=wE (z.num q);have O:st.t.text.length<=18:=by have:=(z.num q).2.1;omega
  obtain⟨A,P⟩:=zq2 a I;clear a I r k q h z;unfold vs at*;go_enter func71,ntmps71;go_wp2_with fail;refine A.out.mono ?_;rintro e w1 ⟨v,rfl,rfl,u,l,C,J⟩;obtain⟨i,K⟩:=zq2 u J;clear u J;unfold IK vs;go_wp2_with fail;refine(Tryz.strconv_Atoi ⟨st.t.text.toArray⟩ (atoi st.t.text) O P.out _).mono ?_;rintro e V ⟨rfl,t,rfl⟩;have m:=(AE.new w1 101 [vs st.t.kind,vs st.t.text,.int .i64 st.t.pos]);have D:AE (Lib.bytesWorld (w1.alloc (.cells #[vs st.t.kind,vs st.t.text,.int .i64 st.t.pos] 101)) 5 t) w1.heap.size 101 _:=(Lib.bytesWorld_at_old _ _ _ _ m.lt).trans m;have E:=(K.out.alloc (.cells #[vs st.t.kind,vs st.t.text,.int .i64 st.t.pos] 101)).bytes 5 t;have x:=(i.out.alloc (.inr (i.out.size)) (.cells #[vs st.t.kind,vs st.t.text,.int .i64 st.t.pos] 101)).trans ((aT g _ 5 t).mono (λb Q=>Q.elim .inl (λR=>.inr (Ad i.out.size (Ad (by simp) R)))));unfold vs at*;generalize G:Lib.bytesWorld _ 5 t=w3 at*;have L:w3.cell? ⟨11,0,none⟩=some (.iface 307 (.pointer (some (ea 7)))):=E.env.err 7 (by omega) (by omega);have S:=D.cell 2;have W:=λj=>D.frozen j;simp at S;obtain⟨M,o⟩:=zq2 E x;clear E x D m G i K;have H:=Hb M.out 7 st.t.pos;by_cases X:atoi st.t.text<c
  ·go_wp2_with fail;refine H.mono ?_;rintro e T ⟨rfl,f,p,y⟩;have F:=Aa (And.intro f y);clear f y;go_wp2;go_ret;refine⟨_,rfl,rfl,Kg.trans o.out F.out.1,l,p,?_⟩;exact F.out.2
  ·by_cases c2:atoi st.t.text>d
   ·go_wp2_with fail;refine H.mono ?_;rintro e T ⟨rfl,f,p,y⟩;have F:=Aa (And.intro f y);clear f y;go_wp2;go_ret;refine⟨_,rfl,rfl,Kg.trans o.out F.out.1,l,p,?_⟩;exact F.out.2
   ·clear H;go_wp2;go_ret;refine⟨_,rfl,rfl,o.out,l,C,?_⟩;exact M.out
 ·have k:want s Bv st= .bad D5 st.t.pos:=by unfold want fail;rw[Ai q]
  have r:number s c d st= .bad D5 st.t.pos:=by unfold number;rw[k];rfl
  rw[r];have a:=Db h Bv;rw[k]at a;have A:=Aa a;clear a r k q h z;unfold vs at*;go_enter func71,ntmps71;go_wp2_with fail;refine A.out.mono ?_;rintro e w1 ⟨gf,rfl,hF⟩;go_wp2;exact⟨rfl,gf,rfl,hF⟩
end
end Go.Proofs.YtepoejiigmhlbaaGreatDoor.Ev
namespace Go.Proofs.YtepoejiigmhlbaaGreatDoor.Ev
open _root_.Go.Proofs.Tryz
open Go Go.RowKit Go.Shelf
theorem MK (name:Ah):∀(l:List Bi) (k:Nat),(∀(j:Nat) (d:Bi),l[j]?=some d->d.name≠name)->Df name l k= -1
 | [],k,_=>rfl
 |d::l,k,h=>by rw[Df,Ai (h 0 d rfl)];exact MK name l (k+1) (λj a b=>h (j+1) a b)
theorem NO (name:Ah):∀(l:List Bi) (k i:Nat) (d:Bi),l[i]?=some d->d.name=name->(∀(j:Nat) (d:Bi),j<i->l[j]?=some d->d.name≠name)->Df name l k=((k+i:Nat):Int)
 | [],k,i,d,h,_,_=>by simp at h
 |c::l,k,0,d,h,b,_=>by
  simp only[AI,Cm]at h;subst h;rw[Df,Al b];rfl
 |c::l,k,i+1,d,h,b,a=>by rw[Df,Ai (a 0 c (Cg _) rfl),NO name l (k+1) i d (by simpa using h) b (λj x f e=>a (j+1) x (by omega) (by simpa using e))];congr 1;omega
theorem lN (name:Ah) (b:Nat) (d:Bi) (w:World) (c:b<w.heap.size) (f:w.cell? ⟨b,0,none⟩=some (vs name)):
  Calls prog 108 #[.agg (Dv d).toArray,.pointer (some ⟨b,0,none⟩)] w λe w'=>e= .returned (.bool (d.name==name))/\Below w.heap.size w w':=by
 have a:b≠w.heap.size:=by omega
 unfold Dv vs at*;go_enter func108,ntmps108;go_wp2
 all_goals(go_ret;exact⟨by simp_all,(Lo _ w).alloc (Ab _) _⟩)
theorem Sl.bz {S:Nat->Prop}{w:World}{e:TypeId}{size:Nat}{v:Value}{n:Nat}{xs:List Value}(h:Sl S w e size v n xs):∃c a,v= .slice c n a:=by
 obtain⟨⟨_,b⟩,i⟩:=h;rcases b with⟨b,d⟩|⟨g,a,f,rfl,_⟩
 ·subst d;exact⟨_,_,b⟩
 ·exact⟨_,_,rfl⟩
theorem Sl.nC {S:Nat->Prop}{w:World}{e:TypeId}{size:Nat}{c:Option Addr}{a:Nat}{α:Type}{f:α->List Value}{l:List α}(h:Sl S w e size (.slice c l.length a) l.length (l.flatMap f)) (m:∀x,(f x).length=size)
  {i:Nat} {x:α} (d:l[i]?=some x):∃g,c=some ⟨g,0,none⟩/\g<w.heap.size/\∀j,j<size->w.cell? ⟨g,i*size+j,none⟩=(f x)[j]?:=by
 have q:i<l.length:=(Aj.1 d).1;obtain⟨g,k,b,_,_,_,n⟩:=h.form (by omega);injection b with b r o;subst b;subst o;exact⟨g,rfl,n,λj p=>h.at_ m d p⟩
theorem lh {S:Nat->Prop}(name:Ah) (b:Nat) (l:List Bi) (y:Value) (w:World) (s:Sl S w 83 3 y l.length (l.flatMap Dv)) (M:l.length<=1000) (z:b<w.heap.size) (B:w.cell? ⟨b,0,none⟩=some (vs name)):
  Calls prog 66 #[y,.func (.func 108) #[] #[.pointer (some ⟨b,0,none⟩)]] w λe w'=>e= .returned (.int .i64 (find l name))/\Below w.heap.size w w':=by
 obtain⟨N,G,rfl⟩:=s.bz;obtain⟨H,I,C⟩:=zq3 s B z;clear s B z;go_enter func66,ntmps66;go_wp2
 go_loopg [5,8] l.length (λJ _ K wr=>∃g:Nat,g<=l.length/\l.length-g<=J/\K= .int .i64 g/\Below w.heap.size w wr/\(∀(j:Nat) (d:Bi),j<g->l[j]?=some d->d.name≠name))
 case atStart=>exact⟨0,AQ _,by omega,rfl,Lo _ w,λj d D=>absurd D (Uy _)⟩
 case round=>
  obtain⟨g,L,O,rfl,E,a⟩:=hrel;obtain⟨i,A⟩:=zq2 E a;clear E a;by_cases t:g<l.length
  ·obtain⟨x,u⟩:∃x,l[g]?=some x:=⟨_,Ae t⟩;obtain⟨q,rfl,k,f⟩:=H.out.nC (λ_=>rfl) u;have P:wr.cell? ⟨q,g*3,none⟩=some (.int .i64 x.kind):=(i.out.cell (p:=⟨q,g*3,none⟩) k).trans (f 0 (by omega));have Q:wr.cell? ⟨q,g*3+1,none⟩=some (vs x.name):=(i.out.cell (p:=⟨q,g*3+1,none⟩) k).trans (f 1 (by omega));have c2:wr.cell? ⟨q,g*3+2,none⟩=some (.int .i64 x.max):=(i.out.cell (p:=⟨q,g*3+2,none⟩) k).trans (f 2 (by omega));have c:=lN name b x wr (An C.out i.out.size) ((i.out.cell (p:=⟨b,0,none⟩) C.out).trans I.out);have F:=Aa u;clear u f k;unfold vs at*;by_cases r:x.name=name
   ·have e1:(x.name==name)=true:=by simpa using r
    rw[e1]at c;obtain⟨n,v⟩:=zq2 c r;clear c r e1;go_wp2_with fail;refine n.out.mono ?_;rintro e w' ⟨rfl,h⟩;have o:=Aa h;clear h;go_wp2;go_ret;refine⟨?_,i.out.trans (o.out.mono i.out.size)⟩;unfold find;rw[NO name l 0 g x F.out v.out A.out,DH];rfl
   ·have e1:(x.name==name)=false:=by simpa using r
    rw[e1]at c;obtain⟨n,v⟩:=zq2 c r;clear c r e1;go_wp2_with fail;refine n.out.mono ?_;rintro e w' ⟨rfl,h⟩;have o:=Aa h;clear h;go_wp2;go_roundg (l.length-(g+1))
    case measure=>omega
    case rel=>
     refine⟨g+1,by omega,by omega,by go_num,i.out.trans (o.out.mono i.out.size),λj d D m=>?_⟩;by_cases e:j=g
     ·subst e;rw[F.out]at m;injection m with m;exact m▸v.out
     ·exact A.out j d (by omega) m
  ·have:g=l.length:=by omega
   subst this;go_wp2;go_ret;refine⟨?_,i.out⟩;unfold find;rw[MK name l 0 (λj d m=>A.out j d (Aj.1 m).1 m)];rfl
theorem RR {S:Nat->Prop}(name:Ah) (gp:Nat) (l:List Bi) (d:Value) (w:World) (f:Sl S w 83 3 d l.length (l.flatMap Dv)) (i:l.length<=1000) (n:gp<w.heap.size) (o:w.cell? ⟨gp,0,none⟩=some d):
  Calls prog 72 #[.pointer (some ⟨gp,0,none⟩),vs name] w λe w'=>e= .returned (.int .i64 (find l name))/\Below w.heap.size w w':=by
 have j:gp≠w.heap.size:=by omega
 have k:∀(h:Fn) (first b:Array Value) (w:World),(Instr.makeFunc h first b).run prog w= .ok (.func h first b) w:=λ_ _ _ _=>rfl;have a:=lh name w.heap.size l d (w.alloc (.cells #[vs name] 9)) (f.alloc _) i (by simp) (by simp);obtain⟨p,b,rfl⟩:=f.bz;have m:=Aa a;clear a f;unfold vs at*;go_enter func72,ntmps72;go_wp2_with fail
 trace_state
 refine m.out.mono ?_;rintro e w' ⟨rfl,c⟩;have g:=Aa c;clear c;go_wp2;go_ret;exact⟨rfl,((Lo _ w).alloc (Ab _) _).trans (g.out.mono (by simp))⟩
end Go.Proofs.YtepoejiigmhlbaaGreatDoor.Ev
namespace Go.Proofs.YtepoejiigmhlbaaGreatDoor.Ev
open _root_.Go.Proofs.Tryz
open Go Go.RowKit
theorem O5 (name:Ah):∀(l:List Bi) (k:Nat),Df name l k= -1\/∃(i:Nat) (d:Bi),l[i]?=some d/\Df name l k=((k+i:Nat):Int)
 | [],k=>.inl rfl
 |d::l,k=>by
  by_cases h:d.name=name
  ·exact .inr ⟨0,d,rfl,by rw[Df,Al h];rfl⟩
  ·rcases O5 name l (k+1)with a|⟨i,b,a,c⟩
   ·exact .inl (by rw[Df,Ai h,a])
   ·exact .inr ⟨i+1,b,by simpa using a,by rw[Df,Ai h,c];congr 1;omega⟩
theorem VO (l:List Bi) (name:Ah):find l name= -1\/∃(i:Nat) (d:Bi),l[i]?=some d/\find l name=(i:Int)/\Aq l (i:Int)=d:=by
 rcases O5 name l 0 with h|⟨i,d,a,b⟩
 ·exact .inl h
 ·exact .inr ⟨i,d,a,by unfold find;rw[b,DH],by unfold Aq;simp[a]⟩
section
variable {B:Nat}{ea:Nat->Addr}{w:World}{g gp bm:Nat}{vd wp:Value}{s:Ah}{st:PS}
theorem DO.below (h:DO B ea w g gp bm vd wp s st) {w':World}(a:Below w.heap.size w w'):DO B ea w' g gp bm vd wp s st:=
 h.ji (Ac.cY a (λk b=>.inr b)) (a.block g h.row.lt)
theorem DO.drewN (h:DO B ea w g gp bm vd wp s st) (n:Nat):DO B ea (w.drewN n) g gp bm vd wp s st:=h.ji ((Ac.refl _ w).drewN n) rfl
theorem Jn {g:Nat}{w w':World}(a:Below w.heap.size w w'):Kg g w w':=Ac.cY a (λk b=>.inr b)
theorem Jj (h:DO B ea w g gp bm vd wp s st) (a:Bool):
  Calls prog 74 #[.pointer (some ⟨g,0,none⟩),.bool a] w λe w'=>DU B ea w g gp bm s (name s a st) (λ_ n v=>v= .int .i64 n) e w':=by
 by_cases L:st.t.kind=Cf
 ·have y:want s Cf st= .ok st.t (next s st):=by unfold want;rw[Al L]
  have D:name s a st= .ok (find (next s st).decls st.t.text) (Cv a st.t (next s st)):=by unfold name;rw[y];rfl
  rw[D];have b:=Db h Cf;rw[y]at b;have N:=Aa b;clear b D y L h;generalize next s st=st1 at*
  unfold vs at*;go_enter func74,ntmps74;go_wp2_with fail;refine N.out.mono ?_;rintro e w1 ⟨v,rfl,rfl,z,E,G,O⟩;have A:=O.alloc (.cells #[vs st.t.kind,vs st.t.text,.int .i64 st.t.pos] 101);obtain⟨C,H,P⟩:=zp3 (A.drewN 1) ((z.alloc (.inr z.size) (.cells #[vs st.t.kind,vs st.t.text,.int .i64 st.t.pos] 101)).drewN 1) (AE.new w1 101 [vs st.t.kind,vs st.t.text,.int .i64 st.t.pos]);have k:=RR st.t.text gp st1.decls E _ C.decls C.dl C.ba.lt (C.ba.cell 0);obtain⟨_,_,_,_,_,c5,_⟩:=AX A.row;have T:=P.cell 1;simp at T;obtain⟨Z,HA,Q,X0,H1⟩:=zq5 k C H P O;clear k C A H P O z;unfold IK;go_wp2_with fail
  (refine Ds 6 (by kernel_rfl) (by kernel_rfl) ?_;simp only[Au,AH,Av,AJ];repeat still_step)
  refine BS ?_;go_wp2_with fail;refine Z.out.mono ?_;rintro e M ⟨rfl,q⟩;have c:=HA.out.below q;have I:=Kg.trans Q.out (Jn q);have U:AE M w1.heap.size 101 [vs st.t.kind,vs st.t.text,.int .i64 st.t.pos]:=(q.block _ (by simp)).trans X0.out;have d2:=U.cell 2;simp at d2;obtain⟨_,_,_,_,_,bg,_⟩:=AX c.row;have p0:=c.ba.cell 0;have en:M.cell? ⟨9,0,none⟩=some (.iface 307 (.pointer (some (ea 5)))):=c.env.err 5 (by omega) (by omega);have ek:M.cell? ⟨10,0,none⟩=some (.iface 307 (.pointer (some (ea 6)))):=c.env.err 6 (by omega) (by omega);have V:=Hb c 5 st.t.pos;have W:=Hb c 6 st.t.pos;obtain⟨N5,X,DL,R,l⟩:=zq5 V W c.decls c I;clear V W c I U q c5 T;rcases VO st1.decls st.t.text with p|⟨i,d,S,p,Y⟩
  ·have j:Cv a st.t st1=note X7 st.t.pos st1:=by unfold Cv;rw[p];rfl
   rw[p];go_wp2_with fail;refine N5.out.mono ?_;rintro e w3 ⟨rfl,f,m,x⟩;have F:=Aa (And.intro f x);clear f x;go_wp2;go_ret;refine⟨_,rfl,by rw[p];rfl,Kg.trans l.out F.out.1,E,m,?_⟩;rw[j];exact F.out.2
  ·obtain⟨ao,r,rfl⟩:=R.out.decls.bz;obtain⟨J,rfl,bj,o⟩:=DL.out.nC (λ_=>rfl) S;have q0:M.cell? ⟨J,i*3,none⟩=some (.int .i64 d.kind):=o 0 (by omega);have bn:i<st1.decls.length:=(Aj.1 S).1;have j:Cv a st.t st1=if(d.kind==2)!=a then note TV st.t.pos st1 else st1:=by unfold Cv;rw[p,Ai (by omega),Y]
   clear o Y S;rw[p];by_cases c:d.kind=2
   ·have K:(d.kind:Int)=2:=by omega
    cases a with
    |true=>
     have j:Cv true st.t st1=st1:=by rw[j,c];rfl
     clear c;go_wp2;go_ret;refine⟨_,rfl,by rw[p];rfl,l.out,.slice (some ⟨J,0,none⟩) st1.decls.length r,G,?_⟩;rw[j];exact R.out
    |false=>
     have j:Cv false st.t st1=note TV st.t.pos st1:=by rw[j,c];rfl
     clear c;go_wp2_with fail;refine X.out.mono ?_;rintro e w3 ⟨rfl,f,m,x⟩;have F:=Aa (And.intro f x);clear f x;go_wp2;go_ret;refine⟨_,rfl,by rw[p];rfl,Kg.trans l.out F.out.1,.slice (some ⟨J,0,none⟩) st1.decls.length r,m,?_⟩;rw[j];exact F.out.2
   ·have K:¬(d.kind:Int)=2:=by omega
    have u:(d.kind==2)=false:=by simpa using c
    have bo:((d.kind:Int)==2)=false:=by simpa using K
    cases a with
    |true=>
     have j:Cv true st.t st1=note TV st.t.pos st1:=by rw[j,u];rfl
     clear c u;go_wp2_with fail;refine X.out.mono ?_;rintro e w3 ⟨rfl,f,m,x⟩;have F:=Aa (And.intro f x);clear f x;go_wp2;go_ret;refine⟨_,rfl,by rw[p];rfl,Kg.trans l.out F.out.1,.slice (some ⟨J,0,none⟩) st1.decls.length r,m,?_⟩;rw[j];exact F.out.2
    |false=>
     have j:Cv false st.t st1=st1:=by rw[j,u];rfl
     clear c u;go_wp2;go_ret;refine⟨_,rfl,by rw[p];rfl,l.out,.slice (some ⟨J,0,none⟩) st1.decls.length r,G,?_⟩;rw[j];exact R.out
 ·have y:want s Cf st= .bad D5 st.t.pos:=by unfold want fail;rw[Ai L]
  have D:name s a st= .bad D5 st.t.pos:=by unfold name;rw[y];rfl
  rw[D];have b:=Db h Cf;rw[y]at b;have N:=Aa b;clear b D y L h;unfold vs at*;go_enter func74,ntmps74;go_wp2_with fail;refine N.out.mono ?_;rintro e w1 ⟨gf,rfl,hF⟩;go_wp2;exact⟨rfl,gf,rfl,hF⟩
end
theorem AP {P:Program}{c:Func}{r:Nat}{t:TypeId}{e:TypeId}{R:Nat}{cs:List Value}{w:World}{a:Array Value}(h:c.results=#[.cell r t])
  (d:∀w,(isAgg t).run P w= .ok true w) (f:∀w,(Go.sizeOf t).run P w= .ok cs.length w) (i:a.getD r undef= .pointer (some ⟨R,0,none⟩)) (k:AE w R e cs):
  (results c a).run P w= .ok (.agg cs.toArray) w:=by
 have l:=run_loadCells_list (P:=P) (w:=w) ⟨R,0,none⟩ cs (λj v m=>by
  have:=k.cell j;rw[m]at this;by_cases b:j=0
  ·subst b;simpa[Addr.add]using this
  ·simpa[Addr.add,b]using this)
 have n:a[r]?.getD undef= .pointer (some ⟨R,0,none⟩):=by simpa[Array.getD_eq_getD_getElem?]using i
 simp[results,h,n,asAddr,loadVar,d,f,l]
structure L7 (B:Nat) (ea:Nat->Addr) (g gp bm:Nat) (vd wp:Value) (s:Ah) (st:PS) (w0 w:World) (R:Nat) (T:TypeId) (cs:List Value):Prop where
 rd:DO B ea w g gp bm vd wp s st
 kg:Kg g w0 w
 row:AE w R T cs
 new:w0.heap.size<=R
 b:B<=R
 t:T≠63/\T≠83/\T≠59/\T≠103
section
variable {B:Nat}{ea:Nat->Addr}{w w0:World}{g gp bm R:Nat}{vd wp:Value}{s:Ah}{st:PS}{T:TypeId}{cs:List Value}
theorem L7.start (h:DO B ea w g gp bm vd wp s st) (T:TypeId) (cs:List Value) (a:T≠63/\T≠83/\T≠59/\T≠103):
  L7 B ea g gp bm vd wp s st w (w.alloc (.cells cs.toArray T)) w.heap.size T cs:=
 ⟨h.alloc _,zAr.alloc (.inr (Ab _)) _,AE.new _ _ _,Ab _,h.env.size,a⟩
theorem L7.ne (h:L7 B ea g gp bm vd wp s st w0 w R T cs):R≠g:=h.row.bt h.rd.row h.t.2.2.2
theorem L7.call (h:L7 B ea g gp bm vd wp s st w0 w R T cs) {w':World}{st':PS}{a c:Value}(d:Kg g w w') (e:DO B ea w' g gp bm a c s st'):L7 B ea g gp bm a c s st' w0 w' R T cs:=
 ⟨e,Kg.trans h.kg d,(If d h.row.lt h.ne).trans h.row,h.new,h.b,h.t⟩
theorem L7.bF (h:L7 B ea g gp bm vd wp s st w0 w R T cs) (a:T≠203) (i:Nat) (u:Value):L7 B ea g gp bm vd wp s st w0 (w.setCell ⟨R,i,none⟩ u) R T (cs.set i u):=
 ⟨h.rd.bF h.b h.row ⟨h.t.1,h.t.2.1,a,h.t.2.2.1⟩ h.t.2.2.2 i u,h.kg.setCell (p:=⟨R,i,none⟩) (.inr h.new) u,h.row.bF i u,h.new,h.b,h.t⟩
end
end Go.Proofs.YtepoejiigmhlbaaGreatDoor.Ev
