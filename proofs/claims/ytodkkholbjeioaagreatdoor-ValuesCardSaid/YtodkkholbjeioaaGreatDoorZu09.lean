/- Lemmas for a law's walk. Conditions: none. -/
import Derived.Test.YtodkkholbjeioaaGreatDoorZu06
import Derived.Test.YtodkkholbjeioaaGreatDoorZu08
set_option linter.all false
set_option maxRecDepth 100000
set_option maxHeartbeats 8000000
namespace Go.Proofs.YtodkkholbjeioaaGreatDoor.Ev
open _root_.Go.Proofs.Tryz
open Go Go.RowKit
theorem U6.kept {B:Nat}{ea:Nat->Addr}{w w':World}{S:Nat->Prop}(h:U6 B ea w) (a:Ac S w w') (d:∀b,S b->B<=b):U6 B ea w':=
 ⟨Ad h.size a.size,λk e f=>(a.cell (p:=⟨LJ k,0,none⟩) (λc=>by have:=d _ c;have:=h.lt k e f;simp at*;omega)).trans (h.err k e f),h.lt,
  Zb h.kw a (λc=>by have:=d _ c;have:=h.pD;omega),h.pD⟩
structure DR (B:Nat) (ea:Nat->Addr) (w:World) (g gp bm:Nat) (vd wp:Value) (s:Ah) (st:PS):Prop where
 env:U6 B ea w
 row:AF w g 190 (Dv s st gp wp)
 bQ:AF w gp 106 [vd,.int .i64 st.bI,.map (some bm)]
 decls:Sl (λb=>B<=b/\b≠g) w 102 3 vd st.decls.length (st.decls.flatMap Dx)
 rules:FT (λb=>B<=b/\b≠g) w bm st.rules
 bJ:IY B ea w wp st.bJ
 g0:B<=g
 jo:B<=gp
 nD:B<=bm
 i:st.i<=s.length
 s:s.length<=700
 dl:st.decls.length<=1000
abbrev Kg (g:Nat) (w w':World):Prop:=Ac (λb=>b=g\/w.heap.size<=b) w w'
theorem Kg.trans {g:Nat}{a b c:World}(h:Kg g a b) (k:Kg g b c):Kg g a c:=
 Ac.trans h (k.mono λx d=>d.elim .inl (λe=>.inr (Ad h.size e)))
section
variable {B:Nat}{ea:Nat->Addr}{w w':World}{g gp bm:Nat}{vd wp:Value}{s:Ah}{st:PS}
theorem FT.kept {N:Nat->Prop}{a:List (Int×Az)}(h:FT N w bm a) (b:w'.heap[bm]?=w.heap[bm]?) (c:∀k cs,N k->AF w k 220 cs->w'.heap[k]?=w.heap[k]?):FT N w' bm a:=by obtain⟨M,d,e,f⟩:=h;exact⟨M,d.fU b,e,λi x y j l=>(f i x y j l).kept c⟩
theorem DR.oo (h:DR B ea w g gp bm vd wp s st):gp≠g:=h.bQ.cZ h.row (by decide)
theorem In (a:Kg g w w') {b:Nat}(d:b<w.heap.size) (c:b≠g):w'.heap[b]?=w.heap[b]?:=a.block b (by rintro(h|h);exact c h;omega)
structure Mg (B:Nat) (w w':World):Prop where
 os:w'.os=w.os
 tape:w'.tape=w.tape
 output:w'.output=w.output
 size:w.heap.size<=w'.heap.size
 low:∀b,b<B->w'.heap[b]?=w.heap[b]?
 row:∀(b:Nat) t cs,AF w b t cs->(t=106\/t=102\/t=220\/t=129)->w'.heap[b]?=w.heap[b]?
 maps:∀(b:Nat) es c,w.heap[b]?=some (Obj.map es c)->w'.heap[b]?=w.heap[b]?
theorem Mg.kg (l:B<=w.heap.size) (m:B<=g) {cs:List Value}(e:AF w g 190 cs) (a:Kg g w w'):Mg B w w':=
 ⟨a.os,a.tape,a.output,a.size,λb n=>In a (by omega) (by omega),
  λb t j i k=>In a i.lt (i.cZ e (by rcases k with rfl|rfl|rfl|rfl<;>decide)),
  λb o c d=>In a (by
   rcases Be b w.heap.size with f|h
   ·exact f
   ·rw[Cj h]at d;cases d) (by
   rintro rfl;unfold AF at e;rw[e]at d;cases d)⟩
theorem Mg.bM {n:Nat}{t:TypeId}{cs:List Value}(m:B<=n) (e:AF w n t cs) (a:t≠106/\t≠102/\t≠220/\t≠129) (i:Nat) (u:Value):Mg B w (w.setCell ⟨n,i,none⟩ u):=by
 have d:Ac (λb=>b=n) w _:=Ac.one w ⟨n,i,none⟩ u;refine⟨rfl,rfl,rfl,d.size,λb o=>d.block b (by omega),λb p k l f=>d.block b (l.cZ e ?_),λb q c j=>d.block b ?_⟩
 ·rintro rfl;rcases f with h|h|h|h
  ·exact a.1 h
  ·exact a.2.1 h
  ·exact a.2.2.1 h
  ·exact a.2.2.2 h
 ·rintro rfl;unfold AF at e;rw[e]at j;cases j
theorem Mg.alloc (o:Obj) (h:B<=w.heap.size):Mg B w (w.alloc o):=
 ⟨rfl,rfl,rfl,by simp,λb i=>FU w o b (by omega),λb t cs f _=>FU w o b f.lt,λb j c e=>FU w o b (by
   rcases Be b w.heap.size with a|d
   ·exact a
   ·rw[Cj d]at e;cases e)⟩
theorem IY.quiet {x:Option (Nat×Nat)}(h:IY B ea w wp x) (b:Mg B w w'):IY B ea w' wp x:=by
 cases x with
 |none=>exact h
 |some y=>
  obtain⟨gf,c,d,a⟩:=h;exact⟨gf,c,d,(b.row gf _ _ a (.inr (.inr (.inr rfl)))).trans a⟩
theorem Sl.nL {S:Nat->Prop}{n:Nat}{v:Value}{xs:List Value}(h:Sl S w 102 3 v n xs) (e:Mg B w w'):Sl S w' 102 3 v n xs:=by
 obtain⟨⟨f,b⟩,i⟩:=h;refine⟨⟨f,?_⟩,i⟩;rcases b with b|⟨g,c,a,rfl,j,d,k⟩
 ·exact .inl b
 ·exact .inr ⟨g,c,a,rfl,j,(e.row g _ a.toList (by unfold AF;simpa using d) (.inr (.inl rfl))).trans d,k⟩
theorem DR.dS (h:DR B ea w g gp bm vd wp s st) (a:Mg B w w') {st':PS}{c:Value}(d:AF w' g 190 (Dv s st' gp c)) (f:st'.decls=st.decls) (o:st'.bI=st.bI) (e:st'.rules=st.rules)
  (p:IY B ea w' c st'.bJ) (q:st'.i<=s.length):DR B ea w' g gp bm vd c s st':=by
 refine⟨h.env.kept (S:=λb=>B<=b) ⟨a.os,a.tape,a.output,a.size,λb j=>a.low b (by omega)⟩ (λb j=>j),d,?_,?_,?_,p,h.g0,h.jo,h.nD,q,h.s,by rw[f];exact h.dl⟩
 ·rw[o];exact(a.row gp _ _ h.bQ (.inl rfl)).trans h.bQ
 ·rw[f];exact h.decls.nL a
 ·rw[e];obtain⟨M,⟨l,m,n,r⟩,t,u⟩:=h.rules;exact⟨M,⟨l,m,(a.maps bm l m n).trans n,r⟩,t,λi x y v z=>(u i x y v z).kept (λk cs _ d=>a.row k _ cs d (.inr (.inr (.inl rfl))))⟩
theorem DR.kg (h:DR B ea w g gp bm vd wp s st) (a:Kg g w w'):Mg B w w':=Mg.kg h.env.size h.g0 h.row a
theorem DR.alloc (h:DR B ea w g gp bm vd wp s st) (o:Obj):DR B ea (w.alloc o) g gp bm vd wp s st:=
 h.dS (Mg.alloc o h.env.size) (h.row.alloc o) rfl rfl rfl (h.bJ.quiet (Mg.alloc o h.env.size)) h.i
theorem DR.bM (h:DR B ea w g gp bm vd wp s st) {n:Nat}{t:TypeId}{cs:List Value}(c:B<=n) (a:AF w n t cs) (d:t≠106/\t≠102/\t≠220/\t≠129) (b:t≠190) (i:Nat) (u:Value):
  DR B ea (w.setCell ⟨n,i,none⟩ u) g gp bm vd wp s st:=
 h.dS (Mg.bM c a d i u) (h.row.dK (h.row.cZ a (λe=>b e.symm)) u) rfl rfl rfl (h.bJ.quiet (Mg.bM c a d i u)) h.i
end
def Tc (B:Nat) (ea:Nat->Addr) (w:World) (e:Ending) (w':World) (k pos:Nat):Prop:=
 ∃gf,e= .panicked [{v:=.iface 125 (.pointer (some ⟨gf,0,none⟩)),recovered:=false}]/\Ac (λb=>B<=b) w w'/\AF w' gf 129 [Ds ea k,.int .i64 pos]/\B<=gf
section
variable {B:Nat}{ea:Nat->Addr}{w:World}{g gp bm:Nat}{vd wp:Value}{s:Ah}{st:PS}
theorem Sz (h:DR B ea w g gp bm vd wp s st) (k:Nat):Calls prog 118 #[.pointer (some ⟨g,0,none⟩),Ds ea k] w λe w'=>Tc B ea w e w' k st.t.pos:=by
 obtain⟨_,_,_,_,c4,_⟩:=AZ h.row;have b:=h.env.size;have a:Tc B ea w (.panicked [{v:=.iface 125 (.pointer (some ⟨w.heap.size,0,none⟩)),recovered:=false}]) (w.alloc (.cells #[Ds ea k,.int .i64 st.t.pos] 129)) k st.t.pos:=
  ⟨_,rfl,zAr.alloc b _,AF.new w _ _,b⟩
 have c:=Aa a;unfold Ds at*;clear a h b;go_enter func118,ntmps118;go_wp2;exact⟨rfl,c.out⟩
theorem dY (h:DR B ea w g gp bm vd wp s st) {w':World}(c:Ac (λb=>b=g) w w') (d:AF w' g 190 (Dv s (next s st) gp wp)):DR B ea w' g gp bm vd wp s (next s st):=by
 have a:Kg g w w':=c.mono λb e=>.inl e;exact h.dS (h.kg a) d rfl rfl rfl (h.bJ.quiet (h.kg a)) (by
  exact(J8 s st.i h.i).2.2.1)
theorem Er (h:DR B ea w g gp bm vd wp s st):
  Calls prog 72 #[.pointer (some ⟨g,0,none⟩)] w λe w'=>e= .returned (.tuple #[])/\Kg g w w'/\DR B ea w' g gp bm vd wp s (next s st):=by
 refine(pH g gp wp s st w h.env.kw (λe=>by have:=h.env.pD;have:=h.g0;omega) (by have:=h.s;omega) h.i h.row).mono ?_;rintro e w' ⟨c,a,d⟩;exact⟨c,a.mono λb f=>.inl f,dY h a d⟩
def IW (t:M9):Value:=.agg #[vs t.kind,vs t.text,.int .i64 t.pos]
def DX {α:Type} (B:Nat) (ea:Nat->Addr) (w:World) (g gp bm:Nat) (s:Ah) (x:AQ α) (b:World->α->Value->Prop) (e:Ending) (w':World):Prop:=
 match x with
 | .ok a st'=>∃v,e= .returned v/\b w' a v/\Kg g w w'/\∃vd wp,DR B ea w' g gp bm vd wp s st'
 | .bad k pos=>Tc B ea w e w' k pos
theorem Gr (h:DR B ea w g gp bm vd wp s st) (k:Ah):
  Calls prog 115 #[.pointer (some ⟨g,0,none⟩),vs k] w λe w'=>e= .returned (.bool (take s k st).1)/\Kg g w w'/\DR B ea w' g gp bm vd wp s (take s k st).2:=by
 obtain⟨_,_,c2,_⟩:=AZ h.row;have f:=Aa h;unfold vs at*;by_cases a:st.t.kind=k
 ·have e1:(st.t.kind==k)=true:=by simpa using a
  have b:take s k st=(true,next s st):=by unfold take;rw[Al a]
  rw[b];clear a b h;go_enter func115,ntmps115;go_wp2_with (go_at_call 72;refine(Er f.out).mono ?_;rintro e w' ⟨rfl,c,i⟩;have d:=Aa c;have j:=Aa i;clear c i);go_ret;exact⟨rfl,d.out,j.out⟩
 ·have e1:(st.t.kind==k)=false:=by simpa using a
  have b:take s k st=(false,st):=by unfold take;rw[Ai a]
  rw[b];clear a b h;go_enter func115,ntmps115;go_wp2;go_ret;exact⟨rfl,Ac.refl _ _,f.out⟩
theorem Dd (h:DR B ea w g gp bm vd wp s st) (k:Ah):
  Calls prog 75 #[.pointer (some ⟨g,0,none⟩),vs k] w λe w'=>DX B ea w g gp bm s (want s k st) (λ_ t v=>v=IW t) e w':=by
 obtain⟨_,_,c2,c3,c4,_⟩:=AZ h.row;have U:=h.row.lt;have l:w.cell? ⟨6,0,none⟩=some (.iface 304 (.pointer (some (ea 2)))):=h.env.err 2 (by omega) (by omega);have z:6<w.heap.size:=An (h.env.lt 2 (by omega) (by omega)) h.env.size;have m:=Aa h;unfold vs at*;by_cases c:st.t.kind=k
 ·have e1:(st.t.kind==k)=true:=by simpa using c
  have n:want s k st= .ok st.t (next s st):=by unfold want;rw[Al c]
  rw[n];clear c n h l z;have A:=Aa ((m.out.alloc (.cells #[.string ⟨#[]⟩,.string ⟨#[]⟩,.int .i64 0] 188)).alloc (.cells #[.string ⟨st.t.kind.toArray⟩,.string ⟨st.t.text.toArray⟩,.int .i64 st.t.pos] 188));have C:=m.out.env.size;have V:=m.out.row.lt;go_enter func75,ntmps75;go_wp2_with fail;refine(Er A.out).mono ?_;rintro e w1 ⟨rfl,a,o⟩;have d:AF ((w.alloc (.cells #[.string ⟨#[]⟩,.string ⟨#[]⟩,.int .i64 0] 188)).alloc (.cells #[.string ⟨st.t.kind.toArray⟩,.string ⟨st.t.text.toArray⟩,.int .i64 st.t.pos] 188)) w.heap.size 188 [vs [],vs [],.int .i64 0]:=(AF.new w _ _).alloc _;have f:AF ((w.alloc (.cells #[.string ⟨#[]⟩,.string ⟨#[]⟩,.int .i64 0] 188)).alloc (.cells #[.string ⟨st.t.kind.toArray⟩,.string ⟨st.t.text.toArray⟩,.int .i64 st.t.pos] 188)) (w.heap.size+1) 188 [vs st.t.kind,vs st.t.text,.int .i64 st.t.pos]:=by have:=AF.new (w.alloc (.cells #[.string ⟨#[]⟩,.string ⟨#[]⟩,.int .i64 0] 188)) 188 [vs st.t.kind,vs st.t.text,.int .i64 st.t.pos];simpa using this
  have i:AF w1 w.heap.size 188 _:=(In a d.lt (by omega)).trans d;have y:AF w1 (w.heap.size+1) 188 _:=(In a f.lt (by omega)).trans f;obtain⟨L,M,N,O,q,r⟩:=zp6 (i.cell 0) (i.cell 1) (i.cell 2) (y.cell 0) (y.cell 1) (y.cell 2);have W:=λj=>i.frozen j;obtain⟨X,Y,D⟩:=zq3 i o a;clear i y d f o a;simp at L M N O q r;go_wp2;have E:=X.out;have o:=Y.out;have F:B<=w.heap.size:=C;have P:=o.bM F E (by decide) (by decide) 0 (.string ⟨st.t.kind.toArray⟩);have G:=E.bM 0 (.string ⟨st.t.kind.toArray⟩);have g2:=P.bM F G (by decide) (by decide) 1 (.string ⟨st.t.text.toArray⟩);have H:=G.bM 1 (.string ⟨st.t.text.toArray⟩);have Q:=g2.bM F H (by decide) (by decide) 2 (.int .i64 st.t.pos);have u:=H.bM 2 (.int .i64 st.t.pos);have x:Kg g w _:=((((Ac.refl (λb=>b=g\/w.heap.size<=b) w).alloc (.inr (Ab _)) _).alloc (.inr (by simp)) _).trans (D.out.mono (λb Z=>Z.elim .inl (λh=>.inr (Ad (by simp;omega) h))))).setCell (p:=⟨w.heap.size,0,none⟩) (.inr (Ab _)) (.string ⟨st.t.kind.toArray⟩)|>.setCell (p:=⟨w.heap.size,1,none⟩) (.inr (Ab _)) (.string ⟨st.t.text.toArray⟩)|>.setCell (p:=⟨w.heap.size,2,none⟩) (.inr (Ab _)) (.int .i64 st.t.pos);obtain⟨G3,I⟩:=zq2 Q x;have R:=u.cell 0;have S:=u.cell 1;have T:=u.cell 2;have zf:=λj=>u.frozen j;simp at R S T;clear Q x P g2 o E G H u L M N O q r W;generalize bJ:((w1.setCell ⟨w.heap.size,0,none⟩ _).setCell ⟨w.heap.size,1,none⟩ _).setCell ⟨w.heap.size,2,none⟩ _=w2 at*;refine AB (v:=IW st.t) (by simp[results,Tryz.results75,go_sem,R,S,T,zf,IW,vs]) rfl ?_;exact⟨_,rfl,rfl,I.out,_,_,G3.out⟩
 ·have e1:(st.t.kind==k)=false:=by simpa using c
  have n:want s k st= .bad D9 st.t.pos:=by unfold want fail;rw[Ai c]
  rw[n];clear c n h;have A:=Aa (m.out.alloc (.cells #[.string ⟨#[]⟩,.string ⟨#[]⟩,.int .i64 0] 188));have C:=m.out.env.size;go_enter func75,ntmps75;go_wp2_with fail;refine(Sz A.out 2).mono ?_;rintro e w1 ⟨gf,rfl,c,hr,J⟩;have K:Ac (λb=>B<=b) w w1:=((Ac.refl _ w).alloc C _).trans c;go_wp2;exact⟨rfl,gf,rfl,K,hr,J⟩
theorem Hi (h:DR B ea w g gp bm vd wp s st) (k pos:Nat):
  Calls prog 112 #[.pointer (some ⟨g,0,none⟩),Ds ea k,.int .i64 pos] w λe w'=>e= .returned (.tuple #[])/\Kg g w w'/\∃l,DR B ea w' g gp bm vd l s (note k pos st):=by
 obtain⟨_,_,_,_,_,_,_,_,_,t⟩:=AZ h.row;have q:=h.row.lt;have f:=λj=>h.row.frozen j;have n:=Aa h;have b:=h.bJ;cases a:st.bJ with
 |none=>
  rw[a]at b;have m:wp= .pointer none:=b;subst m;have c:note k pos st={st with bJ:=some (k,pos)}:=by unfold note;rw[a]
  rw[c];clear b a c h;unfold Ds;go_enter func112,ntmps112;go_wp2;go_end0;have d:=n.out;have r:Kg g w (w.setCell ⟨g,9,none⟩ (.pointer (some ⟨w.heap.size,0,none⟩))):=Ac.setCell (p:=⟨g,9,none⟩) zAr (.inl rfl) _;have o:=r.alloc (.inr (by simp)) (.cells #[Ds ea k,.int .i64 pos] 129);have n1:=(AF.new (w.setCell ⟨g,9,none⟩ (.pointer (some ⟨w.heap.size,0,none⟩))) 129 [Ds ea k,.int .i64 pos]);refine⟨rfl,o,.pointer (some ⟨w.heap.size,0,none⟩),d.dS (st':={st with bJ:=some (k,pos)}) (d.kg o) ?_ rfl rfl rfl ?_ d.i⟩
  ·have:=(d.row.bM 9 (.pointer (some ⟨w.heap.size,0,none⟩))).alloc (.cells #[Ds ea k,.int .i64 pos] 129);exact this
  ·exact⟨_,rfl,d.env.size,by simpa using n1⟩
 |some y=>
  rw[a]at b;obtain⟨gf,rfl,_,_⟩:=b;have c:note k pos st=st:=by unfold note;rw[a]
  rw[c];clear a c h;unfold Ds;go_enter func112,ntmps112;go_wp2;go_end0;exact⟨rfl,Ac.refl _ _,_,n.out⟩
end
theorem cR:∀(l:Ah) (n:Nat),(∀c∈l,Gq c=true)->∃m,Lib.decFrom n l=some m/\l.foldl (λ(n:Int) c=>10*n+((c.toNat:Int)-48)) (n:Int)=(m:Int)
 | [],n,_=>⟨n,rfl,rfl⟩
 |c::l,n,h=>by
  have a:=h c (by simp);have b:48<=c.toNat/\c.toNat<=57:=by simp only[Gq,Eh,Ey,DZ]at a;exact a
  obtain⟨m,d,e⟩:=cR l (n*10+(c.toNat-48)) (λx f=>h x (by simp[f]));refine⟨m,?_,?_⟩
  ·simp[Lib.decFrom,Lib.digitVal,b,d]
  ·rw[←e,U0];congr 1;omega
theorem xh {l:Ah}(h:UY l):Lib.atoi l=some (atoi l)/\0<=atoi l:=by
 obtain⟨f,n,a⟩:=h;cases l with
 |nil=>simp at f
 |cons c l=>
  have b:=a c (by simp);have d:48<=c.toNat/\c.toNat<=57:=by simp only[Gq,Eh,Ey,DZ]at b;exact b
  obtain⟨m,i,j⟩:=cR (c::l) 0 a;have n1:(c==45)=false:=by rw[BJ];rintro rfl;simp at d
  have k:(c==43)=false:=by rw[BJ];rintro rfl;simp at d
  have e:atoi (c::l)=(m:Int):=j;rw[e];refine⟨?_,by omega⟩;unfold Lib.atoi;simp only[n1,k,Ap,A8];unfold Lib.decNat;simp[i]
section
variable {B:Nat}{ea:Nat->Addr}{w:World}{g gp bm:Nat}{vd wp:Value}{s:Ah}{st:PS}
theorem bz (g:Nat) (w:World) (e:TypeId) (t:ByteArray):Kg g w (Lib.bytesWorld w e t):=
 Ac.dF (Joins.below_bytesWorld w.heap.size w e t (Ab _)) (λk a=>.inr a)
theorem DR.jh (h:DR B ea w g gp bm vd wp s st) {w':World}(a:Kg g w w') (b:w'.heap[g]?=w.heap[g]?):DR B ea w' g gp bm vd wp s st:=
 h.dS (h.kg a) (b.trans h.row) rfl rfl rfl (h.bJ.quiet (h.kg a)) h.i
theorem DR.bytes (h:DR B ea w g gp bm vd wp s st) (e:TypeId) (t:ByteArray):DR B ea (Lib.bytesWorld w e t) g gp bm vd wp s st:=
 h.jh (bz g w e t) (Lib.bytesWorld_at_old w e t g h.row.lt)
theorem IV (h:DR B ea w g gp bm vd wp s st) (z:st.Ok s) (c d:Int):
  Calls prog 113 #[.pointer (some ⟨g,0,none⟩),.int .i64 c,.int .i64 d] w λe w'=>DX B ea w g gp bm s (number s c d st) (λ_ n v=>v= .int .i64 n) e w':=by
 have U:=Aa h;by_cases q:st.t.kind=Bw
 ·have k:want s Bw st= .ok st.t (next s st):=by unfold want;rw[Al q]
  have r:number s c d st= .ok (atoi st.t.text) (if atoi st.t.text<c\/atoi st.t.text>d then note Lt st.t.pos (next s st)else next s st):=by unfold number;rw[k];rfl
  rw[r];have a:=Dd h Bw;rw[k]at a;obtain⟨I,N⟩:=xh (z.num q);have O:st.t.text.length<=18:=by have:=(z.num q).2.1;omega
  obtain⟨A,P⟩:=zq2 a I;clear a I r k q h z;unfold vs at*;go_enter func113,ntmps113;go_wp2_with fail;refine A.out.mono ?_;rintro e w1 ⟨v,rfl,rfl,u,l,C,J⟩;obtain⟨i,K⟩:=zq2 u J;clear u J;unfold IW vs;go_wp2_with fail;refine(Tryz.strconv_Atoi ⟨st.t.text.toArray⟩ (atoi st.t.text) O P.out _).mono ?_;rintro e V ⟨rfl,t,rfl⟩;have m:=(AF.new w1 188 [vs st.t.kind,vs st.t.text,.int .i64 st.t.pos]);have D:AF (Lib.bytesWorld (w1.alloc (.cells #[vs st.t.kind,vs st.t.text,.int .i64 st.t.pos] 188)) 5 t) w1.heap.size 188 _:=(Lib.bytesWorld_at_old _ _ _ _ m.lt).trans m;have E:=(K.out.alloc (.cells #[vs st.t.kind,vs st.t.text,.int .i64 st.t.pos] 188)).bytes 5 t;have x:=(i.out.alloc (.inr (i.out.size)) (.cells #[vs st.t.kind,vs st.t.text,.int .i64 st.t.pos] 188)).trans ((bz g _ 5 t).mono (λb Q=>Q.elim .inl (λR=>.inr (Ad i.out.size (Ad (by simp) R)))));unfold vs at*;generalize G:Lib.bytesWorld _ 5 t=w3 at*;have L:w3.cell? ⟨11,0,none⟩=some (.iface 304 (.pointer (some (ea 7)))):=E.env.err 7 (by omega) (by omega);have S:=D.cell 2;have W:=λj=>D.frozen j;simp at S;obtain⟨M,o⟩:=zq2 E x;clear E x D m G i K;have H:=Hi M.out 7 st.t.pos;by_cases X:atoi st.t.text<c
  ·go_wp2_with fail;refine H.mono ?_;rintro e T ⟨rfl,f,p,y⟩;have F:=Aa (And.intro f y);clear f y;go_wp2;go_ret;refine⟨_,rfl,rfl,Kg.trans o.out F.out.1,l,p,?_⟩;exact F.out.2
  ·by_cases c2:atoi st.t.text>d
   ·go_wp2_with fail;refine H.mono ?_;rintro e T ⟨rfl,f,p,y⟩;have F:=Aa (And.intro f y);clear f y;go_wp2;go_ret;refine⟨_,rfl,rfl,Kg.trans o.out F.out.1,l,p,?_⟩;exact F.out.2
   ·clear H;go_wp2;go_ret;refine⟨_,rfl,rfl,o.out,l,C,?_⟩;exact M.out
 ·have k:want s Bw st= .bad D9 st.t.pos:=by unfold want fail;rw[Ai q]
  have r:number s c d st= .bad D9 st.t.pos:=by unfold number;rw[k];rfl
  rw[r];have a:=Dd h Bw;rw[k]at a;have A:=Aa a;clear a r k q h z;unfold vs at*;go_enter func113,ntmps113;go_wp2_with fail;refine A.out.mono ?_;rintro e w1 ⟨gf,rfl,hF⟩;go_wp2;exact⟨rfl,gf,rfl,hF⟩
end
end Go.Proofs.YtodkkholbjeioaaGreatDoor.Ev
namespace Go.Proofs.YtodkkholbjeioaaGreatDoor.Ev
open _root_.Go.Proofs.Tryz
open Go Go.RowKit Go.Shelf
theorem MZ (name:Ah):∀(l:List Bi) (k:Nat),(∀(j:Nat) (d:Bi),l[j]?=some d->d.name≠name)->Dh name l k= -1
 | [],k,_=>rfl
 |d::l,k,h=>by rw[Dh,Ai (h 0 d rfl)];exact MZ name l (k+1) (λj a b=>h (j+1) a b)
theorem N9 (name:Ah):∀(l:List Bi) (k i:Nat) (d:Bi),l[i]?=some d->d.name=name->(∀(j:Nat) (d:Bi),j<i->l[j]?=some d->d.name≠name)->Dh name l k=((k+i:Nat):Int)
 | [],k,i,d,h,_,_=>by simp at h
 |c::l,k,0,d,h,b,_=>by
  simp only[AJ,Co]at h;subst h;rw[Dh,Al b];rfl
 |c::l,k,i+1,d,h,b,a=>by rw[Dh,Ai (a 0 c (Ci _) rfl),N9 name l (k+1) i d (by simpa using h) b (λj x f e=>a (j+1) x (by omega) (by simpa using e))];congr 1;omega
theorem mm (name:Ah) (b:Nat) (d:Bi) (w:World) (c:b<w.heap.size) (f:w.cell? ⟨b,0,none⟩=some (vs name)):
  Calls prog 133 #[.agg (Dx d).toArray,.pointer (some ⟨b,0,none⟩)] w λe w'=>e= .returned (.bool (d.name==name))/\Below w.heap.size w w':=by
 have a:b≠w.heap.size:=by omega
 unfold Dx vs at*;go_enter func133,ntmps133;go_wp2
 all_goals(go_ret;exact⟨by simp_all,(LA _ w).alloc (Ab _) _⟩)
theorem Sl.cB {S:Nat->Prop}{w:World}{e:TypeId}{size:Nat}{v:Value}{n:Nat}{xs:List Value}(h:Sl S w e size v n xs):∃c a,v= .slice c n a:=by
 obtain⟨⟨_,b⟩,i⟩:=h;rcases b with⟨b,d⟩|⟨g,a,f,rfl,_⟩
 ·subst d;exact⟨_,_,b⟩
 ·exact⟨_,_,rfl⟩
theorem Sl.nM {S:Nat->Prop}{w:World}{e:TypeId}{size:Nat}{c:Option Addr}{a:Nat}{α:Type}{f:α->List Value}{l:List α}(h:Sl S w e size (.slice c l.length a) l.length (l.flatMap f)) (m:∀x,(f x).length=size)
  {i:Nat} {x:α} (d:l[i]?=some x):∃g,c=some ⟨g,0,none⟩/\g<w.heap.size/\∀j,j<size->w.cell? ⟨g,i*size+j,none⟩=(f x)[j]?:=by
 have q:i<l.length:=(Aj.1 d).1;obtain⟨g,k,b,_,_,_,n⟩:=h.form (by omega);injection b with b r o;subst b;subst o;exact⟨g,rfl,n,λj p=>h.at_ m d p⟩
theorem lO {S:Nat->Prop}(name:Ah) (b:Nat) (l:List Bi) (y:Value) (w:World) (s:Sl S w 102 3 y l.length (l.flatMap Dx)) (M:l.length<=1000) (z:b<w.heap.size) (B:w.cell? ⟨b,0,none⟩=some (vs name)):
  Calls prog 69 #[y,.func (.func 133) #[] #[.pointer (some ⟨b,0,none⟩)]] w λe w'=>e= .returned (.int .i64 (find l name))/\Below w.heap.size w w':=by
 obtain⟨N,G,rfl⟩:=s.cB;obtain⟨H,I,C⟩:=zq3 s B z;clear s B z;go_enter func69,ntmps69;go_wp2
 go_loopg [5,8] l.length (λJ _ K wr=>∃g:Nat,g<=l.length/\l.length-g<=J/\K= .int .i64 g/\Below w.heap.size w wr/\(∀(j:Nat) (d:Bi),j<g->l[j]?=some d->d.name≠name))
 case atStart=>exact⟨0,AM _,by omega,rfl,LA _ w,λj d D=>absurd D (UZ _)⟩
 case round=>
  obtain⟨g,L,O,rfl,E,a⟩:=hrel;obtain⟨i,A⟩:=zq2 E a;clear E a;by_cases t:g<l.length
  ·obtain⟨x,u⟩:∃x,l[g]?=some x:=⟨_,Ae t⟩;obtain⟨q,rfl,k,f⟩:=H.out.nM (λ_=>rfl) u;have P:wr.cell? ⟨q,g*3,none⟩=some (.int .i64 x.kind):=(i.out.cell (p:=⟨q,g*3,none⟩) k).trans (f 0 (by omega));have Q:wr.cell? ⟨q,g*3+1,none⟩=some (vs x.name):=(i.out.cell (p:=⟨q,g*3+1,none⟩) k).trans (f 1 (by omega));have c2:wr.cell? ⟨q,g*3+2,none⟩=some (.int .i64 x.max):=(i.out.cell (p:=⟨q,g*3+2,none⟩) k).trans (f 2 (by omega));have c:=mm name b x wr (An C.out i.out.size) ((i.out.cell (p:=⟨b,0,none⟩) C.out).trans I.out);have F:=Aa u;clear u f k;unfold vs at*;by_cases r:x.name=name
   ·have e1:(x.name==name)=true:=by simpa using r
    rw[e1]at c;obtain⟨n,v⟩:=zq2 c r;clear c r e1;go_wp2_with fail;refine n.out.mono ?_;rintro e w' ⟨rfl,h⟩;have o:=Aa h;clear h;go_wp2;go_ret;refine⟨?_,i.out.trans (o.out.mono i.out.size)⟩;unfold find;rw[N9 name l 0 g x F.out v.out A.out,DK];rfl
   ·have e1:(x.name==name)=false:=by simpa using r
    rw[e1]at c;obtain⟨n,v⟩:=zq2 c r;clear c r e1;go_wp2_with fail;refine n.out.mono ?_;rintro e w' ⟨rfl,h⟩;have o:=Aa h;clear h;go_wp2;go_roundg (l.length-(g+1))
    case measure=>omega
    case rel=>
     refine⟨g+1,by omega,by omega,by go_num,i.out.trans (o.out.mono i.out.size),λj d D m=>?_⟩;by_cases e:j=g
     ·subst e;rw[F.out]at m;injection m with m;exact m▸v.out
     ·exact A.out j d (by omega) m
  ·have:g=l.length:=by omega
   subst this;go_wp2;go_ret;refine⟨?_,i.out⟩;unfold find;rw[MZ name l 0 (λj d m=>A.out j d (Aj.1 m).1 m)];rfl
theorem Sy {S:Nat->Prop}(name:Ah) (gp:Nat) (l:List Bi) (d:Value) (w:World) (f:Sl S w 102 3 d l.length (l.flatMap Dx)) (i:l.length<=1000) (n:gp<w.heap.size) (o:w.cell? ⟨gp,0,none⟩=some d):
  Calls prog 114 #[.pointer (some ⟨gp,0,none⟩),vs name] w λe w'=>e= .returned (.int .i64 (find l name))/\Below w.heap.size w w':=by
 have j:gp≠w.heap.size:=by omega
 have k:∀(h:Fn) (first b:Array Value) (w:World),(Instr.makeFunc h first b).run prog w= .ok (.func h first b) w:=λ_ _ _ _=>rfl;have a:=lO name w.heap.size l d (w.alloc (.cells #[vs name] 9)) (f.alloc _) i (by simp) (by simp);obtain⟨p,b,rfl⟩:=f.cB;have m:=Aa a;clear a f;unfold vs at*;go_enter func114,ntmps114;go_wp2_with fail
 trace_state
 refine m.out.mono ?_;rintro e w' ⟨rfl,c⟩;have g:=Aa c;clear c;go_wp2;go_ret;exact⟨rfl,((LA _ w).alloc (Ab _) _).trans (g.out.mono (by simp))⟩
end Go.Proofs.YtodkkholbjeioaaGreatDoor.Ev
namespace Go.Proofs.YtodkkholbjeioaaGreatDoor.Ev
open _root_.Go.Proofs.Tryz
open Go Go.RowKit
theorem Pu (name:Ah):∀(l:List Bi) (k:Nat),Dh name l k= -1\/∃(i:Nat) (d:Bi),l[i]?=some d/\Dh name l k=((k+i:Nat):Int)
 | [],k=>.inl rfl
 |d::l,k=>by
  by_cases h:d.name=name
  ·exact .inr ⟨0,d,rfl,by rw[Dh,Al h];rfl⟩
  ·rcases Pu name l (k+1)with a|⟨i,b,a,c⟩
   ·exact .inl (by rw[Dh,Ai h,a])
   ·exact .inr ⟨i+1,b,by simpa using a,by rw[Dh,Ai h,c];congr 1;omega⟩
theorem Wk (l:List Bi) (name:Ah):find l name= -1\/∃(i:Nat) (d:Bi),l[i]?=some d/\find l name=(i:Int)/\Aq l (i:Int)=d:=by
 rcases Pu name l 0 with h|⟨i,d,a,b⟩
 ·exact .inl h
 ·exact .inr ⟨i,d,a,by unfold find;rw[b,DK],by unfold Aq;simp[a]⟩
section
variable {B:Nat}{ea:Nat->Addr}{w:World}{g gp bm:Nat}{vd wp:Value}{s:Ah}{st:PS}
theorem DR.below (h:DR B ea w g gp bm vd wp s st) {w':World}(a:Below w.heap.size w w'):DR B ea w' g gp bm vd wp s st:=
 h.jh (Ac.dF a (λk b=>.inr b)) (a.block g h.row.lt)
theorem DR.drewN (h:DR B ea w g gp bm vd wp s st) (n:Nat):DR B ea (w.drewN n) g gp bm vd wp s st:=h.jh ((Ac.refl _ w).drewN n) rfl
theorem Jx {g:Nat}{w w':World}(a:Below w.heap.size w w'):Kg g w w':=Ac.dF a (λk b=>.inr b)
theorem Js (h:DR B ea w g gp bm vd wp s st) (a:Bool):
  Calls prog 116 #[.pointer (some ⟨g,0,none⟩),.bool a] w λe w'=>DX B ea w g gp bm s (name s a st) (λ_ n v=>v= .int .i64 n) e w':=by
 by_cases L:st.t.kind=Ch
 ·have y:want s Ch st= .ok st.t (next s st):=by unfold want;rw[Al L]
  have D:name s a st= .ok (find (next s st).decls st.t.text) (Cw a st.t (next s st)):=by unfold name;rw[y];rfl
  rw[D];have b:=Dd h Ch;rw[y]at b;have N:=Aa b;clear b D y L h;generalize next s st=st1 at*
  unfold vs at*;go_enter func116,ntmps116;go_wp2_with fail;refine N.out.mono ?_;rintro e w1 ⟨v,rfl,rfl,z,E,G,O⟩;have A:=O.alloc (.cells #[vs st.t.kind,vs st.t.text,.int .i64 st.t.pos] 188);obtain⟨C,H,P⟩:=zp3 (A.drewN 1) ((z.alloc (.inr z.size) (.cells #[vs st.t.kind,vs st.t.text,.int .i64 st.t.pos] 188)).drewN 1) (AF.new w1 188 [vs st.t.kind,vs st.t.text,.int .i64 st.t.pos]);have k:=Sy st.t.text gp st1.decls E _ C.decls C.dl C.bQ.lt (C.bQ.cell 0);obtain⟨_,_,_,_,_,c5,_⟩:=AZ A.row;have T:=P.cell 1;simp at T;obtain⟨Z,HA,Q,X0,H1⟩:=zq5 k C H P O;clear k C A H P O z;unfold IW;go_wp2_with fail
  (refine Du 6 (by kernel_rfl) (by kernel_rfl) ?_;simp only[Au,AI,Av,AK];repeat still_step)
  refine BT ?_;go_wp2_with fail;refine Z.out.mono ?_;rintro e M ⟨rfl,q⟩;have c:=HA.out.below q;have I:=Kg.trans Q.out (Jx q);have U:AF M w1.heap.size 188 [vs st.t.kind,vs st.t.text,.int .i64 st.t.pos]:=(q.block _ (by simp)).trans X0.out;have d2:=U.cell 2;simp at d2;obtain⟨_,_,_,_,_,bK,_⟩:=AZ c.row;have p0:=c.bQ.cell 0;have en:M.cell? ⟨9,0,none⟩=some (.iface 304 (.pointer (some (ea 5)))):=c.env.err 5 (by omega) (by omega);have ek:M.cell? ⟨10,0,none⟩=some (.iface 304 (.pointer (some (ea 6)))):=c.env.err 6 (by omega) (by omega);have V:=Hi c 5 st.t.pos;have W:=Hi c 6 st.t.pos;obtain⟨N5,X,DL,R,l⟩:=zq5 V W c.decls c I;clear V W c I U q c5 T;rcases Wk st1.decls st.t.text with p|⟨i,d,S,p,Y⟩
  ·have j:Cw a st.t st1=note YA st.t.pos st1:=by unfold Cw;rw[p];rfl
   rw[p];go_wp2_with fail;refine N5.out.mono ?_;rintro e w3 ⟨rfl,f,m,x⟩;have F:=Aa (And.intro f x);clear f x;go_wp2;go_ret;refine⟨_,rfl,by rw[p];rfl,Kg.trans l.out F.out.1,E,m,?_⟩;rw[j];exact F.out.2
  ·obtain⟨ao,r,rfl⟩:=R.out.decls.cB;obtain⟨J,rfl,bN,o⟩:=DL.out.nM (λ_=>rfl) S;have q0:M.cell? ⟨J,i*3,none⟩=some (.int .i64 d.kind):=o 0 (by omega);have bO:i<st1.decls.length:=(Aj.1 S).1;have j:Cw a st.t st1=if(d.kind==2)!=a then note Uk st.t.pos st1 else st1:=by unfold Cw;rw[p,Ai (by omega),Y]
   clear o Y S;rw[p];by_cases c:d.kind=2
   ·have K:(d.kind:Int)=2:=by omega
    cases a with
    |true=>
     have j:Cw true st.t st1=st1:=by rw[j,c];rfl
     clear c;go_wp2;go_ret;refine⟨_,rfl,by rw[p];rfl,l.out,.slice (some ⟨J,0,none⟩) st1.decls.length r,G,?_⟩;rw[j];exact R.out
    |false=>
     have j:Cw false st.t st1=note Uk st.t.pos st1:=by rw[j,c];rfl
     clear c;go_wp2_with fail;refine X.out.mono ?_;rintro e w3 ⟨rfl,f,m,x⟩;have F:=Aa (And.intro f x);clear f x;go_wp2;go_ret;refine⟨_,rfl,by rw[p];rfl,Kg.trans l.out F.out.1,.slice (some ⟨J,0,none⟩) st1.decls.length r,m,?_⟩;rw[j];exact F.out.2
   ·have K:¬(d.kind:Int)=2:=by omega
    have u:(d.kind==2)=false:=by simpa using c
    have bP:((d.kind:Int)==2)=false:=by simpa using K
    cases a with
    |true=>
     have j:Cw true st.t st1=note Uk st.t.pos st1:=by rw[j,u];rfl
     clear c u;go_wp2_with fail;refine X.out.mono ?_;rintro e w3 ⟨rfl,f,m,x⟩;have F:=Aa (And.intro f x);clear f x;go_wp2;go_ret;refine⟨_,rfl,by rw[p];rfl,Kg.trans l.out F.out.1,.slice (some ⟨J,0,none⟩) st1.decls.length r,m,?_⟩;rw[j];exact F.out.2
    |false=>
     have j:Cw false st.t st1=st1:=by rw[j,u];rfl
     clear c u;go_wp2;go_ret;refine⟨_,rfl,by rw[p];rfl,l.out,.slice (some ⟨J,0,none⟩) st1.decls.length r,G,?_⟩;rw[j];exact R.out
 ·have y:want s Ch st= .bad D9 st.t.pos:=by unfold want fail;rw[Ai L]
  have D:name s a st= .bad D9 st.t.pos:=by unfold name;rw[y];rfl
  rw[D];have b:=Dd h Ch;rw[y]at b;have N:=Aa b;clear b D y L h;unfold vs at*;go_enter func116,ntmps116;go_wp2_with fail;refine N.out.mono ?_;rintro e w1 ⟨gf,rfl,hF⟩;go_wp2;exact⟨rfl,gf,rfl,hF⟩
end
theorem AT {P:Program}{c:Func}{r:Nat}{t:TypeId}{e:TypeId}{R:Nat}{cs:List Value}{w:World}{a:Array Value}(h:c.results=#[.cell r t])
  (d:∀w,(isAgg t).run P w= .ok true w) (f:∀w,(Go.sizeOf t).run P w= .ok cs.length w) (i:a.getD r undef= .pointer (some ⟨R,0,none⟩)) (k:AF w R e cs):
  (results c a).run P w= .ok (.agg cs.toArray) w:=by
 have l:=run_loadCells_list (P:=P) (w:=w) ⟨R,0,none⟩ cs (λj v m=>by
  have:=k.cell j;rw[m]at this;by_cases b:j=0
  ·subst b;simpa[Addr.add]using this
  ·simpa[Addr.add,b]using this)
 have n:a[r]?.getD undef= .pointer (some ⟨R,0,none⟩):=by simpa[Array.getD_eq_getD_getElem?]using i
 simp[results,h,n,asAddr,loadVar,d,f,l]
structure Mj (B:Nat) (ea:Nat->Addr) (g gp bm:Nat) (vd wp:Value) (s:Ah) (st:PS) (w0 w:World) (R:Nat) (T:TypeId) (cs:List Value):Prop where
 rd:DR B ea w g gp bm vd wp s st
 kg:Kg g w0 w
 row:AF w R T cs
 new:w0.heap.size<=R
 b:B<=R
 t:T≠106/\T≠102/\T≠129/\T≠190
section
variable {B:Nat}{ea:Nat->Addr}{w w0:World}{g gp bm R:Nat}{vd wp:Value}{s:Ah}{st:PS}{T:TypeId}{cs:List Value}
theorem Mj.start (h:DR B ea w g gp bm vd wp s st) (T:TypeId) (cs:List Value) (a:T≠106/\T≠102/\T≠129/\T≠190):
  Mj B ea g gp bm vd wp s st w (w.alloc (.cells cs.toArray T)) w.heap.size T cs:=
 ⟨h.alloc _,zAr.alloc (.inr (Ab _)) _,AF.new _ _ _,Ab _,h.env.size,a⟩
theorem Mj.ne (h:Mj B ea g gp bm vd wp s st w0 w R T cs):R≠g:=h.row.cZ h.rd.row h.t.2.2.2
theorem Mj.call (h:Mj B ea g gp bm vd wp s st w0 w R T cs) {w':World}{st':PS}{a c:Value}(d:Kg g w w') (e:DR B ea w' g gp bm a c s st'):Mj B ea g gp bm a c s st' w0 w' R T cs:=
 ⟨e,Kg.trans h.kg d,(In d h.row.lt h.ne).trans h.row,h.new,h.b,h.t⟩
theorem Mj.bM (h:Mj B ea g gp bm vd wp s st w0 w R T cs) (a:T≠220) (i:Nat) (u:Value):Mj B ea g gp bm vd wp s st w0 (w.setCell ⟨R,i,none⟩ u) R T (cs.set i u):=
 ⟨h.rd.bM h.b h.row ⟨h.t.1,h.t.2.1,a,h.t.2.2.1⟩ h.t.2.2.2 i u,h.kg.setCell (p:=⟨R,i,none⟩) (.inr h.new) u,h.row.bM i u,h.new,h.b,h.t⟩
end
end Go.Proofs.YtodkkholbjeioaaGreatDoor.Ev
