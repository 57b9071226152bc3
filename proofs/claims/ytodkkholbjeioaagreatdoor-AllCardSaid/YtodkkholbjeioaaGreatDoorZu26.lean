/- Lemmas for a law's walk. Conditions: none. -/
import Derived.Test.YtodkkholbjeioaaGreatDoorZu24
set_option linter.all false
set_option maxRecDepth 100000
set_option maxHeartbeats 8000000
namespace Go.Proofs.YtodkkholbjeioaaGreatDoor.Ev
open _root_.Go.Proofs.Tryz
theorem Fw (l:List Bi):∀(a b:Az),AV l (a.app b)=AV l a++AV l b
 | .nil,b=>by simp[Az.app,AV]
 | .bN p r,b=>by simp[Az.app,AV,Fw l r b]
 | .ite c t o e r,b=>by simp[Az.app,AV,Fw l r b]
 | .rep n c x r,b=>by simp[Az.app,AV,Fw l r b]
section
variable {l:List Bi}
theorem DB (h:Kl l) (k:Int):(Bv l k).length<=8:=by
 unfold Bv Aq;cases a:l[k.toNat]? with
 |none=>simp
 |some d=>exact(h.each d (Aw a)).name.2.1
theorem I5 (h:Kl l) {v:Ra}(a:Wx l v):(Ei l v).length<=12:=by
 cases v with
 |num n=>have:=(FP a.1 a.2).2.1;simp only[Ei];omega
 |var k=>have:=DB h k;simp only[Ei];omega
 |len k=>have:=DB h k;simp[Ei,Cd];omega
 |bI=>simp[Ei]
theorem Hz (h:Kl l) {c:C5}(d:Z3 l c.k):(DH l c).length<=40:=by
 have f:(if c.bP%2=1 then Lg++Cd else []).length<=4:=by split<;>simp[Cd]
 have g:(Jp l c.k).length<=36:=by
  cases e:c.k with
  |full k=>have:=DB h k;simp[Jp,Cd];omega
  |empty k=>have:=DB h k;simp[Jp,Cd];omega
  |fC k=>have:=DB h k;simp[Jp,Cd];omega
  |less a b=>
   rw[e]at d;have:=I5 h d.1;have:=I5 h d.2;simp[Jp];omega
 unfold DH;rw[Ao];omega
theorem YV (h:Kl l) (p:D4):(CB l p).length<=40:=by
 have a:∀t,(Jo t).length<=5:=by intro t;cases t<;>simp[Jo,Cd]
 cases p with
 |put q t=>have:=DB h q;have:=a t;simp[CB,Cd];omega
 |cu q=>have:=DB h q;simp[CB,Cd];omega
 |dV q=>have:=DB h q;simp[CB,Cd];omega
 |shift q p t=>have:=DB h q;have:=DB h p;have:=a t;simp[CB,Cd];omega
 |inc q=>have:=DB h q;simp[CB,Cd];omega
 |dec q=>have:=DB h q;simp[CB,Cd];omega
 |drop=>simp[CB]
 |bump=>simp[CB]
theorem Ej (h:Kl l):∀(b:Az),Ed l b->(AV l b).length<=100*b.size
 | .nil,_=>by simp[AV]
 | .bN p r,a=>by
  have:=YV h p;have:=Ej h r a.2;simp[AV,Cd,Az.size];omega
 | .ite c t o e r,a=>by
  have:=Hz h a.1;have:=Ej h t a.2.1;have:=Ej h e a.2.2.1;have:=Ej h r a.2.2.2;cases o<;>simp[AV,Cd,Az.size]<;>omega
 | .rep n c b r,a=>by have:=Hz h a.1;have:=Ej h b a.2.1;have:=Ej h r a.2.2.1;have:=(FP (n:=n) (by have:=a.2.2.2;omega) (by have:=a.2.2.2;omega)).2.1;simp[AV,Cd,Az.size];omega
theorem Eo (h:Kl l) {b:Az}(a:Ed l b):(BV l b).length<=100*b.size+3:=by have:=Ej h b a;simp[BV,Cd];omega
end
end Go.Proofs.YtodkkholbjeioaaGreatDoor.Ev
namespace Go.Proofs.YtodkkholbjeioaaGreatDoor.Ev
open _root_.Go.Proofs.Tryz
open Go Go.RowKit
def Dt (w:World) (s:Ah) (e:Ending) (w':World):Prop:=e= .returned (vs s)/\Ac (λb=>w.heap.size<=b) w w'
theorem Ac.qX (w:World) (k:Nat) (a:Array Obj) {S:Nat->Prop}(c:∀b,w.heap.size<=b->S b):Ac S w (Sort.grow (w.drewN k) a):=
 ⟨rfl,rfl,rfl,by simp[Sort.grow],λi d=>by
  rcases Be i w.heap.size with h|h
  ·show(w.heap++a)[i]?=_;exact Array.getElem?_append_left h
  ·exact absurd (c i h) d⟩
def Na (w:World):Prop:=Lib.TabIs prog w "internal/strconv.uint64pow10" .u64 Lib.pow10Tab
theorem Na.kept {S:Nat->Prop}{w w':World}(h:Na w) (a:Ac S w w') (c:∀b,S b->¬b=15):Na w':=by
 unfold Na Lib.TabIs World.var? at*;have d:prog.globalNamed "internal/strconv.uint64pow10" =some 15:=by kernel_rfl
 have e:=a.block 15 (λg=>c _ g rfl);rw[d]at h ⊢;simp only[TK]at h ⊢;rw[e];exact h
theorem Xs:∀(n:Nat),Lib.decDigits n=EU n:=by
 intro n
 induction n using Nat.strongRecOn with
 |_ n a=>
  rw[Lib.decDigits,EU];by_cases h:n<10
  ·rw[dif_pos h,Al h]
  ·rw[dif_neg h,Ai h,a (n/10) (by omega)]
theorem Lu {n:Int}(a:0<=n):Lib.decDigits n.toNat=Ck n:=Xs n.toNat
theorem bC {n:Int}(a:0<=n):Lib.itoa n=Ck n:=by unfold Lib.itoa;rw[Ai (by omega)];exact Lu a
theorem Na.lt {w:World}(h:Na w):15<w.heap.size:=by
 unfold Na Lib.TabIs World.var? at h;have b:prog.globalNamed "internal/strconv.uint64pow10" =some 15:=by kernel_rfl
 rw[b]at h;simp only[TK]at h;rcases Be 15 w.heap.size with a|a
 ·exact a
 ·rw[Cj a]at h;cases h
structure ZY (w:World) (gp:Nat) (vd vm:Value) (f:Int) (l:List Bi):Prop where
 bQ:AF w gp 106 [vd,.int .i64 f,vm]
 decls:Sl (λ_=>True) w 102 3 vd l.length (l.flatMap Dx)
 dw:Kl l
 qy:Na w
section
variable {w w':World}{gp:Nat}{vd vm:Value}{f:Int}{l:List Bi}
theorem ZY.later (h:ZY w gp vd vm f l) (a:Ac (λb=>w.heap.size<=b) w w'):ZY w' gp vd vm f l:=
 ⟨h.bQ.kept a (λe=>by have:=h.bQ.lt;omega),h.decls.kept a (λb c e=>by have:=h.decls.lt c;omega),h.dw,h.qy.kept a (λb c e=>by subst e;have:=h.qy.lt;omega)⟩
theorem ZY.at_ (h:ZY w gp vd vm f l) {k:Int}(c:Ix l.length k):∃(n a b:Nat),k=(n:Int)/\n<l.length/\vd= .slice (some ⟨a,0,none⟩) l.length b/\l.length<=b/\b<=9223372036854775807/\a<w.heap.size/\gp<w.heap.size/\
  w.cell? ⟨gp,0,none⟩=some (.slice (some ⟨a,0,none⟩) l.length b)/\w.cell? ⟨a,n*3+1,none⟩=some (vs (Bv l k))/\(Bv l k).length<=8:=by
 obtain⟨n,rfl⟩:∃n:Nat,k=(n:Int):=⟨k.toNat,by have:=c.1;omega⟩;have d:n<l.length:=by have:=c.2;omega
 obtain⟨a,b,rfl,_,g,e,i⟩:=h.decls.form (by omega);have m:l[n]?=some (Aq l (n:Int)):=by unfold Aq;rw[As,Ae d];rfl
 unfold maxLen at e;exact⟨n,a,b,rfl,d,rfl,g,e,i,h.bQ.lt,h.bQ.cell 0,h.decls.at_ (λ_=>rfl) m (j:=1) (by omega),DB h.dw _⟩
theorem B8 {P:Program}{a b:ByteArray}(h:a.size+b.size<=1000000000):∀W:World,(Op.stringOp .add a b).run P W= .ok (.string (a++b)) W:=λW=>run_string_add_sum W _ _ (by omega)
theorem BK (a b:Ah):(⟨a.toArray⟩:ByteArray)++⟨b.toArray⟩=⟨(a++b).toArray⟩:=by apply ByteArray.ext;simp[ByteArray.data_append]
theorem oR (h:ZY w gp vd vm f l) (v:Ra) (c:Wx l v):Calls prog 142 #[.pointer (some ⟨gp,0,none⟩),.agg (DE v).toArray] w (Dt w (Ei l v)):=by
 have d:=λcs=>(Ac.refl (λb=>w.heap.size<=b) w).alloc (Ab _) (.cells cs 216);have g:=Aa d;cases v with
 |num n=>
  have hit:=Tryz.strconv_Itoa n (by have:=c.1;omega) (by have:=c.2;omega);rw[bC c.1]at hit;obtain⟨j,H⟩:=zq2 hit h;clear hit h d;show Calls _ _ _ _ (Dt w (Ck n));unfold DE Fk C6 vs;go_enter hY,ZT;go_wp2_with fail;refine(j.out _ (H.out.later (g.out _)).qy).mono ?_;rintro e w1 ⟨rfl,k,m,rfl⟩;go_wp2;go_ret;exact⟨rfl,(g.out _).trans (Ac.qX _ k m (λb o=>by simp at o;omega))⟩
 |len k=>
  obtain⟨n,i,p,rfl,q,rfl,r,s,t,u,x,y,z⟩:=h.at_ c.1;have e1:¬gp=w.heap.size:=by omega
  have A:¬i=w.heap.size:=by omega
  show Calls _ _ _ _ (Dt w (JU++Cd++Bv l (n:Int)));generalize Bv l (n:Int)=nm at*;have B:=B8 (P:=prog) (a:=⟨#[108,101,110,32]⟩) (b:=⟨nm.toArray⟩) (by simp only[Ay,Af,Ak];omega);clear h d c;unfold DE Fk C6 vs at*;go_enter hY,ZT;go_wp2;go_region;go_wp2;go_ret;exact⟨by rw[BK];rfl,(g.out _).drew⟩
 |var k=>
  obtain⟨n,i,p,rfl,q,rfl,r,s,t,u,x,y,z⟩:=h.at_ c.1;have e1:¬gp=w.heap.size:=by omega
  have A:¬i=w.heap.size:=by omega
  show Calls _ _ _ _ (Dt w (Bv l (n:Int)));generalize Bv l (n:Int)=nm at*;clear h d c;unfold DE Fk C6 vs at*;go_enter hY,ZT;go_wp2;go_region;go_wp2;go_ret;exact⟨rfl,(g.out _).drew⟩
 |bI=>
  clear h d c;show Calls _ _ _ _ (Dt w Cy);unfold DE Fk C6 vs at*;go_enter hY,ZT;go_wp2;go_ret;exact⟨rfl,g.out _⟩
theorem QV (c:C5):∃d n1 e n3,Bu c=[vs (Cl c.k),.int .i64 (Bt c.k),vs d,.int .i64 n1,vs e,.int .i64 n3,.bool (Dp c.bP)]/\M5 c.k=[vs d,.int .i64 n1,vs e,.int .i64 n3]:=by
 obtain⟨d,n1,e,n3,g⟩:∃d n1 e n3,M5 c.k=[vs d,.int .i64 n1,vs e,.int .i64 n3]:=by
  cases c.k with
  |less a b=>exact⟨_,_,_,_,rfl⟩
  |_=>exact⟨_,_,_,_,rfl⟩
 exact⟨d,n1,e,n3,by unfold Bu;rw[g];rfl,g⟩
theorem YQ {u v:Ah}(h:vs u=vs v):u=v:=by unfold vs at h;injection h with h;have a:=AH (λb:ByteArray=>b.data.toList) h;simpa using a
def Xr (b:Ah) (n:Int):Ra:=if b=Bw then .num n else if b=JU then .len n else if b=Cy then .bI else .var n
theorem cW {v:Ra}{b:Ah}{n:Int}(a:Fk v=b) (c:C6 v=n):Xr b n=v:=by subst a c;cases v<;>rfl
def Oz (c:C5):Ah:=if c.bP%2=1 then Lg++Cd else []
theorem km (h:ZY w gp vd vm f l) (c:C5) (i:Z3 l c.k):Calls prog 125 #[.pointer (some ⟨gp,0,none⟩),.agg (Bu c).toArray] w (Dt w (DH l c)):=by
 have V:=λcs=>(Ac.refl (λb=>w.heap.size<=b) w).alloc (Ab _) (.cells cs 218);have T:=Aa V;have L:DH l c=Oz c++Jp l c.k:=rfl;have s:Oz c=if Dp c.bP then Lg++Cd else []:=by unfold Oz Dp;by_cases hn:c.bP%2=1<;>simp[hn]
 have bR:(Oz c).length<=4:=by rw[s];split<;>simp[Cd]
 obtain⟨p,n1,q,n3,U,E⟩:=QV c;rw[U,L];clear U L;have d:∀(k:Int) (r:Ah),Cl c.k=r->(r=Fb\/r=DN\/r=Fa)->Bt c.k=k->Ix l.length k->Jp l c.k=r++Cd++Bv l k->
   Calls prog 125 #[.pointer (some ⟨gp,0,none⟩),.agg #[vs (Cl c.k),.int .i64 (Bt c.k),vs p,.int .i64 n1,vs q,.int .i64 n3,.bool (Dp c.bP)]] w (Dt w (Oz c++Jp l c.k)):=by
  intro k r e1 F e2 M e3;rw[e1,e2,e3];obtain⟨n,gd,cd,rfl,hn,rfl,q1,q2,q3,q4,d0,d1,hl⟩:=h.at_ M;have f1:¬gp=w.heap.size:=by omega
  have f2:¬gd=w.heap.size:=by omega
  generalize Bv l (n:Int)=nm at*;generalize Oz c=j at*;generalize Dp c.bP=K at*;have bT:r.length<=5:=by rcases F with rfl|rfl|rfl<;>simp
  have N:(((⟨j.toArray⟩:ByteArray)++⟨r.toArray⟩)++⟨#[32]⟩)++⟨nm.toArray⟩=⟨(j++(r++Cd++nm)).toArray⟩:=by rw[BK,BK,BK];simp[Cd]
  have s1:=B8 (P:=prog) (a:=⟨j.toArray⟩) (b:=⟨r.toArray⟩) (by simp only[Ay];omega);have s2:=B8 (P:=prog) (a:=⟨j.toArray⟩++⟨r.toArray⟩) (b:=⟨#[32]⟩) (by simp only[Ag,Ay,Af,Ak];omega);have s3:=B8 (P:=prog) (a:=⟨j.toArray⟩++⟨r.toArray⟩++⟨#[32]⟩) (b:=⟨nm.toArray⟩) (by simp only[Ag,Ay,Af,Ak];omega);have O:=Aa N;clear N V h E e1 e2 e3 i M;unfold vs at*;cases K with
  |false=>
   obtain rfl:j=[]:=s;rcases F with rfl|rfl|rfl
   all_goals
    go_enter ig,ZX;go_wp2;go_region;go_wp2;go_ret;exact⟨AH (λx=>Ending.returned (.string x)) O.out,(T.out _).drew⟩
  |true=>
   obtain rfl:j=[110,111,116,32]:=s;rcases F with rfl|rfl|rfl
   all_goals
    go_enter ig,ZX;go_wp2;go_region;go_wp2;go_ret;exact⟨AH (λx=>Ending.returned (.string x)) O.out,(T.out _).drew⟩
 cases t:c.k with
 |full k=>rw[t]at d i;exact d k Fb rfl (.inl rfl) rfl i.1 rfl
 |empty k=>rw[t]at d i;exact d k DN rfl (.inr (.inl rfl)) rfl i.1 rfl
 |fC k=>rw[t]at d i;exact d k Fa rfl (.inr (.inr rfl)) rfl i.1 rfl
 |less a b=>
  rw[t]at i E;have g:vs (Fk a)=vs p/\Value.int .i64 (C6 a)= .int .i64 n1/\vs (Fk b)=vs q/\Value.int .i64 (C6 b)= .int .i64 n3:=by unfold M5 DE at E;simpa only[Bz,CT,IZ,and_true]using E
  have A:Xr p n1=a:=cW (YQ g.1) (by have:=g.2.1;injection this);have B:Xr q n3=b:=cW (YQ g.2.2.1) (by have:=g.2.2.2;injection this);have la:=I5 h.dw i.1;have lb:=I5 h.dw i.2;rw[←A]at la;rw[←B]at lb;have Q:∀W (_:Ac (λb=>w.heap.size<=b) w W) (cs:List Value) (_:AF W w.heap.size 218 cs) (o:Ah) (m:Int),(o=p/\m=n1)\/(o=q/\m=n3)->
    Calls prog 142 #[.pointer (some ⟨gp,0,none⟩),.agg #[vs o,.int .i64 m]] W (λy w'=>y= .returned (vs (Ei l (Xr o m)))/\Ac (λb=>w.heap.size<=b) w w'/\AF w' w.heap.size 218 cs):=by
   intro W X cs hr o m Y;have u:∀v,Wx l v->DE v=[vs o,.int .i64 m]->Xr o m=v->Calls prog 142 #[.pointer (some ⟨gp,0,none⟩),.agg #[vs o,.int .i64 m]] W (λy w'=>y= .returned (vs (Ei l (Xr o m)))/\Ac (λb=>w.heap.size<=b) w w'/\AF w' w.heap.size 218 cs):=by intro v E U hd;have i:=oR (h.later X) v E;rw[U]at i;refine i.mono ?_;rintro y w' ⟨h1,h2⟩;rw[hd];exact⟨h1,X.trans (h2.mono (λb hb=>Ad X.size hb)),hr.kept h2 (λe=>by have:=hr.lt;omega)⟩
   rcases Y with⟨rfl,rfl⟩|⟨rfl,rfl⟩
   ·exact u a i.1 (by show [vs (Fk a),.int .i64 (C6 a)]=_;rw[g.1,g.2.1]) A
   ·exact u b i.2 (by show [vs (Fk b),.int .i64 (C6 b)]=_;rw[g.2.2.1,g.2.2.2]) B
  have R:Oz c++Jp l (.less a b)=Oz c++(Ei l (Xr p n1)++[32,60,32]++Ei l (Xr q n3)):=by rw[A,B];rfl
  rw[R];show Calls _ _ #[.pointer (some ⟨gp,0,none⟩),.agg #[vs I9,.int .i64 0,vs p,.int .i64 n1,vs q,.int .i64 n3,.bool (Dp c.bP)]] w _;generalize Oz c=j at*;generalize Dp c.bP=K at*;clear R g A B i E d h;generalize S:(λo m=>Ei l (Xr o m))=C at*;have e1:∀o m,Ei l (Xr o m)=C o m:=λo m=>by rw[←S]
  simp only[e1]at*;clear e1 S t;have N:(((⟨j.toArray⟩:ByteArray)++⟨(C p n1).toArray⟩)++⟨#[32,60,32]⟩)++⟨(C q n3).toArray⟩=⟨(j++(C p n1++[32,60,32]++C q n3)).toArray⟩:=by rw[BK,BK,BK];simp
  have s1:=B8 (P:=prog) (a:=⟨j.toArray⟩) (b:=⟨(C p n1).toArray⟩) (by simp only[Ay];omega);have s2:=B8 (P:=prog) (a:=⟨j.toArray⟩++⟨(C p n1).toArray⟩) (b:=⟨#[32,60,32]⟩) (by simp only[Ag,Ay,Af,Ak];omega);have s3:=B8 (P:=prog) (a:=⟨j.toArray⟩++⟨(C p n1).toArray⟩++⟨#[32,60,32]⟩) (b:=⟨(C q n3).toArray⟩) (by simp only[Ag,Ay,Af,Ak];omega);obtain⟨O,D⟩:=zq2 N Q;have r0:AF (w.alloc (.cells #[vs I9,.int .i64 0,vs p,.int .i64 n1,vs q,.int .i64 n3,.bool K] 218)).drew w.heap.size 218 [vs I9,.int .i64 0,vs p,.int .i64 n1,vs q,.int .i64 n3,.bool K]:=(AF.new w 218 _).drew;obtain⟨R0,KD⟩:=zq2 r0 ((T.out #[vs I9,.int .i64 0,vs p,.int .i64 n1,vs q,.int .i64 n3,.bool K]).drew);clear N Q V r0 T;unfold vs at*;cases K with
  |false=>
   obtain rfl:j=[]:=s;go_enter ig,ZX;go_wp2_with fail
   go_region_law (first
    |(go_simp;go_at_call 142;refine(D.out _ Z _ z _ _ ?_).mono ?_;(first|exact .inl ⟨rfl,rfl⟩|exact .inr ⟨rfl,rfl⟩);rintro y w3 ⟨rfl,kb,rb⟩)
    |(go_simp;go_at_call 142;refine(D.out _ KD.out _ R0.out _ _ ?_).mono ?_;(first|exact .inl ⟨rfl,rfl⟩|exact .inr ⟨rfl,rfl⟩);rintro y w2 ⟨rfl,Z,z⟩;have G:=z.cell 2;have H:=z.cell 3;have I:=z.cell 4;have J:=z.cell 5;simp at G H I J))
   all_goals go_wp2
   all_goals go_ret
   all_goals exact⟨AH (λx=>Ending.returned (.string x)) O.out,kb⟩
  |true=>
   obtain rfl:j=[110,111,116,32]:=s;go_enter ig,ZX;go_wp2_with fail
   go_region_law (first
    |(go_simp;go_at_call 142;refine(D.out _ Z _ z _ _ ?_).mono ?_;(first|exact .inl ⟨rfl,rfl⟩|exact .inr ⟨rfl,rfl⟩);rintro y w3 ⟨rfl,kb,rb⟩)
    |(go_simp;go_at_call 142;refine(D.out _ KD.out _ R0.out _ _ ?_).mono ?_;(first|exact .inl ⟨rfl,rfl⟩|exact .inr ⟨rfl,rfl⟩);rintro y w2 ⟨rfl,Z,z⟩;have G:=z.cell 2;have H:=z.cell 3;have I:=z.cell 4;have J:=z.cell 5;simp at G H I J))
   all_goals go_wp2
   all_goals go_ret
   all_goals exact⟨AH (λx=>Ending.returned (.string x)) O.out,kb⟩
end
def Mv:Nat->Prop:=λ_=>True
def xC (m:Nat):Prop:=∀(w:World) (gp:Nat) (a c:Value) (f:Int) (l:List Bi) (x:Az) (cs:List Value) (s:Ah),ZY w gp a c f l->x.length=1->x.size<=m->x.size<=1000->Ed l x->A5 Mv w x cs->AV l x=Cd++s->
  Calls prog 92 #[.pointer (some ⟨gp,0,none⟩),.agg cs.toArray] w (Dt w s)
def m8 (m:Nat):Prop:=∀(w:World) (gp:Nat) (a c:Value) (f:Int) (l:List Bi) (b:Az) (v:Value),ZY w gp a c f l->b.size<=m->b.size<=1000->Ed l b->DG Mv w v b->
  Calls prog 59 #[.pointer (some ⟨gp,0,none⟩),v] w (Dt w (BV l b))
theorem TY {N:Nat->Prop}{w w':World}(a:Ac (λb=>w.heap.size<=b) w w') {b:Az}{cs:List Value}(h:A5 N w b cs):A5 N w' b cs:=
 A5.kept (λk _ _ c=>a.block k (λd=>by have:=c.lt;omega)) b cs h
theorem YD {N:Nat->Prop}{w w':World}(a:Ac (λb=>w.heap.size<=b) w w') {b:Az}{v:Value}(h:DG N w v b):DG N w' v b:=by obtain⟨cs,c,d⟩:=h;exact⟨cs,c.kept (λk _ _ e=>a.block k (λf=>by have:=e.lt;omega)),TY a d⟩
theorem aD (l:List Bi):∀(x:Az),x.length=1->∃s,AV l x=Cd++s
 | .nil,h=>by cases h
 | .bN p r,_=>⟨_,by rw[AV,AL]⟩
 | .ite c t o e r,_=>⟨_,by rw[AV,AL]⟩
 | .rep n c b r,_=>⟨_,by rw[AV,AL]⟩
structure Wz (w0:World) (b:Az) (cs:List Value) (k:Nat) (wr:World) (done rest:Az) (be bI:List Value):Prop where
 eq:b=done.app rest
 cs:cs=be++bI
 mz:be.length=k*13
 k:k+rest.length=b.length
 sz:done.size+rest.size=b.size
 nz:A5 Mv w0 rest bI
 kept:Ac (λb=>w0.heap.size<=b) w0 wr
section
variable {w0 wr:World}{k:Nat}{b done rest:Az}{cs be bI:List Value}
theorem Wz.next {g d:Nat}(h:Wz w0 b cs k wr done rest be bI) (e:Sl Mv w0 220 13 (.slice (some ⟨g,0,none⟩) b.length d) b.length cs) (z:k<b.length):
  ∃x tl a c,rest=x.app tl/\x.length=1/\bI=a++c/\StF a/\A5 Mv w0 x a/\A5 Mv w0 tl c/\rest.length=tl.length+1/\x.size+tl.size=rest.size/\
   (∀j,j<13->wr.cell? ⟨g,k*13+j,none⟩=a[j]?)/\g<wr.heap.size:=by
 have f:rest≠.nil:=by rintro rfl;have:=h.k;simp[Az.length]at this;omega
 obtain⟨x,tl,a,c,e1,n,i,l,o,q,r,s⟩:=A5.part rest bI f h.nz;have m:a.length=13:=by obtain⟨_,_,_,_,_,_,_,_,_,_,_,_,_,_,_,_,_,rfl⟩:=l;rfl
 refine⟨x,tl,a,c,e1,n,i,l,o,q,r,s,λj A=>?_,An (e.lt rfl) h.kept.size⟩;have t:k*13+j<b.length*13:=by omega
 have u:=e.1.cellAt _ t;have v:cs[k*13+j]?=a[j]?:=by rw[h.cs,i,BG (by rw[h.mz];omega),h.mz,B7,AX (by omega)]
 have w:=e.lt (g:=g) rfl;exact((h.kept.cell (p:=⟨g,k*13+j,none⟩) (λy=>by simp only at y;omega)).trans u).trans v
theorem Wz.step {x tl:Az}{a c:List Value}{w':World}(h:Wz w0 b cs k wr done rest be bI) (e1:rest=x.app tl) (d:bI=a++c) (e:a.length=13) (f:A5 Mv w0 tl c)
  (j:rest.length=tl.length+1) (l:x.size+tl.size=rest.size) (g:Ac (λb=>wr.heap.size<=b) wr w'):Wz w0 b cs (k+1) w' (done.app x) tl (be++a) c:=
 ⟨by rw[h.eq,e1,If],by rw[h.cs,d,AL],by rw[Ao,h.mz,e];omega,by have:=h.k;omega,by rw[JN];have:=h.sz;omega,f,h.kept.trans (g.mono (λb i=>Ad h.kept.size i))⟩
end
theorem Vt {m:Nat}(J:xC m):m8 m:=by
 intro w gp vd vm f l b v h K q X L;obtain⟨cs,⟨hs,g,dQ,rfl⟩,B⟩:=L;have M:Wz w b cs 0 w .nil b [] cs:=⟨by simp[Az.app],by simp,by simp,by omega,by simp[Az.size],B,Ac.refl _ _⟩;have dR:b.length<=1000:=by
  have:∀b:Az,b.length<=b.size:=by
   intro b
   induction b with
   |nil=>simp[Az.length]
   |bN p r ih=>simp[Az.length,Az.size];omega
   |ite c t o e r _ _ ih=>simp[Az.length,Az.size];omega
   |rep n c b r _ ih=>simp[Az.length,Az.size];omega
  have:=this b;omega
 have N:∀d r:Az,b=d.app r->(Cx++AV l d).length<=200000:=by intro d r e;rw[e,Ow]at X;rw[e,JN]at q;have:=Ej h.dw d X.1;simp only[Ao,Af,Ak];omega
 obtain⟨Z,H,bJ,bK,bL,O,HW,Q⟩:=zq8 J h hs M K q X N;clear J h hs M B K q X N;go_enter func59,ntmps59;go_wp2_with fail
 go_loopg [10,5] b.length (λbM bO s5 wr=>∃k done rest be bI,k<=b.length/\b.length-k<=bM/\bO= .int .i64 (k:Nat)/\s5= .string ⟨(Cx++AV l done).toArray⟩/\Wz w b cs k wr done rest be bI)
 case atStart=>exact⟨0,.nil,b,[],cs,AM _,by omega,rfl,rfl,bK.out⟩
 case round=>
  obtain⟨k,done,rest,be,bI,dV,hg,rfl,rfl,y⟩:=hrel;have R:=Q.out done rest y.eq;by_cases bP:k<b.length
  ·obtain⟨x,tl,bQ,dW,e1,e2,e3,e4,e5,e6,e7,e8,j,dX⟩:=y.next bJ.out bP;have C:bQ.length=13:=by obtain⟨_,_,_,_,_,_,_,_,_,_,_,_,_,_,_,_,_,rfl⟩:=id e4;rfl
   have z:=Q.out (done.app x) tl (by rw[y.eq,e1,If]);rw[Fw]at z;obtain⟨I,A⟩:=aD l x e2;rw[A]at z;have E:=HW.out;rw[y.eq,e1,Ow,Ow]at E;have s:=Aa (And.intro e1 (And.intro e2 (And.intro e3 (And.intro C (And.intro e5 (And.intro e6 (And.intro e7 (And.intro e8 E.2.1))))))));obtain⟨k_,n_,m_,t_,bS,bT,bU,bV,bW,bX,o_,bY,bZ,ci,cj,cu,cw,rfl⟩:=e4;have x0:=j 0 (by omega);have x1:=j 1 (by omega);have x2:=j 2 (by omega);have x3:=j 3 (by omega);have x4:=j 4 (by omega);have x5:=j 5 (by omega);have x6:=j 6 (by omega);have x7:=j 7 (by omega);have x8:=j 8 (by omega);have x9:=j 9 (by omega);have cy:=j 10 (by omega);have cz:=j 11 (by omega);have cB:=j 12 (by omega);obtain⟨T,cZ⟩:=zq2 y A;have U:Cx++AV l (done.app x)=(Cx++AV l done)++(Cd++I):=by rw[Fw,A,AL]
   simp only[Ao,Af,Ak]at z;generalize hS:Cx++AV l done=S at*;have da:I.length<=200000:=by omega
   have s1:=B8 (P:=prog) (a:=⟨#[32]⟩) (b:=⟨I.toArray⟩) (by simp only[Ay,Af,Ak];omega);have s2:=B8 (P:=prog) (a:=⟨S.toArray⟩) (b:=⟨#[32]⟩++⟨I.toArray⟩) (by simp only[Ag,Ay,Af,Ak];omega);have i:(⟨S.toArray⟩:ByteArray)++(⟨#[32]⟩++⟨I.toArray⟩)=⟨(Cx++AV l (done.app x)).toArray⟩:=by rw[U,BK,BK];rfl
   have V:=Aa i;clear y j e1 e2 e3 e5 e6 e7 e8 C A U i hS E z da R;unfold vs at*;simp only[BM,AJ,Mx]at x0 x1 x2 x3 x4 x5 x6 x7 x8 x9 cy cz cB;go_wp2_with fail;have Y:Ac (λb=>wr.heap.size<=b) wr (wr.alloc (.cells #[.string ⟨k_.toArray⟩,.int .i64 n_,.int .i64 m_,.bool t_,.string ⟨bS.toArray⟩,.int .i64 bT,.string ⟨bU.toArray⟩,.int .i64 bV,.string ⟨bW.toArray⟩,.int .i64 bX,.bool o_,.slice bY bZ ci,.slice cj cu cw] 220)):=(Ac.refl _ wr).alloc (Ab _) _;have G:Ac (λb=>w.heap.size<=b) w _:=T.out.kept.trans (Y.mono (λb L=>Ad T.out.kept.size L));refine(Z.out _ gp vd vm f l x _ I (H.out.later G) s.out.2.1 (by have:=T.out.sz;have:=s.out.2.2.2.2.2.2.2.1;have:=bL.out;omega) (by have:=T.out.sz;have:=s.out.2.2.2.2.2.2.2.1;have:=O.out;omega) s.out.2.2.2.2.2.2.2.2 (TY G s.out.2.2.2.2.1) cZ.out).mono ?_;rintro e w2 ⟨rfl,W⟩;have F:=Aa (T.out.step s.out.1 s.out.2.2.1 s.out.2.2.2.1 s.out.2.2.2.2.2.1 s.out.2.2.2.2.2.2.1 s.out.2.2.2.2.2.2.2.1 (Y.trans (W.mono (λb L=>Ad Y.size L))));clear Y G W;go_wp2;go_roundg (b.length-(k+1))
   case measure=>omega
   case rel=>exact⟨k+1,_,_,_,_,by omega,by omega,by go_num,AH Value.string V.out,F.out⟩
  ·have D:rest= .nil:=by
    have:=y.k;cases rest with
    |nil=>rfl
    |bN p r=>simp[Az.length]at this;omega
    |ite c t o e r=>simp[Az.length]at this;omega
    |rep n c b r=>simp[Az.length]at this;omega
   have u:b=done:=by rw[y.eq,D];exact Oi done
   have i:BV l b=(Cx++AV l done)++[32,125]:=by rw[u];simp[BV,Cd]
   have F:=Aa y.kept;generalize Cx++AV l done=S at*;have dd:=Aa i;have s1:=B8 (P:=prog) (a:=⟨S.toArray⟩) (b:=⟨#[32,125]⟩) (by simp only[Ay,Af,Ak];omega);clear y D u i;go_wp2;go_ret;exact⟨by rw[dd.out];exact AH (λx=>Ending.returned (.string x)) (BK _ _),F.out⟩
def De (t:Bool):Ah:=if t then [32,116,97,105,108]else []
theorem RG (t:Bool):Jo t=De t:=by cases t<;>rfl
section
variable {w:World}{gp:Nat}{vd vm:Value}{f:Int}{l:List Bi}
theorem RI (h:ZY w gp vd vm f l) (c:Ah) (d:c=KP\/c=Et\/c=Io\/c=Mo\/c=Mq) {k:Int}(o:Ix l.length k) (tl:Bool):
  Calls prog 92 #[.pointer (some ⟨gp,0,none⟩),.agg ([vs c,.int .i64 k,.int .i64 0,.bool tl]++MT++[A6,A6]).toArray] w (Dt w (c++Cd++Bv l k++De tl++AP)):=by
 have p:=λcs=>(Ac.refl (λb=>w.heap.size<=b) w).alloc (Ab _) (.cells cs 220);have q:=Aa p;obtain⟨n,s,t,rfl,u,rfl,v,y,z,A,B,C,D⟩:=h.at_ o;have E:¬gp=w.heap.size:=by omega
 have F:¬s=w.heap.size:=by omega
 generalize Bv l (n:Int)=nm at*;have j:c.length<=5:=by rcases d with rfl|rfl|rfl|rfl|rfl<;>simp
 have m:(De tl).length<=5:=by cases tl<;>simp[De]
 have G:=B8 (P:=prog) (a:=⟨c.toArray⟩) (b:=⟨#[32]⟩) (by simp only[Ay,Af,Ak];omega);have H:=B8 (P:=prog) (a:=⟨c.toArray⟩++⟨#[32]⟩) (b:=⟨nm.toArray⟩) (by simp only[Ag,Ay,Af,Ak];omega);have e:=B8 (P:=prog) (a:=⟨c.toArray⟩++⟨#[32]⟩++⟨nm.toArray⟩) (b:=⟨(De tl).toArray⟩) (by simp only[Ag,Ay,Af,Ak];omega);have g:=B8 (P:=prog) (a:=⟨c.toArray⟩++⟨#[32]⟩++⟨nm.toArray⟩++⟨(De tl).toArray⟩) (b:=⟨#[59]⟩) (by simp only[Ag,Ay,Af,Ak];omega);have r:(⟨c.toArray⟩:ByteArray)++⟨#[32]⟩++⟨nm.toArray⟩++⟨(De tl).toArray⟩++⟨#[59]⟩=⟨(c++Cd++nm++De tl++AP).toArray⟩:=by rw[BK,BK,BK,BK];rfl
 have i:=Aa r;clear r p h o m j;unfold MT A6 vs at*;cases tl with
 |false=>
  unfold De at e g i;rw[Ai A0]at e g;rcases d with rfl|rfl|rfl|rfl|rfl
  all_goals
   go_enter LN,Ke;go_wp2;go_region;go_wp2;go_ret;exact⟨AH (λx=>Ending.returned (.string x)) i.out,(q.out _).drew⟩
 |true=>
  unfold De at e g i;rw[Al rfl]at e g;rcases d with rfl|rfl|rfl|rfl|rfl
  all_goals
   go_enter LN,Ke;go_wp2;go_region;go_wp2;go_ret;exact⟨AH (λx=>Ending.returned (.string x)) i.out,(q.out _).drew⟩
theorem aA (c:Ah) (d:c=Ja\/c=Jb):
  Calls prog 92 #[.pointer (some ⟨gp,0,none⟩),.agg ([vs c,.int .i64 0,.int .i64 0,.bool false]++MT++[A6,A6]).toArray] w (Dt w (c++AP)):=by
 have g:=λcs=>(Ac.refl (λb=>w.heap.size<=b) w).alloc (Ab _) (.cells cs 220);have i:=Aa g;have e:c.length<=5:=by rcases d with rfl|rfl<;>simp
 have k:=B8 (P:=prog) (a:=⟨c.toArray⟩) (b:=⟨#[59]⟩) (by simp only[Ay,Af,Ak];omega);have h:(⟨c.toArray⟩:ByteArray)++⟨#[59]⟩=⟨(c++AP).toArray⟩:=by rw[BK]
 have j:=Aa h;clear h g e;unfold MT A6 vs at*;rcases d with rfl|rfl
 all_goals
  go_enter LN,Ke;go_wp2;go_ret;exact⟨AH (λx=>Ending.returned (.string x)) j.out,i.out _⟩
theorem kj (h:ZY w gp vd vm f l) {k j:Int}(p:Ix l.length k) (q:Ix l.length j) (tl:Bool):
  Calls prog 92 #[.pointer (some ⟨gp,0,none⟩),.agg ([vs Dq,.int .i64 k,.int .i64 j,.bool tl]++MT++[A6,A6]).toArray] w (Dt w (Dq++Cd++Bv l k++Cd++Bv l j++De tl++AP)):=by
 have r:=λcs=>(Ac.refl (λb=>w.heap.size<=b) w).alloc (Ab _) (.cells cs 220);have s:=Aa r;obtain⟨n,u,D,rfl,E,m,F,G,H,I,J,K,L⟩:=h.at_ p;obtain⟨v,y,z,rfl,A,d,_,_,_,_,_,M,B⟩:=h.at_ q;subst m;injection d with e1 _ C;injection e1 with e1;injection e1 with e1;subst e1 C;have N:¬gp=w.heap.size:=by omega
 have O:¬u=w.heap.size:=by omega
 generalize Bv l (n:Int)=nm at*;generalize Bv l (v:Int)=c at*;have o:(De tl).length<=5:=by cases tl<;>simp[De]
 have Q:=B8 (P:=prog) (a:=⟨#[115,104,105,102,116,32]⟩) (b:=⟨nm.toArray⟩) (by simp only[Ay,Af,Ak];omega);have R:=B8 (P:=prog) (a:=⟨#[115,104,105,102,116,32]⟩++⟨nm.toArray⟩) (b:=⟨#[32]⟩) (by simp only[Ag,Ay,Af,Ak];omega);have S:=B8 (P:=prog) (a:=⟨#[115,104,105,102,116,32]⟩++⟨nm.toArray⟩++⟨#[32]⟩) (b:=⟨c.toArray⟩) (by simp only[Ag,Ay,Af,Ak];omega);have e:=B8 (P:=prog) (a:=⟨#[115,104,105,102,116,32]⟩++⟨nm.toArray⟩++⟨#[32]⟩++⟨c.toArray⟩) (b:=⟨(De tl).toArray⟩) (by simp only[Ag,Ay,Af,Ak];omega);have g:=B8 (P:=prog) (a:=⟨#[115,104,105,102,116,32]⟩++⟨nm.toArray⟩++⟨#[32]⟩++⟨c.toArray⟩++⟨(De tl).toArray⟩) (b:=⟨#[59]⟩) (by simp only[Ag,Ay,Af,Ak];omega);have t:(⟨#[115,104,105,102,116,32]⟩:ByteArray)++⟨nm.toArray⟩++⟨#[32]⟩++⟨c.toArray⟩++⟨(De tl).toArray⟩++⟨#[59]⟩=⟨(Dq++Cd++nm++Cd++c++De tl++AP).toArray⟩:=by rw[BK,BK,BK,BK,BK];simp[Cd]
 have i:=Aa t;clear t r h p q o;unfold MT A6 vs at*;cases tl with
 |false=>
  unfold De at e g i;rw[Ai A0]at e g;go_enter LN,Ke;go_wp2;go_region;go_wp2;go_ret;exact⟨AH (λx=>Ending.returned (.string x)) i.out,(s.out _).drew⟩
 |true=>
  unfold De at e g i;rw[Al rfl]at e g;go_enter LN,Ke;go_wp2;go_region;go_wp2;go_ret;exact⟨AH (λx=>Ending.returned (.string x)) i.out,(s.out _).drew⟩
end
section
variable {w:World}{gp:Nat}{vd vm:Value}{f:Int}{l:List Bi}{m:Nat}
theorem XW (h:ZY w gp vd vm f l) (c:C5) (i:Z3 l c.k) (cs:List Value):∀W,Ac (λb=>w.heap.size<=b) w W->AF W w.heap.size 220 cs->
  Calls prog 125 #[.pointer (some ⟨gp,0,none⟩),.agg (Bu c).toArray] W λy w'=>y= .returned (vs (DH l c))/\Ac (λb=>w.heap.size<=b) w w'/\AF w' w.heap.size 220 cs:=λW a d=>by
 refine(km (h.later a) c i).mono ?_;rintro y w' ⟨j,g⟩;exact⟨j,a.trans (g.mono (λb n=>Ad a.size n)),d.kept g (λe=>by have:=d.lt;omega)⟩
theorem Vu (j:m8 m) (h:ZY w gp vd vm f l) {b:Az}{v:Value}(k:b.size<=m) (c:b.size<=1000) (n:Ed l b) (d:DG Mv w v b) (cs:List Value):∀W,Ac (λb=>w.heap.size<=b) w W->AF W w.heap.size 220 cs->
  Calls prog 59 #[.pointer (some ⟨gp,0,none⟩),v] W λy w'=>y= .returned (vs (BV l b))/\Ac (λb=>w.heap.size<=b) w w'/\AF w' w.heap.size 220 cs:=λW a g=>by
 refine(j W gp vd vm f l b v (h.later a) k c n (YD a d)).mono ?_;rintro y w' ⟨o,i⟩;exact⟨o,a.trans (i.mono (λb d=>Ad a.size d)),g.kept i (λe=>by have:=g.lt;omega)⟩
theorem zW2 (hB:m8 m) (h:ZY w gp vd vm f l) {c:C5}(hc:Z3 l c.k) {t e:Az}{vt ve:Value}{o:Bool}(ht:DG Mv w vt t) (T:if o then DG Mv w ve e else ve=A6) (bR:t.size<=m) (bS:e.size<=m) (cz:t.size+e.size<=1000) (v:Ed l t) (z:Ed l e):
  Calls prog 92 #[.pointer (some ⟨gp,0,none⟩),.agg (L9 c vt ve).toArray] w (Dt w (Jk++Cd++DH l c++Cd++BV l t++(if o then Cd++Dn++Cd++BV l e else []))):=by
 have U:=λcs=>(Ac.refl (λb=>w.heap.size<=b) w).alloc (Ab _) (.cells cs 220);obtain⟨F,n1,G,n3,A,_⟩:=QV c;obtain⟨B,C,rfl⟩:∃g c,vt= .slice (some ⟨g,0,none⟩) t.length c:=by obtain⟨_,h1,_⟩:=ht;exact h1.2
 have lc:=Hz h.dw hc;have lt:=Eo h.dw v;have le:=Eo h.dw z;have q:L9 c (.slice (some ⟨B,0,none⟩) t.length C) ve=[vs Jk,.int .i64 0,.int .i64 0,.bool false,vs (Cl c.k),.int .i64 (Bt c.k),vs F,.int .i64 n1,vs G,.int .i64 n3,.bool (Dp c.bP),.slice (some ⟨B,0,none⟩) t.length C,ve]:=by unfold L9;rw[A];rfl
 have hC:=XW h c hc [vs Jk,.int .i64 0,.int .i64 0,.bool false,vs (Cl c.k),.int .i64 (Bt c.k),vs F,.int .i64 n1,vs G,.int .i64 n3,.bool (Dp c.bP),.slice (some ⟨B,0,none⟩) t.length C,ve];have hT:=Vu hB h bR (by omega) v ht [vs Jk,.int .i64 0,.int .i64 0,.bool false,vs (Cl c.k),.int .i64 (Bt c.k),vs F,.int .i64 n1,vs G,.int .i64 n3,.bool (Dp c.bP),.slice (some ⟨B,0,none⟩) t.length C,ve];rw[q];rw[A]at hC;generalize V:DH l c=u at*;generalize W:BV l t=H at*;have s1:=B8 (P:=prog) (a:=⟨#[105,102,32]⟩) (b:=⟨u.toArray⟩) (by simp only[Ay,Af,Ak];omega);have s2:=B8 (P:=prog) (a:=⟨#[105,102,32]⟩++⟨u.toArray⟩) (b:=⟨#[32]⟩) (by simp only[Ag,Ay,Af,Ak];omega);have s3:=B8 (P:=prog) (a:=⟨#[105,102,32]⟩++⟨u.toArray⟩++⟨#[32]⟩) (b:=⟨H.toArray⟩) (by simp only[Ag,Ay,Af,Ak];omega);have D:(⟨#[105,102,32]⟩:ByteArray)++⟨u.toArray⟩++⟨#[32]⟩++⟨H.toArray⟩=⟨(Jk++Cd++u++Cd++H).toArray⟩:=by rw[BK,BK,BK];simp[Cd]
 obtain⟨K0,HC,E,X⟩:=zq4 U hC hT D;cases o with
 |true=>
  rw[Al rfl]at T;obtain⟨ge,ce,rfl⟩:∃g c,ve= .slice (some ⟨g,0,none⟩) e.length c:=by obtain⟨_,h1,_⟩:=T;exact h1.2
  have hE:=Vu hB h bS (by omega) z T [vs Jk,.int .i64 0,.int .i64 0,.bool false,vs (Cl c.k),.int .i64 (Bt c.k),vs F,.int .i64 n1,vs G,.int .i64 n3,.bool (Dp c.bP),.slice (some ⟨B,0,none⟩) t.length C,.slice (some ⟨ge,0,none⟩) e.length ce];generalize Y:BV l e=se at*;have s4:=B8 (P:=prog) (a:=⟨#[32,101,108,115,101,32]⟩) (b:=⟨se.toArray⟩) (by simp only[Ay,Af,Ak];omega);have s5:=B8 (P:=prog) (a:=⟨#[105,102,32]⟩++⟨u.toArray⟩++⟨#[32]⟩++⟨H.toArray⟩) (b:=⟨#[32,101,108,115,101,32]⟩++⟨se.toArray⟩) (by simp only[Ag,Ay,Af,Ak];omega);have r:(⟨#[105,102,32]⟩:ByteArray)++⟨u.toArray⟩++⟨#[32]⟩++⟨H.toArray⟩++(⟨#[32,101,108,115,101,32]⟩++⟨se.toArray⟩)=⟨(Jk++Cd++u++Cd++H++(Cd++Dn++Cd++se)).toArray⟩:=by rw[BK,BK,BK,BK,BK];simp[Cd]
  obtain⟨HE,I⟩:=zq2 hE r;have Z:AF (w.alloc (.cells #[vs Jk,.int .i64 0,.int .i64 0,.bool false,vs (Cl c.k),.int .i64 (Bt c.k),vs F,.int .i64 n1,vs G,.int .i64 n3,.bool (Dp c.bP),.slice (some ⟨B,0,none⟩) t.length C,.slice (some ⟨ge,0,none⟩) e.length ce] 220)).drew w.heap.size 220 _:=(AF.new w 220 _).drew;obtain⟨R0,KD⟩:=zq2 Z ((U #[vs Jk,.int .i64 0,.int .i64 0,.bool false,vs (Cl c.k),.int .i64 (Bt c.k),vs F,.int .i64 n1,vs G,.int .i64 n3,.bool (Dp c.bP),.slice (some ⟨B,0,none⟩) t.length C,.slice (some ⟨ge,0,none⟩) e.length ce]).drew);simp only[A7];clear h hB hC hT hE ht T D r Z U K0 q A hc v z V W Y X;unfold vs at*;go_enter LN,Ke;go_wp2_with fail
  go_region_law (first
   |(go_simp;go_at_call 125;refine(HC.out _ kb n).mono ?_;rintro y w3 ⟨rfl,J,p⟩;have d:=p.cell 12;have yl:=p.lt;simp at d)
   |(go_simp;go_at_call 59;refine(E.out _ ka K).mono ?_;rintro y w3 ⟨rfl,J,p⟩;have d:=p.cell 12;have yl:=p.lt;simp at d)
   |(go_simp;go_at_call 125;refine(HC.out _ KD.out R0.out).mono ?_;rintro y w2 ⟨rfl,ka,K⟩;have i:=K.cell 11;have j:=K.cell 12;simp at i j)
   |(go_simp;go_at_call 59;refine(E.out _ KD.out R0.out).mono ?_;rintro y w2 ⟨rfl,kb,n⟩;have L:=n.cell 4;have M:=n.cell 5;have N:=n.cell 6;have O:=n.cell 7;have Q:=n.cell 8;have R:=n.cell 9;have s:=n.cell 10;have i:=n.cell 11;have j:=n.cell 12;simp at L M N O Q R s i j))
  all_goals
   obtain⟨S,ci⟩:=zq2 J p;clear J p;go_wp2_with fail;refine(HE.out _ S.out ci.out).mono ?_;rintro y w4 ⟨rfl,k4,r4⟩;have cj:=Aa k4;clear k4 r4;go_wp2;go_ret;exact⟨AH (λx=>Ending.returned (.string x)) I.out,cj.out⟩
 |false=>
  rw[Ai A0]at T;subst T;have Z:AF (w.alloc (.cells #[vs Jk,.int .i64 0,.int .i64 0,.bool false,vs (Cl c.k),.int .i64 (Bt c.k),vs F,.int .i64 n1,vs G,.int .i64 n3,.bool (Dp c.bP),.slice (some ⟨B,0,none⟩) t.length C,A6] 220)).drew w.heap.size 220 _:=(AF.new w 220 _).drew;obtain⟨R0,KD⟩:=zq2 Z ((U #[vs Jk,.int .i64 0,.int .i64 0,.bool false,vs (Cl c.k),.int .i64 (Bt c.k),vs F,.int .i64 n1,vs G,.int .i64 n3,.bool (Dp c.bP),.slice (some ⟨B,0,none⟩) t.length C,A6]).drew);have r:(⟨#[105,102,32]⟩:ByteArray)++⟨u.toArray⟩++⟨#[32]⟩++⟨H.toArray⟩=⟨(Jk++Cd++u++Cd++H++[]).toArray⟩:=by rw[AO];exact D
  have I:=Aa r;simp only[Ap,A8];clear h hB hC hT ht D r Z U K0 q A hc v z V W X;unfold A6 vs at*;go_enter LN,Ke;go_wp2_with fail
  go_region_law (first
   |(go_simp;go_at_call 125;refine(HC.out _ kb n).mono ?_;rintro y w3 ⟨rfl,J,p⟩;have d:=p.cell 12;have yl:=p.lt;simp at d)
   |(go_simp;go_at_call 59;refine(E.out _ ka K).mono ?_;rintro y w3 ⟨rfl,J,p⟩;have d:=p.cell 12;have yl:=p.lt;simp at d)
   |(go_simp;go_at_call 125;refine(HC.out _ KD.out R0.out).mono ?_;rintro y w2 ⟨rfl,ka,K⟩;have i:=K.cell 11;have j:=K.cell 12;simp at i j)
   |(go_simp;go_at_call 59;refine(E.out _ KD.out R0.out).mono ?_;rintro y w2 ⟨rfl,kb,n⟩;have L:=n.cell 4;have M:=n.cell 5;have N:=n.cell 6;have O:=n.cell 7;have Q:=n.cell 8;have R:=n.cell 9;have s:=n.cell 10;have i:=n.cell 11;have j:=n.cell 12;simp at L M N O Q R s i j))
  all_goals
   have S:=Aa J;clear J p;go_wp2;go_ret;exact⟨AH (λx=>Ending.returned (.string x)) I.out,S.out⟩
theorem uP (hB:m8 m) (h:ZY w gp vd vm f l) {n:Int}(bT:1<=n) (bU:n<=50) {c:C5}(I:Z3 l c.k) {t:Az}{J:Value}(K:DG Mv w J t) (L:t.size<=m) (M:t.size<=1000) (j:Ed l t):
  Calls prog 92 #[.pointer (some ⟨gp,0,none⟩),.agg (IX n c J).toArray] w (Dt w (Bf++Cd++Ck n++Cd++Cv++Cd++DH l c++Cd++BV l t)):=by
 have k0:=λcs=>(Ac.refl (λb=>w.heap.size<=b) w).alloc (Ab _) (.cells cs 220);obtain⟨z,n1,A,n3,o,_⟩:=QV c;obtain⟨s,u,rfl⟩:∃g c,J= .slice (some ⟨g,0,none⟩) t.length c:=by obtain⟨_,h1,_⟩:=K;exact h1.2
 have lc:=Hz h.dw I;have lt:=Eo h.dw j;have ld:=(FP (n:=n) (by omega) (by omega)).2.1;have i:IX n c (.slice (some ⟨s,0,none⟩) t.length u)=[vs Bf,.int .i64 n,.int .i64 0,.bool false,vs (Cl c.k),.int .i64 (Bt c.k),vs z,.int .i64 n1,vs A,.int .i64 n3,.bool (Dp c.bP),.slice (some ⟨s,0,none⟩) t.length u,A6]:=by unfold IX;rw[o];rfl
 have N:=XW h c I [vs Bf,.int .i64 n,.int .i64 0,.bool false,vs (Cl c.k),.int .i64 (Bt c.k),vs z,.int .i64 n1,vs A,.int .i64 n3,.bool (Dp c.bP),.slice (some ⟨s,0,none⟩) t.length u,A6];have hT:=Vu hB h L M j K [vs Bf,.int .i64 n,.int .i64 0,.bool false,vs (Cl c.k),.int .i64 (Bt c.k),vs z,.int .i64 n1,vs A,.int .i64 n3,.bool (Dp c.bP),.slice (some ⟨s,0,none⟩) t.length u,A6];rw[i];rw[o]at N;have B:∀W,Calls prog 58 #[.int .i64 n] W λe w'=>e= .returned (vs (Ck n))/\w'=W:=λW=>by
  have:=TJ n.toNat (by omega) W;rw[Lu (by omega)]at this;have e:((n.toNat:Nat):Int)=n:=by omega
  rw[e]at this;exact this
 generalize O:DH l c=C at*;generalize Q:BV l t=R at*;generalize S:Ck n=p at*;have s1:=B8 (P:=prog) (a:=⟨#[114,101,112,101,97,116,32]⟩) (b:=⟨p.toArray⟩) (by simp only[Ay,Af,Ak];omega);have s2:=B8 (P:=prog) (a:=⟨#[114,101,112,101,97,116,32]⟩++⟨p.toArray⟩) (b:=⟨#[32,119,104,105,108,101,32]⟩) (by simp only[Ag,Ay,Af,Ak];omega);have s3:=B8 (P:=prog) (a:=⟨#[114,101,112,101,97,116,32]⟩++⟨p.toArray⟩++⟨#[32,119,104,105,108,101,32]⟩) (b:=⟨C.toArray⟩) (by simp only[Ag,Ay,Af,Ak];omega);have s4:=B8 (P:=prog) (a:=⟨#[114,101,112,101,97,116,32]⟩++⟨p.toArray⟩++⟨#[32,119,104,105,108,101,32]⟩++⟨C.toArray⟩) (b:=⟨#[32]⟩) (by simp only[Ag,Ay,Af,Ak];omega);have s5:=B8 (P:=prog) (a:=⟨#[114,101,112,101,97,116,32]⟩++⟨p.toArray⟩++⟨#[32,119,104,105,108,101,32]⟩++⟨C.toArray⟩++⟨#[32]⟩) (b:=⟨R.toArray⟩) (by simp only[Ag,Ay,Af,Ak];omega);have D:(⟨#[114,101,112,101,97,116,32]⟩:ByteArray)++⟨p.toArray⟩++⟨#[32,119,104,105,108,101,32]⟩++⟨C.toArray⟩++⟨#[32]⟩++⟨R.toArray⟩=⟨(Bf++Cd++p++Cd++Cv++Cd++C++Cd++R).toArray⟩:=by rw[BK,BK,BK,BK,BK];simp[Cd]
 obtain⟨HC,E,T,U⟩:=zq4 N hT B D;have r0:AF (w.alloc (.cells #[vs Bf,.int .i64 n,.int .i64 0,.bool false,vs (Cl c.k),.int .i64 (Bt c.k),vs z,.int .i64 n1,vs A,.int .i64 n3,.bool (Dp c.bP),.slice (some ⟨s,0,none⟩) t.length u,A6] 220)).drew w.heap.size 220 _:=(AF.new w 220 _).drew;have R0:=Aa r0;have KD:=Aa (k0 #[vs Bf,.int .i64 n,.int .i64 0,.bool false,vs (Cl c.k),.int .i64 (Bt c.k),vs z,.int .i64 n1,vs A,.int .i64 n3,.bool (Dp c.bP),.slice (some ⟨s,0,none⟩) t.length u,A6]).drew;clear h hB N hT B K D r0 k0 i o I j O Q S;unfold A6 vs at*;go_enter LN,Ke;go_wp2_with fail
 go_region_law (first
  |(go_simp;go_at_call 125;refine(HC.out _ kb d).mono ?_;rintro y w3 ⟨rfl,V,v⟩;have q:=v.cell 1;have yl:=v.lt;simp at q)
  |(go_simp;go_at_call 59;refine(E.out _ ka H).mono ?_;rintro y w3 ⟨rfl,V,v⟩;have q:=v.cell 1;have yl:=v.lt;simp at q)
  |(go_simp;go_at_call 58;refine(T.out _).mono ?_;rintro y w5 ⟨rfl,rfl⟩)
  |(go_simp;go_at_call 125;refine(HC.out _ KD.out R0.out).mono ?_;rintro y w2 ⟨rfl,ka,H⟩;have r:=H.cell 1;have F:=H.cell 11;have zl:=H.lt;simp at r F)
  |(go_simp;go_at_call 59;refine(E.out _ KD.out R0.out).mono ?_;rintro y w2 ⟨rfl,kb,d⟩;have r:=d.cell 1;have X:=d.cell 4;have Y:=d.cell 5;have Z:=d.cell 6;have be:=d.cell 7;have bI:=d.cell 8;have bJ:=d.cell 9;have G:=d.cell 10;have zl:=d.lt;simp at r X Y Z be bI bJ G))
 all_goals
  have bK:=Aa V;clear V v;go_wp2;go_ret;exact⟨AH (λx=>Ending.returned (.string x)) U.out,bK.out⟩
end
theorem Yg:∀(b:Az),b.length=0->b= .nil
 | .nil,_=>rfl
 | .bN p r,h=>by simp[Az.length]at h
 | .ite c t o e r,h=>by simp[Az.length]at h
 | .rep n c b r,h=>by simp[Az.length]at h
theorem XV {l:List Bi}{p:D4}{s:Ah}(h:AV l (.bN p .nil)=Cd++s):s=CB l p:=by rw[AV,AV,AO]at h;exact(TO h).symm
theorem aE {l:List Bi}{c:C5}{t e:Az}{o:Bool}{s:Ah}(h:AV l (.ite c t o e .nil)=Cd++s):s=Jk++Cd++DH l c++Cd++BV l t++(if o then Cd++Dn++Cd++BV l e else []):=by rw[AV,AV,AO]at h;exact(TO h).symm
theorem aC {l:List Bi}{n:Int}{c:C5}{t:Az}{s:Ah}(h:AV l (.rep n c t .nil)=Cd++s):s=Bf++Cd++Ck n++Cd++Cv++Cd++DH l c++Cd++BV l t:=by rw[AV,AV,AO]at h;exact(TO h).symm
theorem kh {m:Nat}(u:m8 m):xC (m+1):=by
 intro w gp B C f l x cs s h k j b d g p;cases x with
 |nil=>cases k
 |bN y rest=>
  obtain rfl:=Yg rest (by simpa[Az.length]using k);obtain⟨rest,rfl,rfl⟩:=g;rw[AO];obtain rfl:=XV p;have i:=d.1;cases y with
  |put q t=>show Calls _ _ _ _ (Dt w (KP++Cd++Bv l q++Jo t++AP));rw[RG];exact RI h KP (.inl rfl) i.1 t
  |cu q=>
   have a:=RI h Et (.inr (.inl rfl)) i.1 false;have e:Et++Cd++Bv l q++De false++AP=CB l (.cu q):=by simp[De,CB]
   rw[e]at a;exact a
  |dV q=>
   have a:=RI h Io (.inr (.inr (.inl rfl))) i.1 false;have e:Io++Cd++Bv l q++De false++AP=CB l (.dV q):=by simp[De,CB]
   rw[e]at a;exact a
  |shift q t tl=>show Calls _ _ _ _ (Dt w (Dq++Cd++Bv l q++Cd++Bv l t++Jo tl++AP));rw[RG];exact kj h i.1.1 i.2.1 tl
  |inc v=>
   have a:=RI h Mo (.inr (.inr (.inr (.inl rfl)))) i.1 false;have e:Mo++Cd++Bv l v++De false++AP=CB l (.inc v):=by simp[De,CB]
   rw[e]at a;exact a
  |dec v=>
   have a:=RI h Mq (.inr (.inr (.inr (.inr rfl)))) i.1 false;have e:Mq++Cd++Bv l v++De false++AP=CB l (.dec v):=by simp[De,CB]
   rw[e]at a;exact a
  |drop=>exact aA Ja (.inl rfl)
  |bump=>exact aA Jb (.inr rfl)
 |ite c t o e rest=>
  obtain rfl:=Yg rest (by simpa[Az.length]using k);obtain⟨A,ve,rest,rfl,r,z,rfl⟩:=g;rw[AO];obtain rfl:=aE p;simp only[Az.size]at j b;refine zW2 u h d.1 r ?_ (by omega) (by omega) (by omega) d.2.1 d.2.2.1;cases o with
  |true=>exact z
  |false=>exact z.1
 |rep n c t rest=>
  obtain rfl:=Yg rest (by simpa[Az.length]using k);obtain⟨A,rest,rfl,r,rfl⟩:=g;rw[AO];obtain rfl:=aC p;simp only[Az.size]at j b;exact uP u h d.2.2.2.1 d.2.2.2.2 d.1 r (by omega) (by omega) d.2.1
theorem aF:∀m,xC m/\m8 m
 |0=>by
  have h:xC 0:=by
   intro w gp g i f l x cs s h d a;cases x with
   |nil=>cases d
   |bN p r=>simp[Az.size]at a
   |ite c t o e r=>simp[Az.size]at a
   |rep n c b r=>simp[Az.size]at a
  exact⟨h,Vt h⟩
 |m+1=>by have h:=kh (aF m).2;exact⟨h,Vt h⟩
theorem jc:(prog.info? 143).map (·.size)=some 2:=by kernel_rfl
theorem vF:liesAt prog prog.depth 143 (2/prog.cellsOf 143) 0 143 1=true:=by kernel_rfl
theorem infoByte:(prog.info? 5).map (λi=>(i.zero,i.size,i.bytes))=some (some (.int .u8 0),1,1):=by kernel_rfl
section
variable {B b:Nat}{bs:List Value}{w:World}
theorem dh (c:w.cell? ⟨b,0,none⟩=some (.pointer (some ⟨b,0,none⟩))):
  Calls prog 90 #[.pointer (some ⟨b,0,none⟩)] w λe w'=>e= .returned (.tuple #[])/\w'=w:=by
 obtain⟨j,a,_⟩:=AU.1 jc;go_enter func90,ntmps90;go_wp2;rw[Lib.run_neq_ptr_same w _ dy a];go_wp2;go_end0;exact⟨rfl,rfl⟩
theorem Zu (g:w.cell? ⟨b,0,none⟩=some (.pointer none)) (a:w.shape? b=some (143,2)) (f:w.frozen? ⟨b,0,none⟩=false):
  Calls prog 90 #[.pointer (some ⟨b,0,none⟩)] w λe w'=>e= .returned (.tuple #[])/\w'=w.setCell ⟨b,0,none⟩ (.pointer (some ⟨b,0,none⟩)):=by
 obtain⟨j,d,c⟩:=AU.1 jc;go_enter func90,ntmps90;go_wp2;rw[Lib.run_to_unsafe w ⟨b,0,none⟩ dy underlying192 d (by rw[c];decide) a (Nat.zero_lt_succ 1)];simp only[Result.andThen];rw[sM];go_wp2;rw[Bb func123 (by kernel_rfl) (by kernel_rfl) (by kernel_rfl) (e:=Extern.AbiNoEscape.same) (by kernel_rfl)];rw[Lib.run_noEscape];simp only[Result.andThen];rw[sM];go_wp2;rw[Lib.run_from_unsafe w ⟨b,0,none⟩ underlying192 dy d a vF];simp only[Result.andThen];rw[sM];go_wp2;go_end0;exact⟨rfl,rfl⟩
theorem gL (h:Lib.IsBuilder 143 5 B b bs w):
  Calls prog 90 #[.pointer (some ⟨b,0,none⟩)] w λe w'=>e= .returned (.tuple #[])/\(Lib.BuilderAt 143 5 B b (.pointer (some ⟨b,0,none⟩)) bs w'/\Below B w w'):=by
 rcases h with h|h
 ·refine(Zu h.cell0 h.shape h.frozen0).mono ?_;rintro e w' ⟨rfl,rfl⟩;exact⟨rfl,h.used _,(LA B w).setCell (p:=⟨b,0,none⟩) h.1 _⟩
 ·refine(dh h.cell0).mono ?_;rintro e w' ⟨rfl,rfl⟩;exact⟨rfl,h,LA B _⟩
def Ahu (B b:Nat) (l:Ah) (w:World) (e:Ending) (w':World):Prop:=(∃n,e= .returned (.tuple #[.int .i64 n,.nilIface]))/\Lib.IsBuilder 143 5 B b (Lib.byteCells l) w'/\Ac (λk=>B<=k) w w'
theorem gJ {l s:Ah}(h:Lib.IsBuilder 143 5 B b (Lib.byteCells l) w) (i:l.length+s.length<=140737488355328) (S:B<=w.heap.size):
  Calls prog 57 #[.pointer (some ⟨b,0,none⟩),.string ⟨s.toArray⟩] w (Ahu B b (l++s) w):=by
 obtain⟨U,V,C,D,E⟩:=Bg infoByte;have o:(Lib.byteCells l).length=l.length:=by simp[Lib.byteCells]
 have q:(⟨s.toArray⟩:ByteArray).size=s.length:=by simp[ByteArray.size]
 have u:Lib.byteCells l++Lib.strCells ⟨s.toArray⟩=Lib.byteCells (l++s):=by simp[Lib.byteCells,Lib.strCells]
 obtain⟨F,W,X,H⟩:=zq4 u o q h;generalize Y:Lib.byteCells l=xs at*;generalize Z:(⟨s.toArray⟩:ByteArray)=G at*;have be:xs.length+G.size<=140737488355328:=by rw[o,q];exact i
 clear Y u o q h i Z;go_enter func57,ntmps57;go_wp2_with fail;refine(gL H.out).mono ?_;rintro e w1 ⟨rfl,h1,x⟩;obtain⟨P,v,f,j,y⟩:=h1;have c0:w1.cell? ⟨b,0,none⟩=some (.pointer (some ⟨b,0,none⟩)):=by rw[TP f];rfl
 have c1:w1.cell? ⟨b,1,none⟩=some v:=by rw[TP f];rfl
 obtain⟨m,r,z,I⟩:=zq4 j x f y;clear j x f y;go_wp2_with (at_builtin;refine Lib.wpList_append_own_string _ rfl _ _ 141 9 rfl B 5 U underlying141 Kd V C D E _ _ _ rfl m.out G rfl ?c3 ?c4 ?c5 ?_)
 case c3=>unfold maxLen;omega
 case c4=>omega
 case c5=>have:=r.out.size;omega
 intro v' A a c _;have J:b<w1.heap.size:=by
  rcases Be b w1.heap.size with K|K
  ·exact K
  ·have:=z.out;simp[Cj K]at this
 have d:A.heap[b]?=some (.cells #[.pointer (some ⟨b,0,none⟩),v] 143 (0,0)):=by rw[c.block b J (λe=>I.out e.symm)];exact z.out
 have d0:A.cell? ⟨b,0,none⟩=some (.pointer (some ⟨b,0,none⟩)):=by rw[TP d];rfl
 have d1:A.cell? ⟨b,1,none⟩=some v:=by rw[TP d];rfl
 have f1:A.frozen? ⟨b,1,none⟩=false:=Lib.frozen_of_heap d 1;obtain⟨Q,R,t,rfl⟩:∃Q R t,v'= .slice Q R t:=by
  rcases a.2 with⟨L,_⟩|⟨g,t,bK,L,_⟩
  ·exact⟨_,_,_,L⟩
  ·exact⟨_,_,_,L⟩
 obtain⟨M,HG,N⟩:=zq3 a c d;clear a c d;go_wp2;go_ret2;have n:Lib.BuilderAt 143 5 B b _ _ _:=Lib.BuilderAt.put (T:=143) (e:=5) P N.out (bs':=xs++Lib.strCells G) (by simpa[Lib.strCells_length]using M.out) (by decide);rw[F.out]at n;exact⟨⟨_,rfl⟩,.inr n,Ac.dF ((r.out.grown HG.out (by have:=r.out.size;omega) (λk O=>(m.out.lt k O).1)).setCell (p:=⟨b,1,none⟩) P _) (λk O=>O)⟩
end
theorem uI {n:Int}(a:0<=n) (h:n<10):Ck n=[UInt8.ofNat (48+n.toNat)]:=by unfold Ck;rw[M0 (by omega)]
theorem uJ {n:Int}(h:10<=n):Ck n=Ck (n/10)++[UInt8.ofNat (48+(n%10).toNat)]:=by
 unfold Ck;rw[Pw (by omega)];have e1:n.toNat/10=(n/10).toNat:=by omega
 have a:n.toNat%10=(n%10).toNat:=by omega
 rw[e1,a]
section
variable {w:World}
attribute [local go_sem ↓] Go.wp_at_zero Go.wp_at_succ
theorem au (m:Int) (d:0<=m) (h:m<256) (W:World) (b:Nat) (a:W.cell? ⟨b,0,none⟩=some (.int .u8 m)):(convert 141 9 (.slice (some ⟨b,0,none⟩) 1 1)).run prog W= .ok (.string ⟨#[UInt8.ofNat m.toNat]⟩) W:=by
 have:=run_convert_bytes_back (P:=prog) W 141 9 5 ⟨b,0,none⟩ 1 [UInt8.ofNat m.toNat] underlying141 underlying5 Kd (λj c=>by
  obtain rfl:j=0:=by simpa using c
  have e:(((UInt8.ofNat m.toNat).toNat:Nat):Int)=m:=by rw[UInt8.toNat_ofNat'];omega
  show W.cell? ⟨b,0,none⟩=some (.int .u8 (((UInt8.ofNat m.toNat).toNat:Nat):Int));rw[e];exact a)
 exact this
theorem Tm {n:Int}(a:0<=n) (h:n<10):Calls prog 33 #[.int .i64 n] w (Dt w (Ck n)):=by
 rw[uI a h];have b:=au (48+n) (by omega) (by omega);go_enter func33,ntmps33;go_wp2;go_ret;have e:(48+n).toNat=48+n.toNat:=by omega
 exact⟨by rw[←e];rfl,(Ac.refl _ w).alloc (Ab _) _⟩
theorem XR {n:Int}(x:10<=n) (h:n<=999) (j:∀W:World,Calls prog 33 #[.int .i64 (n/10)] W (Dt W (Ck (n/10)))):Calls prog 33 #[.int .i64 n] w (Dt w (Ck n)):=by
 have k:=uJ (n:=n) (by omega);have q:=au (48+n%10) (by omega) (by omega);have y:n.tdiv 10=n/10:=Int.tdiv_eq_ediv_of_nonneg (by omega);have z:n.tmod 10=n%10:=FY (by omega);have A:0<=n%10:=by omega
 have B:n%10<10:=by omega
 have C:0<=n/10:=by omega
 have D:n/10<100:=by omega
 generalize n/10=d at*;generalize n%10=r at*;have E:IntKind.i64.wrap d=d:=CV _ (by omega);have F:IntKind.i64.wrap r=r:=CV _ (by omega);have G:IntKind.i64.wrap (48+r)=48+r:=CV _ (by omega);have H:IntKind.u8.wrap (48+r)=48+r:=by unfold IntKind.wrap;simp[IntKind.signed,IntKind.bits];omega
 have m:∀W:World,(Op.stringOp .add (⟨(Ck d).toArray⟩:ByteArray) ⟨#[UInt8.ofNat (48+r).toNat]⟩).run prog W= .ok (.string (⟨(Ck d).toArray⟩++⟨#[UInt8.ofNat (48+r).toNat]⟩)) W:=λW=>by refine run_string_add_sum W _ _ ?_;have:=(FP (n:=d) (by omega) (by omega)).2.1;rw[Ay];show(Ck d).length+1<=_;omega
 have c:AF (w.alloc (.cells #[.int .u8 (48+r)] 5)).drew w.heap.size 5 [.int .u8 (48+r)]:=(AF.new w 5 [.int .u8 (48+r)]).drew;obtain⟨g,s,t⟩:=zq3 c j k;clear j k c;unfold Dt vs at*;go_enter func33,ntmps33;go_wp2_with fail
 go_region_with (go_at_call 33;refine(s.out _).mono ?_;rintro e w1 ⟨rfl,a⟩;have u:=a.size;(try (have v:=(a.cell (p:=⟨w.heap.size,0,none⟩) (by simp)).trans (g.out.cell 0);simp at v)))
 all_goals go_wp2
 all_goals go_ret
 all_goals
  refine⟨?_,?_⟩
  ·have e:(48+r).toNat=48+r.toNat:=by omega
   have o:vs (Ck d++[UInt8.ofNat (48+r.toNat)])= .string (⟨(Ck d).toArray⟩++⟨#[UInt8.ofNat (48+r).toNat]⟩):=by unfold vs;rw[←BK,e]
   unfold vs at o;rw[t.out,o];rfl
  ·first
   |exact(((Ac.refl (λb=>w.heap.size<=b) w).drew).trans (a.mono (λb i=>i))).alloc u _
   |exact(((Ac.refl (λb=>w.heap.size<=b) w).alloc (Ab _) _).drew).trans (a.mono (λb i=>by simp[C8]at i;omega))
theorem RF {n:Int}(a:0<=n) (h:n<=999):Calls prog 33 #[.int .i64 n] w (Dt w (Ck n)):=by
 by_cases b:n<10
 ·exact Tm a b
 ·refine XR (by omega) h λW=>?_;by_cases c:n/10<10
  ·exact Tm (by omega) c
  ·refine XR (by omega) (by omega) λW=>Tm (by omega) (by omega)
end
structure dT (w:World) (gp:Nat) (vd vr vh vm:Value) (f:Int) (l:List Bi):Prop where
 bQ:AF w gp 85 [vd,.int .i64 f,vr,vh,vm,.bool true]
 decls:Sl (λ_=>True) w 87 3 vd l.length (l.flatMap FN)
 dw:Kl l
section
variable {w w':World}{gp:Nat}{vd vr vh vm:Value}{f:Int}{l:List Bi}
theorem dT.later (h:dT w gp vd vr vh vm f l) (a:Ac (λb=>w.heap.size<=b) w w'):dT w' gp vd vr vh vm f l:=
 ⟨h.bQ.kept a (λe=>by have:=h.bQ.lt;omega),h.decls.kept a (λb c e=>by have:=h.decls.lt c;omega),h.dw⟩
theorem dT.at_ (h:dT w gp vd vr vh vm f l) {k:Int}(c:Ix l.length k):∃(n a b:Nat),k=(n:Int)/\n<l.length/\vd= .slice (some ⟨a,0,none⟩) l.length b/\l.length<=b/\b<=9223372036854775807/\a<w.heap.size/\gp<w.heap.size/\
  w.cell? ⟨gp,0,none⟩=some (.slice (some ⟨a,0,none⟩) l.length b)/\w.cell? ⟨a,n*3+1,none⟩=some (vs (Bv l k))/\(Bv l k).length<=8:=by
 obtain⟨n,rfl⟩:∃n:Nat,k=(n:Int):=⟨k.toNat,by have:=c.1;omega⟩;have d:n<l.length:=by have:=c.2;omega
 obtain⟨a,b,rfl,_,g,e,i⟩:=h.decls.form (by omega);have m:l[n]?=some (Aq l (n:Int)):=by unfold Aq;rw[As,Ae d];rfl
 unfold maxLen at e;exact⟨n,a,b,rfl,d,rfl,g,e,i,h.bQ.lt,h.bQ.cell 0,h.decls.at_ (λ_=>rfl) m (j:=1) (by omega),DB h.dw _⟩
theorem oM (h:dT w gp vd vr vh vm f l) (v:Ra) (c:Wx l v):Calls prog 126 #[.pointer (some ⟨gp,0,none⟩),.agg (Fq v).toArray] w (Dt w (Ei l v)):=by
 have d:=λcs=>(Ac.refl (λb=>w.heap.size<=b) w).alloc (Ab _) (.cells cs 151);have i:=Aa d;cases v with
 |num n=>
  have o:=Aa (λW=>RF (w:=W) c.1 c.2);clear h d;show Calls _ _ _ _ (Dt w (Ck n));unfold Fq DU C6 vs;go_enter ie,ZW;go_wp2_with fail;refine(o.out _).mono ?_;rintro e w1 ⟨rfl,g⟩;have j:=Aa g;clear g;go_wp2;go_ret;exact⟨rfl,(i.out _).trans (j.out.mono (λb p=>by simp at p;omega))⟩
 |len k=>
  obtain⟨n,m,q,rfl,r,rfl,s,t,u,x,y,z,A⟩:=h.at_ c.1;have e1:¬gp=w.heap.size:=by omega
  have B:¬m=w.heap.size:=by omega
  show Calls _ _ _ _ (Dt w (JU++Cd++Bv l (n:Int)));generalize Bv l (n:Int)=nm at*;have C:=B8 (P:=prog) (a:=⟨#[108,101,110,32]⟩) (b:=⟨nm.toArray⟩) (by simp only[Ay,Af,Ak];omega);clear h d c;unfold Fq DU C6 vs at*;go_enter ie,ZW;go_wp2;go_region;go_wp2;go_ret;exact⟨by rw[BK];rfl,(i.out _).drew⟩
 |var k=>
  obtain⟨n,m,q,rfl,r,rfl,s,t,u,x,y,z,A⟩:=h.at_ c.1;have e1:¬gp=w.heap.size:=by omega
  have B:¬m=w.heap.size:=by omega
  show Calls _ _ _ _ (Dt w (Bv l (n:Int)));generalize Bv l (n:Int)=nm at*;clear h d c;unfold Fq DU C6 vs at*;go_enter ie,ZW;go_wp2;go_region;go_wp2;go_ret;exact⟨rfl,(i.out _).drew⟩
 |bI=>
  clear h d c;show Calls _ _ _ _ (Dt w Cy);unfold Fq DU C6 vs at*;go_enter ie,ZW;go_wp2;go_ret;exact⟨rfl,i.out _⟩
theorem Pv (c:C5):∃d n1 e n3,Di c=[vs (BX c.k),.int .i64 (Bt c.k),vs d,.int .i64 n1,vs e,.int .i64 n3,.int .i64 c.bP]/\IQ c.k=[vs d,.int .i64 n1,vs e,.int .i64 n3]:=by
 obtain⟨d,n1,e,n3,g⟩:∃d n1 e n3,IQ c.k=[vs d,.int .i64 n1,vs e,.int .i64 n3]:=by
  cases c.k with
  |less a b=>exact⟨_,_,_,_,rfl⟩
  |_=>exact⟨_,_,_,_,rfl⟩
 exact⟨d,n1,e,n3,by unfold Di;rw[g];rfl,g⟩
def Xq (b:Ah) (n:Int):Ra:=if b=kS then .num n else if b=JU then .len n else if b=Cy then .bI else .var n
theorem cV {v:Ra}{b:Ah}{n:Int}(a:DU v=b) (c:C6 v=n):Xq b n=v:=by subst a c;cases v<;>rfl
theorem j6 (h:dT w gp vd vr vh vm f l) (c:C5) (j:Z3 l c.k):Calls prog 93 #[.pointer (some ⟨gp,0,none⟩),.agg (Di c).toArray] w (Dt w (DH l c)):=by
 have k0:=λcs=>(Ac.refl (λb=>w.heap.size<=b) w).alloc (Ab _) (.cells cs 153);have Y:=Aa k0;have Q:DH l c=Oz c++Jp l c.k:=rfl;have g:Oz c=if Dp c.bP then Lg++Cd else []:=by unfold Oz Dp;by_cases hn:c.bP%2=1<;>simp[hn]
 have bV:(Oz c).length<=4:=by rw[g];split<;>simp[Cd]
 obtain⟨q,n1,s,n3,Z,H⟩:=Pv c;rw[Z,Q];clear Z Q;have d:∀(k:Int) (t:Ah),BX c.k=t->(t=Fb\/t=DN\/t=Fa)->Bt c.k=k->Ix l.length k->Jp l c.k=t++Cd++Bv l k->
   Calls prog 93 #[.pointer (some ⟨gp,0,none⟩),.agg #[vs (BX c.k),.int .i64 (Bt c.k),vs q,.int .i64 n1,vs s,.int .i64 n3,.int .i64 c.bP]] w (Dt w (Oz c++Jp l c.k)):=by
  intro k t e1 I e2 R e3;rw[e1,e2,e3];obtain⟨n,gd,cd,rfl,hn,rfl,q1,q2,q3,q4,d0,d1,hl⟩:=h.at_ R;have f1:¬gp=w.heap.size:=by omega
  have f2:¬gd=w.heap.size:=by omega
  generalize Bv l (n:Int)=nm at*;generalize Oz c=r at*;generalize c.bP=bP at*;have u:=Tp bP;have o:=Aa u;clear u;have bX:t.length<=5:=by rcases I with rfl|rfl|rfl<;>simp
  have S:(((⟨r.toArray⟩:ByteArray)++⟨t.toArray⟩)++⟨#[32]⟩)++⟨nm.toArray⟩=⟨(r++(t++Cd++nm)).toArray⟩:=by rw[BK,BK,BK];simp[Cd]
  have s1:=B8 (P:=prog) (a:=⟨r.toArray⟩) (b:=⟨t.toArray⟩) (by simp only[Ay];omega);have s2:=B8 (P:=prog) (a:=⟨r.toArray⟩++⟨t.toArray⟩) (b:=⟨#[32]⟩) (by simp only[Ag,Ay,Af,Ak];omega);have s3:=B8 (P:=prog) (a:=⟨r.toArray⟩++⟨t.toArray⟩++⟨#[32]⟩) (b:=⟨nm.toArray⟩) (by simp only[Ag,Ay,Af,Ak];omega);have T:=Aa S;clear S k0 h H e1 e2 e3 j R;unfold vs at*;rcases o.out with⟨J,z⟩|⟨J,z⟩
  ·rw[show Dp bP=false from z,Ai A0]at g;subst g;have K:IntKind.i64.wrap ((bP:Int).tmod 2)=(bP:Int).tmod 2:=CV _ (by omega);rw[J]at K;clear z o;rcases I with rfl|rfl|rfl
   all_goals
    go_enter nU,gV;go_wp2;go_region;go_wp2;go_ret;exact⟨AH (λx=>Ending.returned (.string x)) T.out,(Y.out _).drew⟩
  ·rw[show Dp bP=true from z,Al rfl]at g;obtain rfl:r=[110,111,116,32]:=g;have K:IntKind.i64.wrap ((bP:Int).tmod 2)=(bP:Int).tmod 2:=CV _ (by omega);rw[J]at K;clear z o;rcases I with rfl|rfl|rfl
   all_goals
    go_enter nU,gV;go_wp2;go_region;go_wp2;go_ret;exact⟨AH (λx=>Ending.returned (.string x)) T.out,(Y.out _).drew⟩
 cases A:c.k with
 |full k=>rw[A]at d j;exact d k Fb rfl (.inl rfl) rfl j.1 rfl
 |empty k=>rw[A]at d j;exact d k DN rfl (.inr (.inl rfl)) rfl j.1 rfl
 |fC k=>rw[A]at d j;exact d k Fa rfl (.inr (.inr rfl)) rfl j.1 rfl
 |less a b=>
  rw[A]at j H;have i:vs (DU a)=vs q/\Value.int .i64 (C6 a)= .int .i64 n1/\vs (DU b)=vs s/\Value.int .i64 (C6 b)= .int .i64 n3:=by unfold IQ Fq at H;simpa only[Bz,CT,IZ,and_true]using H
  have D:Xq q n1=a:=cV (YQ i.1) (by have:=i.2.1;injection this);have E:Xq s n3=b:=cV (YQ i.2.2.1) (by have:=i.2.2.2;injection this);have la:=I5 h.dw j.1;have lb:=I5 h.dw j.2;rw[←D]at la;rw[←E]at lb;have U:∀W (_:Ac (λb=>w.heap.size<=b) w W) (cs:List Value) (_:AF W w.heap.size 153 cs) (p:Ah) (m:Int),(p=q/\m=n1)\/(p=s/\m=n3)->
    Calls prog 126 #[.pointer (some ⟨gp,0,none⟩),.agg #[vs p,.int .i64 m]] W (λy w'=>y= .returned (vs (Ei l (Xq p m)))/\Ac (λb=>w.heap.size<=b) w w'/\AF w' w.heap.size 153 cs):=by
   intro W hk cs hr p m bJ;have B:∀v,Wx l v->Fq v=[vs p,.int .i64 m]->Xq p m=v->Calls prog 126 #[.pointer (some ⟨gp,0,none⟩),.agg #[vs p,.int .i64 m]] W (λy w'=>y= .returned (vs (Ei l (Xq p m)))/\Ac (λb=>w.heap.size<=b) w w'/\AF w' w.heap.size 153 cs):=by intro v H Z hd;have j:=oM (h.later hk) v H;rw[Z]at j;refine j.mono ?_;rintro y w' ⟨h1,h2⟩;rw[hd];exact⟨h1,hk.trans (h2.mono (λb hb=>Ad hk.size hb)),hr.kept h2 (λe=>by have:=hr.lt;omega)⟩
   rcases bJ with⟨rfl,rfl⟩|⟨rfl,rfl⟩
   ·exact B a j.1 (by show [vs (DU a),.int .i64 (C6 a)]=_;rw[i.1,i.2.1]) D
   ·exact B b j.2 (by show [vs (DU b),.int .i64 (C6 b)]=_;rw[i.2.2.1,i.2.2.2]) E
  have V:Oz c++Jp l (.less a b)=Oz c++(Ei l (Xq q n1)++[32,60,32]++Ei l (Xq s n3)):=by rw[D,E];rfl
  rw[V];show Calls _ _ #[.pointer (some ⟨gp,0,none⟩),.agg #[vs EY,.int .i64 0,vs q,.int .i64 n1,vs s,.int .i64 n3,.int .i64 c.bP]] w _;generalize Oz c=r at*;generalize c.bP=bP at*;have u:=Tp bP;have o:=Aa u;clear u;clear V i D E j H d h;generalize X:(λp m=>Ei l (Xq p m))=F at*;have e1:∀p m,Ei l (Xq p m)=F p m:=λp m=>by rw[←X]
  simp only[e1]at*;clear e1 X A;have S:(((⟨r.toArray⟩:ByteArray)++⟨(F q n1).toArray⟩)++⟨#[32,60,32]⟩)++⟨(F s n3).toArray⟩=⟨(r++(F q n1++[32,60,32]++F s n3)).toArray⟩:=by rw[BK,BK,BK];simp
  have s1:=B8 (P:=prog) (a:=⟨r.toArray⟩) (b:=⟨(F q n1).toArray⟩) (by simp only[Ay];omega);have s2:=B8 (P:=prog) (a:=⟨r.toArray⟩++⟨(F q n1).toArray⟩) (b:=⟨#[32,60,32]⟩) (by simp only[Ag,Ay,Af,Ak];omega);have s3:=B8 (P:=prog) (a:=⟨r.toArray⟩++⟨(F q n1).toArray⟩++⟨#[32,60,32]⟩) (b:=⟨(F s n3).toArray⟩) (by simp only[Ag,Ay,Af,Ak];omega);obtain⟨T,G⟩:=zq2 S U;have r0:AF (w.alloc (.cells #[vs EY,.int .i64 0,vs q,.int .i64 n1,vs s,.int .i64 n3,.int .i64 (bP:Int)] 153)).drew w.heap.size 153 [vs EY,.int .i64 0,vs q,.int .i64 n1,vs s,.int .i64 n3,.int .i64 (bP:Int)]:=(AF.new w 153 _).drew;obtain⟨R0,KD⟩:=zq2 r0 ((Y.out #[vs EY,.int .i64 0,vs q,.int .i64 n1,vs s,.int .i64 n3,.int .i64 (bP:Int)]).drew);clear S U k0 r0 Y;unfold vs at*;rcases o.out with⟨J,z⟩|⟨J,z⟩
  ·rw[show Dp bP=false from z,Ai A0]at g;subst g;have K:IntKind.i64.wrap ((bP:Int).tmod 2)=(bP:Int).tmod 2:=CV _ (by omega);rw[J]at K;clear z o;go_enter nU,gV;go_wp2_with fail
   go_region_law (first
    |(go_simp;go_at_call 126;refine(G.out _ ka _ C _ _ ?_).mono ?_;(first|exact .inl ⟨rfl,rfl⟩|exact .inr ⟨rfl,rfl⟩);rintro y w3 ⟨rfl,kb,rb⟩)
    |(go_simp;go_at_call 126;refine(G.out _ KD.out _ R0.out _ _ ?_).mono ?_;(first|exact .inl ⟨rfl,rfl⟩|exact .inr ⟨rfl,rfl⟩);rintro y w2 ⟨rfl,ka,C⟩;have L:=C.cell 2;have M:=C.cell 3;have N:=C.cell 4;have O:=C.cell 5;simp at L M N O))
   all_goals go_wp2
   all_goals go_ret
   all_goals exact⟨AH (λx=>Ending.returned (.string x)) T.out,kb⟩
  ·rw[show Dp bP=true from z,Al rfl]at g;obtain rfl:r=[110,111,116,32]:=g;have K:IntKind.i64.wrap ((bP:Int).tmod 2)=(bP:Int).tmod 2:=CV _ (by omega);rw[J]at K;clear z o;go_enter nU,gV;go_wp2_with fail
   go_region_law (first
    |(go_simp;go_at_call 126;refine(G.out _ ka _ C _ _ ?_).mono ?_;(first|exact .inl ⟨rfl,rfl⟩|exact .inr ⟨rfl,rfl⟩);rintro y w3 ⟨rfl,kb,rb⟩)
    |(go_simp;go_at_call 126;refine(G.out _ KD.out _ R0.out _ _ ?_).mono ?_;(first|exact .inl ⟨rfl,rfl⟩|exact .inr ⟨rfl,rfl⟩);rintro y w2 ⟨rfl,ka,C⟩;have L:=C.cell 2;have M:=C.cell 3;have N:=C.cell 4;have O:=C.cell 5;simp at L M N O))
   all_goals go_wp2
   all_goals go_ret
   all_goals exact⟨AH (λx=>Ending.returned (.string x)) T.out,kb⟩
end
end Go.Proofs.YtodkkholbjeioaaGreatDoor.Ev
