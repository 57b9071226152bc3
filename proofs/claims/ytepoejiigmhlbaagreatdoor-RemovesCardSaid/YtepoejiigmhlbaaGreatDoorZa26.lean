/- Lemmas for a law's walk. Conditions: none. -/
import Derived.Test.YtepoejiigmhlbaaGreatDoorZa24
set_option linter.all false
set_option maxRecDepth 100000
set_option maxHeartbeats 8000000
namespace Go.Proofs.YtepoejiigmhlbaaGreatDoor.Ev
open _root_.Go.Proofs.Tryz
theorem Fs (l:List Bi):∀(a b:Az),AT l (a.app b)=AT l a++AT l b
 | .nil,b=>by simp[Az.app,AT]
 | .bG p r,b=>by simp[Az.app,AT,Fs l r b]
 | .ite c t o e r,b=>by simp[Az.app,AT,Fs l r b]
 | .rep n c x r,b=>by simp[Az.app,AT,Fs l r b]
section
variable {l:List Bi}
theorem Dz (h:J8 l) (k:Int):(Bu l k).length<=8:=by
 unfold Bu Aq;cases a:l[k.toNat]? with
 |none=>simp
 |some d=>exact(h.each d (Aw a)).name.2.1
theorem IQ (h:J8 l) {v:Qw}(a:V2 l v):(Ef l v).length<=12:=by
 cases v with
 |num n=>have:=(FM a.1 a.2).2.1;simp only[Ef];omega
 |var k=>have:=Dz h k;simp only[Ef];omega
 |len k=>have:=Dz h k;simp[Ef,Cb];omega
 |aD=>simp[Ef]
theorem Hs (h:J8 l) {c:C3}(d:ZE l c.k):(DE l c).length<=40:=by
 have f:(if c.bI%2=1 then KU++Cb else []).length<=4:=by split<;>simp[Cb]
 have g:(Jg l c.k).length<=36:=by
  cases e:c.k with
  |full k=>have:=Dz h k;simp[Jg,Cb];omega
  |empty k=>have:=Dz h k;simp[Jg,Cb];omega
  |eU k=>have:=Dz h k;simp[Jg,Cb];omega
  |less a b=>
   rw[e]at d;have:=IQ h d.1;have:=IQ h d.2;simp[Jg];omega
 unfold DE;rw[Ao];omega
theorem Yt (h:J8 l) (p:D0):(CA l p).length<=40:=by
 have a:∀t,(Jf t).length<=5:=by intro t;cases t<;>simp[Jf,Cb]
 cases p with
 |put q t=>have:=Dz h q;have:=a t;simp[CA,Cb];omega
 |bx q=>have:=Dz h q;simp[CA,Cb];omega
 |dz q=>have:=Dz h q;simp[CA,Cb];omega
 |shift q p t=>have:=Dz h q;have:=Dz h p;have:=a t;simp[CA,Cb];omega
 |inc q=>have:=Dz h q;simp[CA,Cb];omega
 |dec q=>have:=Dz h q;simp[CA,Cb];omega
 |drop=>simp[CA]
 |bump=>simp[CA]
theorem Eg (h:J8 l):∀(b:Az),D9 l b->(AT l b).length<=100*b.size
 | .nil,_=>by simp[AT]
 | .bG p r,a=>by
  have:=Yt h p;have:=Eg h r a.2;simp[AT,Cb,Az.size];omega
 | .ite c t o e r,a=>by
  have:=Hs h a.1;have:=Eg h t a.2.1;have:=Eg h e a.2.2.1;have:=Eg h r a.2.2.2;cases o<;>simp[AT,Cb,Az.size]<;>omega
 | .rep n c b r,a=>by have:=Hs h a.1;have:=Eg h b a.2.1;have:=Eg h r a.2.2.1;have:=(FM (n:=n) (by have:=a.2.2.2;omega) (by have:=a.2.2.2;omega)).2.1;simp[AT,Cb,Az.size];omega
theorem El (h:J8 l) {b:Az}(a:D9 l b):(BU l b).length<=100*b.size+3:=by have:=Eg h b a;simp[BU,Cb];omega
end
end Go.Proofs.YtepoejiigmhlbaaGreatDoor.Ev
namespace Go.Proofs.YtepoejiigmhlbaaGreatDoor.Ev
open _root_.Go.Proofs.Tryz
open Go Go.RowKit
def Dr (w:World) (s:Ah) (e:Ending) (w':World):Prop:=e= .returned (vs s)/\Ac (λb=>w.heap.size<=b) w w'
theorem Ac.qh (w:World) (k:Nat) (a:Array Obj) {S:Nat->Prop}(c:∀b,w.heap.size<=b->S b):Ac S w (Sort.grow (w.drewN k) a):=
 ⟨rfl,rfl,rfl,by simp[Sort.grow],λi d=>by
  rcases Be i w.heap.size with h|h
  ·show(w.heap++a)[i]?=_;exact Array.getElem?_append_left h
  ·exact absurd (c i h) d⟩
def Ol (w:World):Prop:=Lib.TabIs prog w "internal/strconv.uint64pow10" .u64 Lib.pow10Tab
theorem Ol.kept {S:Nat->Prop}{w w':World}(h:Ol w) (a:Ac S w w') (c:∀b,S b->¬b=16):Ol w':=by
 unfold Ol Lib.TabIs World.var? at*;have d:prog.globalNamed "internal/strconv.uint64pow10" =some 16:=by kernel_rfl
 have e:=a.block 16 (λg=>c _ g rfl);rw[d]at h ⊢;simp only[Tk]at h ⊢;rw[e];exact h
theorem WR:∀(n:Nat),Lib.decDigits n=EP n:=by
 intro n
 induction n using Nat.strongRecOn with
 |_ n a=>
  rw[Lib.decDigits,EP];by_cases h:n<10
  ·rw[dif_pos h,Al h]
  ·rw[dif_neg h,Ai h,a (n/10) (by omega)]
theorem Li {n:Int}(a:0<=n):Lib.decDigits n.toNat=Ci n:=WR n.toNat
theorem aU {n:Int}(a:0<=n):Lib.itoa n=Ci n:=by unfold Lib.itoa;rw[Ai (by omega)];exact Li a
theorem Ol.lt {w:World}(h:Ol w):16<w.heap.size:=by
 unfold Ol Lib.TabIs World.var? at h;have b:prog.globalNamed "internal/strconv.uint64pow10" =some 16:=by kernel_rfl
 rw[b]at h;simp only[Tk]at h;rcases Be 16 w.heap.size with a|a
 ·exact a
 ·rw[Ch a]at h;cases h
structure ZA (w:World) (gp:Nat) (vd vm:Value) (f:Int) (l:List Bi):Prop where
 ba:AE w gp 63 [vd,.int .i64 f,vm]
 decls:Sl (λ_=>True) w 83 3 vd l.length (l.flatMap Dv)
 dw:J8 l
 qu:Ol w
section
variable {w w':World}{gp:Nat}{vd vm:Value}{f:Int}{l:List Bi}
theorem ZA.later (h:ZA w gp vd vm f l) (a:Ac (λb=>w.heap.size<=b) w w'):ZA w' gp vd vm f l:=
 ⟨h.ba.kept a (λe=>by have:=h.ba.lt;omega),h.decls.kept a (λb c e=>by have:=h.decls.lt c;omega),h.dw,h.qu.kept a (λb c e=>by subst e;have:=h.qu.lt;omega)⟩
theorem ZA.at_ (h:ZA w gp vd vm f l) {k:Int}(c:Ix l.length k):∃(n a b:Nat),k=(n:Int)/\n<l.length/\vd= .slice (some ⟨a,0,none⟩) l.length b/\l.length<=b/\b<=9223372036854775807/\a<w.heap.size/\gp<w.heap.size/\
  w.cell? ⟨gp,0,none⟩=some (.slice (some ⟨a,0,none⟩) l.length b)/\w.cell? ⟨a,n*3+1,none⟩=some (vs (Bu l k))/\(Bu l k).length<=8:=by
 obtain⟨n,rfl⟩:∃n:Nat,k=(n:Int):=⟨k.toNat,by have:=c.1;omega⟩;have d:n<l.length:=by have:=c.2;omega
 obtain⟨a,b,rfl,_,g,e,i⟩:=h.decls.form (by omega);have m:l[n]?=some (Aq l (n:Int)):=by unfold Aq;rw[As,Ae d];rfl
 unfold maxLen at e;exact⟨n,a,b,rfl,d,rfl,g,e,i,h.ba.lt,h.ba.cell 0,h.decls.at_ (λ_=>rfl) m (j:=1) (by omega),Dz h.dw _⟩
theorem B7 {P:Program}{a b:ByteArray}(h:a.size+b.size<=1000000000):∀W:World,(Op.stringOp .add a b).run P W= .ok (.string (a++b)) W:=λW=>run_string_add_sum W _ _ (by omega)
theorem BI (a b:Ah):(⟨a.toArray⟩:ByteArray)++⟨b.toArray⟩=⟨(a++b).toArray⟩:=by apply ByteArray.ext;simp[ByteArray.data_append]
theorem og (h:ZA w gp vd vm f l) (v:Qw) (c:V2 l v):Calls prog 132 #[.pointer (some ⟨gp,0,none⟩),.agg (DB v).toArray] w (Dr w (Ef l v)):=by
 have d:=λcs=>(Ac.refl (λb=>w.heap.size<=b) w).alloc (Ab _) (.cells cs 199);have g:=Aa d;cases v with
 |num n=>
  have hit:=Tryz.strconv_Itoa n (by have:=c.1;omega) (by have:=c.2;omega);rw[aU c.1]at hit;obtain⟨j,H⟩:=zq2 hit h;clear hit h d;show Calls _ _ _ _ (Dr w (Ci n));unfold DB Ff C4 vs;go_enter gL,Zx;go_wp2_with fail;refine(j.out _ (H.out.later (g.out _)).qu).mono ?_;rintro e w1 ⟨rfl,k,m,rfl⟩;go_wp2;go_ret;exact⟨rfl,(g.out _).trans (Ac.qh _ k m (λb o=>by simp at o;omega))⟩
 |len k=>
  obtain⟨n,i,p,rfl,q,rfl,r,s,t,u,x,y,z⟩:=h.at_ c.1;have e1:¬gp=w.heap.size:=by omega
  have A:¬i=w.heap.size:=by omega
  show Calls _ _ _ _ (Dr w (JK++Cb++Bu l (n:Int)));generalize Bu l (n:Int)=nm at*;have B:=B7 (P:=prog) (a:=⟨#[108,101,110,32]⟩) (b:=⟨nm.toArray⟩) (by simp only[Ay,Af,Ak];omega);clear h d c;unfold DB Ff C4 vs at*;go_enter gL,Zx;go_wp2;go_region;go_wp2;go_ret;exact⟨by rw[BI];rfl,(g.out _).drew⟩
 |var k=>
  obtain⟨n,i,p,rfl,q,rfl,r,s,t,u,x,y,z⟩:=h.at_ c.1;have e1:¬gp=w.heap.size:=by omega
  have A:¬i=w.heap.size:=by omega
  show Calls _ _ _ _ (Dr w (Bu l (n:Int)));generalize Bu l (n:Int)=nm at*;clear h d c;unfold DB Ff C4 vs at*;go_enter gL,Zx;go_wp2;go_region;go_wp2;go_ret;exact⟨rfl,(g.out _).drew⟩
 |aD=>
  clear h d c;show Calls _ _ _ _ (Dr w Cx);unfold DB Ff C4 vs at*;go_enter gL,Zx;go_wp2;go_ret;exact⟨rfl,g.out _⟩
theorem Qs (c:C3):∃d n1 e n3,Bt c=[vs (Cj c.k),.int .i64 (Bs c.k),vs d,.int .i64 n1,vs e,.int .i64 n3,.bool (Dn c.bI)]/\MN c.k=[vs d,.int .i64 n1,vs e,.int .i64 n3]:=by
 obtain⟨d,n1,e,n3,g⟩:∃d n1 e n3,MN c.k=[vs d,.int .i64 n1,vs e,.int .i64 n3]:=by
  cases c.k with
  |less a b=>exact⟨_,_,_,_,rfl⟩
  |_=>exact⟨_,_,_,_,rfl⟩
 exact⟨d,n1,e,n3,by unfold Bt;rw[g];rfl,g⟩
theorem Yn {u v:Ah}(h:vs u=vs v):u=v:=by unfold vs at h;injection h with h;have a:=AG (λb:ByteArray=>b.data.toList) h;simpa using a
def WQ (b:Ah) (n:Int):Qw:=if b=Bv then .num n else if b=JK then .len n else if b=Cx then .aD else .var n
theorem cu {v:Qw}{b:Ah}{n:Int}(a:Ff v=b) (c:C4 v=n):WQ b n=v:=by subst a c;cases v<;>rfl
def Oc (c:C3):Ah:=if c.bI%2=1 then KU++Cb else []
theorem jQ (h:ZA w gp vd vm f l) (c:C3) (i:ZE l c.k):Calls prog 114 #[.pointer (some ⟨gp,0,none⟩),.agg (Bt c).toArray] w (Dr w (DE l c)):=by
 have V:=λcs=>(Ac.refl (λb=>w.heap.size<=b) w).alloc (Ab _) (.cells cs 201);have T:=Aa V;have L:DE l c=Oc c++Jg l c.k:=rfl;have s:Oc c=if Dn c.bI then KU++Cb else []:=by unfold Oc Dn;by_cases hn:c.bI%2=1<;>simp[hn]
 have bo:(Oc c).length<=4:=by rw[s];split<;>simp[Cb]
 obtain⟨p,n1,q,n3,U,E⟩:=Qs c;rw[U,L];clear U L;have d:∀(k:Int) (r:Ah),Cj c.k=r->(r=E4\/r=DJ\/r=E3)->Bs c.k=k->Ix l.length k->Jg l c.k=r++Cb++Bu l k->
   Calls prog 114 #[.pointer (some ⟨gp,0,none⟩),.agg #[vs (Cj c.k),.int .i64 (Bs c.k),vs p,.int .i64 n1,vs q,.int .i64 n3,.bool (Dn c.bI)]] w (Dr w (Oc c++Jg l c.k)):=by
  intro k r e1 F e2 M e3;rw[e1,e2,e3];obtain⟨n,gd,cd,rfl,hn,rfl,q1,q2,q3,q4,d0,d1,hl⟩:=h.at_ M;have f1:¬gp=w.heap.size:=by omega
  have f2:¬gd=w.heap.size:=by omega
  generalize Bu l (n:Int)=nm at*;generalize Oc c=j at*;generalize Dn c.bI=K at*;have bq:r.length<=5:=by rcases F with rfl|rfl|rfl<;>simp
  have N:(((⟨j.toArray⟩:ByteArray)++⟨r.toArray⟩)++⟨#[32]⟩)++⟨nm.toArray⟩=⟨(j++(r++Cb++nm)).toArray⟩:=by rw[BI,BI,BI];simp[Cb]
  have s1:=B7 (P:=prog) (a:=⟨j.toArray⟩) (b:=⟨r.toArray⟩) (by simp only[Ay];omega);have s2:=B7 (P:=prog) (a:=⟨j.toArray⟩++⟨r.toArray⟩) (b:=⟨#[32]⟩) (by simp only[Ag,Ay,Af,Ak];omega);have s3:=B7 (P:=prog) (a:=⟨j.toArray⟩++⟨r.toArray⟩++⟨#[32]⟩) (b:=⟨nm.toArray⟩) (by simp only[Ag,Ay,Af,Ak];omega);have O:=Aa N;clear N V h E e1 e2 e3 i M;unfold vs at*;cases K with
  |false=>
   obtain rfl:j=[]:=s;rcases F with rfl|rfl|rfl
   all_goals
    go_enter gM,Zy;go_wp2;go_region;go_wp2;go_ret;exact⟨AG (λx=>Ending.returned (.string x)) O.out,(T.out _).drew⟩
  |true=>
   obtain rfl:j=[110,111,116,32]:=s;rcases F with rfl|rfl|rfl
   all_goals
    go_enter gM,Zy;go_wp2;go_region;go_wp2;go_ret;exact⟨AG (λx=>Ending.returned (.string x)) O.out,(T.out _).drew⟩
 cases t:c.k with
 |full k=>rw[t]at d i;exact d k E4 rfl (.inl rfl) rfl i.1 rfl
 |empty k=>rw[t]at d i;exact d k DJ rfl (.inr (.inl rfl)) rfl i.1 rfl
 |eU k=>rw[t]at d i;exact d k E3 rfl (.inr (.inr rfl)) rfl i.1 rfl
 |less a b=>
  rw[t]at i E;have g:vs (Ff a)=vs p/\Value.int .i64 (C4 a)= .int .i64 n1/\vs (Ff b)=vs q/\Value.int .i64 (C4 b)= .int .i64 n3:=by unfold MN DB at E;simpa only[Bx,CS,IN,and_true]using E
  have A:WQ p n1=a:=cu (Yn g.1) (by have:=g.2.1;injection this);have B:WQ q n3=b:=cu (Yn g.2.2.1) (by have:=g.2.2.2;injection this);have la:=IQ h.dw i.1;have lb:=IQ h.dw i.2;rw[←A]at la;rw[←B]at lb;have Q:∀W (_:Ac (λb=>w.heap.size<=b) w W) (cs:List Value) (_:AE W w.heap.size 201 cs) (o:Ah) (m:Int),(o=p/\m=n1)\/(o=q/\m=n3)->
    Calls prog 132 #[.pointer (some ⟨gp,0,none⟩),.agg #[vs o,.int .i64 m]] W (λy w'=>y= .returned (vs (Ef l (WQ o m)))/\Ac (λb=>w.heap.size<=b) w w'/\AE w' w.heap.size 201 cs):=by
   intro W X cs hr o m Y;have u:∀v,V2 l v->DB v=[vs o,.int .i64 m]->WQ o m=v->Calls prog 132 #[.pointer (some ⟨gp,0,none⟩),.agg #[vs o,.int .i64 m]] W (λy w'=>y= .returned (vs (Ef l (WQ o m)))/\Ac (λb=>w.heap.size<=b) w w'/\AE w' w.heap.size 201 cs):=by intro v E U hd;have i:=og (h.later X) v E;rw[U]at i;refine i.mono ?_;rintro y w' ⟨h1,h2⟩;rw[hd];exact⟨h1,X.trans (h2.mono (λb hb=>Ad X.size hb)),hr.kept h2 (λe=>by have:=hr.lt;omega)⟩
   rcases Y with⟨rfl,rfl⟩|⟨rfl,rfl⟩
   ·exact u a i.1 (by show [vs (Ff a),.int .i64 (C4 a)]=_;rw[g.1,g.2.1]) A
   ·exact u b i.2 (by show [vs (Ff b),.int .i64 (C4 b)]=_;rw[g.2.2.1,g.2.2.2]) B
  have R:Oc c++Jg l (.less a b)=Oc c++(Ef l (WQ p n1)++[32,60,32]++Ef l (WQ q n3)):=by rw[A,B];rfl
  rw[R];show Calls _ _ #[.pointer (some ⟨gp,0,none⟩),.agg #[vs IV,.int .i64 0,vs p,.int .i64 n1,vs q,.int .i64 n3,.bool (Dn c.bI)]] w _;generalize Oc c=j at*;generalize Dn c.bI=K at*;clear R g A B i E d h;generalize S:(λo m=>Ef l (WQ o m))=C at*;have e1:∀o m,Ef l (WQ o m)=C o m:=λo m=>by rw[←S]
  simp only[e1]at*;clear e1 S t;have N:(((⟨j.toArray⟩:ByteArray)++⟨(C p n1).toArray⟩)++⟨#[32,60,32]⟩)++⟨(C q n3).toArray⟩=⟨(j++(C p n1++[32,60,32]++C q n3)).toArray⟩:=by rw[BI,BI,BI];simp
  have s1:=B7 (P:=prog) (a:=⟨j.toArray⟩) (b:=⟨(C p n1).toArray⟩) (by simp only[Ay];omega);have s2:=B7 (P:=prog) (a:=⟨j.toArray⟩++⟨(C p n1).toArray⟩) (b:=⟨#[32,60,32]⟩) (by simp only[Ag,Ay,Af,Ak];omega);have s3:=B7 (P:=prog) (a:=⟨j.toArray⟩++⟨(C p n1).toArray⟩++⟨#[32,60,32]⟩) (b:=⟨(C q n3).toArray⟩) (by simp only[Ag,Ay,Af,Ak];omega);obtain⟨O,D⟩:=zq2 N Q;have r0:AE (w.alloc (.cells #[vs IV,.int .i64 0,vs p,.int .i64 n1,vs q,.int .i64 n3,.bool K] 201)).drew w.heap.size 201 [vs IV,.int .i64 0,vs p,.int .i64 n1,vs q,.int .i64 n3,.bool K]:=(AE.new w 201 _).drew;obtain⟨R0,KD⟩:=zq2 r0 ((T.out #[vs IV,.int .i64 0,vs p,.int .i64 n1,vs q,.int .i64 n3,.bool K]).drew);clear N Q V r0 T;unfold vs at*;cases K with
  |false=>
   obtain rfl:j=[]:=s;go_enter gM,Zy;go_wp2_with fail
   go_region_law (first
    |(go_simp;go_at_call 132;refine(D.out _ Z _ z _ _ ?_).mono ?_;(first|exact .inl ⟨rfl,rfl⟩|exact .inr ⟨rfl,rfl⟩);rintro y w3 ⟨rfl,kb,rb⟩)
    |(go_simp;go_at_call 132;refine(D.out _ KD.out _ R0.out _ _ ?_).mono ?_;(first|exact .inl ⟨rfl,rfl⟩|exact .inr ⟨rfl,rfl⟩);rintro y w2 ⟨rfl,Z,z⟩;have G:=z.cell 2;have H:=z.cell 3;have I:=z.cell 4;have J:=z.cell 5;simp at G H I J))
   all_goals go_wp2
   all_goals go_ret
   all_goals exact⟨AG (λx=>Ending.returned (.string x)) O.out,kb⟩
  |true=>
   obtain rfl:j=[110,111,116,32]:=s;go_enter gM,Zy;go_wp2_with fail
   go_region_law (first
    |(go_simp;go_at_call 132;refine(D.out _ Z _ z _ _ ?_).mono ?_;(first|exact .inl ⟨rfl,rfl⟩|exact .inr ⟨rfl,rfl⟩);rintro y w3 ⟨rfl,kb,rb⟩)
    |(go_simp;go_at_call 132;refine(D.out _ KD.out _ R0.out _ _ ?_).mono ?_;(first|exact .inl ⟨rfl,rfl⟩|exact .inr ⟨rfl,rfl⟩);rintro y w2 ⟨rfl,Z,z⟩;have G:=z.cell 2;have H:=z.cell 3;have I:=z.cell 4;have J:=z.cell 5;simp at G H I J))
   all_goals go_wp2
   all_goals go_ret
   all_goals exact⟨AG (λx=>Ending.returned (.string x)) O.out,kb⟩
end
def Mg:Nat->Prop:=λ_=>True
def wP (m:Nat):Prop:=∀(w:World) (gp:Nat) (a c:Value) (f:Int) (l:List Bi) (x:Az) (cs:List Value) (s:Ah),ZA w gp a c f l->x.length=1->x.size<=m->x.size<=1000->D9 l x->A1 Mg w x cs->AT l x=Cb++s->
  Calls prog 84 #[.pointer (some ⟨gp,0,none⟩),.agg cs.toArray] w (Dr w s)
def mt (m:Nat):Prop:=∀(w:World) (gp:Nat) (a c:Value) (f:Int) (l:List Bi) (b:Az) (v:Value),ZA w gp a c f l->b.size<=m->b.size<=1000->D9 l b->DD Mg w v b->
  Calls prog 50 #[.pointer (some ⟨gp,0,none⟩),v] w (Dr w (BU l b))
theorem Tv {N:Nat->Prop}{w w':World}(a:Ac (λb=>w.heap.size<=b) w w') {b:Az}{cs:List Value}(h:A1 N w b cs):A1 N w' b cs:=
 A1.kept (λk _ _ c=>a.block k (λd=>by have:=c.lt;omega)) b cs h
theorem Ya {N:Nat->Prop}{w w':World}(a:Ac (λb=>w.heap.size<=b) w w') {b:Az}{v:Value}(h:DD N w v b):DD N w' v b:=by obtain⟨cs,c,d⟩:=h;exact⟨cs,c.kept (λk _ _ e=>a.block k (λf=>by have:=e.lt;omega)),Tv a d⟩
theorem Z2 (l:List Bi):∀(x:Az),x.length=1->∃s,AT l x=Cb++s
 | .nil,h=>by cases h
 | .bG p r,_=>⟨_,by rw[AT,AK]⟩
 | .ite c t o e r,_=>⟨_,by rw[AT,AK]⟩
 | .rep n c b r,_=>⟨_,by rw[AT,AK]⟩
structure V4 (w0:World) (b:Az) (cs:List Value) (k:Nat) (wr:World) (done rest:Az) (aD ba:List Value):Prop where
 eq:b=done.app rest
 cs:cs=aD++ba
 mS:aD.length=k*13
 k:k+rest.length=b.length
 sz:done.size+rest.size=b.size
 nc:A1 Mg w0 rest ba
 kept:Ac (λb=>w0.heap.size<=b) w0 wr
section
variable {w0 wr:World}{k:Nat}{b done rest:Az}{cs aD ba:List Value}
theorem V4.next {g d:Nat}(h:V4 w0 b cs k wr done rest aD ba) (e:Sl Mg w0 203 13 (.slice (some ⟨g,0,none⟩) b.length d) b.length cs) (z:k<b.length):
  ∃x tl a c,rest=x.app tl/\x.length=1/\ba=a++c/\StF a/\A1 Mg w0 x a/\A1 Mg w0 tl c/\rest.length=tl.length+1/\x.size+tl.size=rest.size/\
   (∀j,j<13->wr.cell? ⟨g,k*13+j,none⟩=a[j]?)/\g<wr.heap.size:=by
 have f:rest≠.nil:=by rintro rfl;have:=h.k;simp[Az.length]at this;omega
 obtain⟨x,tl,a,c,e1,n,i,l,o,q,r,s⟩:=A1.part rest ba f h.nc;have m:a.length=13:=by obtain⟨_,_,_,_,_,_,_,_,_,_,_,_,_,_,_,_,_,rfl⟩:=l;rfl
 refine⟨x,tl,a,c,e1,n,i,l,o,q,r,s,λj A=>?_,An (e.lt rfl) h.kept.size⟩;have t:k*13+j<b.length*13:=by omega
 have u:=e.1.cellAt _ t;have v:cs[k*13+j]?=a[j]?:=by rw[h.cs,i,BE (by rw[h.mS];omega),h.mS,B6,AV (by omega)]
 have w:=e.lt (g:=g) rfl;exact((h.kept.cell (p:=⟨g,k*13+j,none⟩) (λy=>by simp only at y;omega)).trans u).trans v
theorem V4.step {x tl:Az}{a c:List Value}{w':World}(h:V4 w0 b cs k wr done rest aD ba) (e1:rest=x.app tl) (d:ba=a++c) (e:a.length=13) (f:A1 Mg w0 tl c)
  (j:rest.length=tl.length+1) (l:x.size+tl.size=rest.size) (g:Ac (λb=>wr.heap.size<=b) wr w'):V4 w0 b cs (k+1) w' (done.app x) tl (aD++a) c:=
 ⟨by rw[h.eq,e1,Ia],by rw[h.cs,d,AK],by rw[Ao,h.mS,e];omega,by have:=h.k;omega,by rw[JD];have:=h.sz;omega,f,h.kept.trans (g.mono (λb i=>Ad h.kept.size i))⟩
end
theorem UZ {m:Nat}(J:wP m):mt m:=by
 intro w gp vd vm f l b v h K q X L;obtain⟨cs,⟨hs,g,dr,rfl⟩,B⟩:=L;have M:V4 w b cs 0 w .nil b [] cs:=⟨by simp[Az.app],by simp,by simp,by omega,by simp[Az.size],B,Ac.refl _ _⟩;have dt:b.length<=1000:=by
  have:∀b:Az,b.length<=b.size:=by
   intro b
   induction b with
   |nil=>simp[Az.length]
   |bG p r ih=>simp[Az.length,Az.size];omega
   |ite c t o e r _ _ ih=>simp[Az.length,Az.size];omega
   |rep n c b r _ ih=>simp[Az.length,Az.size];omega
  have:=this b;omega
 have N:∀d r:Az,b=d.app r->(Cw++AT l d).length<=200000:=by intro d r e;rw[e,N9]at X;rw[e,JD]at q;have:=Eg h.dw d X.1;simp only[Ao,Af,Ak];omega
 obtain⟨Z,H,be,bf,bg,O,HW,Q⟩:=zq8 J h hs M K q X N;clear J h hs M B K q X N;go_enter func50,ntmps50;go_wp2_with fail
 go_loopg [10,5] b.length (λbh bi s5 wr=>∃k done rest aD ba,k<=b.length/\b.length-k<=bh/\bi= .int .i64 (k:Nat)/\s5= .string ⟨(Cw++AT l done).toArray⟩/\V4 w b cs k wr done rest aD ba)
 case atStart=>exact⟨0,.nil,b,[],cs,AQ _,by omega,rfl,rfl,bf.out⟩
 case round=>
  obtain⟨k,done,rest,aD,ba,dz,hg,rfl,rfl,y⟩:=hrel;have R:=Q.out done rest y.eq;by_cases bj:k<b.length
  ·obtain⟨x,tl,bn,dA,e1,e2,e3,e4,e5,e6,e7,e8,j,dB⟩:=y.next be.out bj;have C:bn.length=13:=by obtain⟨_,_,_,_,_,_,_,_,_,_,_,_,_,_,_,_,_,rfl⟩:=id e4;rfl
   have z:=Q.out (done.app x) tl (by rw[y.eq,e1,Ia]);rw[Fs]at z;obtain⟨I,A⟩:=Z2 l x e2;rw[A]at z;have E:=HW.out;rw[y.eq,e1,N9,N9]at E;have s:=Aa (And.intro e1 (And.intro e2 (And.intro e3 (And.intro C (And.intro e5 (And.intro e6 (And.intro e7 (And.intro e8 E.2.1))))))));obtain⟨k_,n_,m_,t_,bp,bq,br,bt,bu,bx,o_,bz,bC,bD,bE,bF,bH,rfl⟩:=e4;have x0:=j 0 (by omega);have x1:=j 1 (by omega);have x2:=j 2 (by omega);have x3:=j 3 (by omega);have x4:=j 4 (by omega);have x5:=j 5 (by omega);have x6:=j 6 (by omega);have x7:=j 7 (by omega);have x8:=j 8 (by omega);have x9:=j 9 (by omega);have bI:=j 10 (by omega);have cy:=j 11 (by omega);have cz:=j 12 (by omega);obtain⟨T,cD⟩:=zq2 y A;have U:Cw++AT l (done.app x)=(Cw++AT l done)++(Cb++I):=by rw[Fs,A,AK]
   simp only[Ao,Af,Ak]at z;generalize hS:Cw++AT l done=S at*;have cL:I.length<=200000:=by omega
   have s1:=B7 (P:=prog) (a:=⟨#[32]⟩) (b:=⟨I.toArray⟩) (by simp only[Ay,Af,Ak];omega);have s2:=B7 (P:=prog) (a:=⟨S.toArray⟩) (b:=⟨#[32]⟩++⟨I.toArray⟩) (by simp only[Ag,Ay,Af,Ak];omega);have i:(⟨S.toArray⟩:ByteArray)++(⟨#[32]⟩++⟨I.toArray⟩)=⟨(Cw++AT l (done.app x)).toArray⟩:=by rw[U,BI,BI];rfl
   have V:=Aa i;clear y j e1 e2 e3 e5 e6 e7 e8 C A U i hS E z cL R;unfold vs at*;simp only[BL,AI,Mi]at x0 x1 x2 x3 x4 x5 x6 x7 x8 x9 bI cy cz;go_wp2_with fail;have Y:Ac (λb=>wr.heap.size<=b) wr (wr.alloc (.cells #[.string ⟨k_.toArray⟩,.int .i64 n_,.int .i64 m_,.bool t_,.string ⟨bp.toArray⟩,.int .i64 bq,.string ⟨br.toArray⟩,.int .i64 bt,.string ⟨bu.toArray⟩,.int .i64 bx,.bool o_,.slice bz bC bD,.slice bE bF bH] 203)):=(Ac.refl _ wr).alloc (Ab _) _;have G:Ac (λb=>w.heap.size<=b) w _:=T.out.kept.trans (Y.mono (λb L=>Ad T.out.kept.size L));refine(Z.out _ gp vd vm f l x _ I (H.out.later G) s.out.2.1 (by have:=T.out.sz;have:=s.out.2.2.2.2.2.2.2.1;have:=bg.out;omega) (by have:=T.out.sz;have:=s.out.2.2.2.2.2.2.2.1;have:=O.out;omega) s.out.2.2.2.2.2.2.2.2 (Tv G s.out.2.2.2.2.1) cD.out).mono ?_;rintro e w2 ⟨rfl,W⟩;have F:=Aa (T.out.step s.out.1 s.out.2.2.1 s.out.2.2.2.1 s.out.2.2.2.2.2.1 s.out.2.2.2.2.2.2.1 s.out.2.2.2.2.2.2.2.1 (Y.trans (W.mono (λb L=>Ad Y.size L))));clear Y G W;go_wp2;go_roundg (b.length-(k+1))
   case measure=>omega
   case rel=>exact⟨k+1,_,_,_,_,by omega,by omega,by go_num,AG Value.string V.out,F.out⟩
  ·have D:rest= .nil:=by
    have:=y.k;cases rest with
    |nil=>rfl
    |bG p r=>simp[Az.length]at this;omega
    |ite c t o e r=>simp[Az.length]at this;omega
    |rep n c b r=>simp[Az.length]at this;omega
   have u:b=done:=by rw[y.eq,D];exact NW done
   have i:BU l b=(Cw++AT l done)++[32,125]:=by rw[u];simp[BU,Cb]
   have F:=Aa y.kept;generalize Cw++AT l done=S at*;have cW:=Aa i;have s1:=B7 (P:=prog) (a:=⟨S.toArray⟩) (b:=⟨#[32,125]⟩) (by simp only[Ay,Af,Ak];omega);clear y D u i;go_wp2;go_ret;exact⟨by rw[cW.out];exact AG (λx=>Ending.returned (.string x)) (BI _ _),F.out⟩
def Dc (t:Bool):Ah:=if t then [32,116,97,105,108]else []
theorem Re (t:Bool):Jf t=Dc t:=by cases t<;>rfl
section
variable {w:World}{gp:Nat}{vd vm:Value}{f:Int}{l:List Bi}
theorem Rf (h:ZA w gp vd vm f l) (c:Ah) (d:c=Kx\/c=Ep\/c=Ig\/c=Mb\/c=Mc) {k:Int}(o:Ix l.length k) (tl:Bool):
  Calls prog 84 #[.pointer (some ⟨gp,0,none⟩),.agg ([vs c,.int .i64 k,.int .i64 0,.bool tl]++ME++[A4,A4]).toArray] w (Dr w (c++Cb++Bu l k++Dc tl++AN)):=by
 have p:=λcs=>(Ac.refl (λb=>w.heap.size<=b) w).alloc (Ab _) (.cells cs 203);have q:=Aa p;obtain⟨n,s,t,rfl,u,rfl,v,y,z,A,B,C,D⟩:=h.at_ o;have E:¬gp=w.heap.size:=by omega
 have F:¬s=w.heap.size:=by omega
 generalize Bu l (n:Int)=nm at*;have j:c.length<=5:=by rcases d with rfl|rfl|rfl|rfl|rfl<;>simp
 have m:(Dc tl).length<=5:=by cases tl<;>simp[Dc]
 have G:=B7 (P:=prog) (a:=⟨c.toArray⟩) (b:=⟨#[32]⟩) (by simp only[Ay,Af,Ak];omega);have H:=B7 (P:=prog) (a:=⟨c.toArray⟩++⟨#[32]⟩) (b:=⟨nm.toArray⟩) (by simp only[Ag,Ay,Af,Ak];omega);have e:=B7 (P:=prog) (a:=⟨c.toArray⟩++⟨#[32]⟩++⟨nm.toArray⟩) (b:=⟨(Dc tl).toArray⟩) (by simp only[Ag,Ay,Af,Ak];omega);have g:=B7 (P:=prog) (a:=⟨c.toArray⟩++⟨#[32]⟩++⟨nm.toArray⟩++⟨(Dc tl).toArray⟩) (b:=⟨#[59]⟩) (by simp only[Ag,Ay,Af,Ak];omega);have r:(⟨c.toArray⟩:ByteArray)++⟨#[32]⟩++⟨nm.toArray⟩++⟨(Dc tl).toArray⟩++⟨#[59]⟩=⟨(c++Cb++nm++Dc tl++AN).toArray⟩:=by rw[BI,BI,BI,BI];rfl
 have i:=Aa r;clear r p h o m j;unfold ME A4 vs at*;cases tl with
 |false=>
  unfold Dc at e g i;rw[Ai AY]at e g;rcases d with rfl|rfl|rfl|rfl|rfl
  all_goals
   go_enter LB,J2;go_wp2;go_region;go_wp2;go_ret;exact⟨AG (λx=>Ending.returned (.string x)) i.out,(q.out _).drew⟩
 |true=>
  unfold Dc at e g i;rw[Al rfl]at e g;rcases d with rfl|rfl|rfl|rfl|rfl
  all_goals
   go_enter LB,J2;go_wp2;go_region;go_wp2;go_ret;exact⟨AG (λx=>Ending.returned (.string x)) i.out,(q.out _).drew⟩
theorem ZZ (c:Ah) (d:c=IW\/c=IX):
  Calls prog 84 #[.pointer (some ⟨gp,0,none⟩),.agg ([vs c,.int .i64 0,.int .i64 0,.bool false]++ME++[A4,A4]).toArray] w (Dr w (c++AN)):=by
 have g:=λcs=>(Ac.refl (λb=>w.heap.size<=b) w).alloc (Ab _) (.cells cs 203);have i:=Aa g;have e:c.length<=5:=by rcases d with rfl|rfl<;>simp
 have k:=B7 (P:=prog) (a:=⟨c.toArray⟩) (b:=⟨#[59]⟩) (by simp only[Ay,Af,Ak];omega);have h:(⟨c.toArray⟩:ByteArray)++⟨#[59]⟩=⟨(c++AN).toArray⟩:=by rw[BI]
 have j:=Aa h;clear h g e;unfold ME A4 vs at*;rcases d with rfl|rfl
 all_goals
  go_enter LB,J2;go_wp2;go_ret;exact⟨AG (λx=>Ending.returned (.string x)) j.out,i.out _⟩
theorem jP (h:ZA w gp vd vm f l) {k j:Int}(p:Ix l.length k) (q:Ix l.length j) (tl:Bool):
  Calls prog 84 #[.pointer (some ⟨gp,0,none⟩),.agg ([vs Do,.int .i64 k,.int .i64 j,.bool tl]++ME++[A4,A4]).toArray] w (Dr w (Do++Cb++Bu l k++Cb++Bu l j++Dc tl++AN)):=by
 have r:=λcs=>(Ac.refl (λb=>w.heap.size<=b) w).alloc (Ab _) (.cells cs 203);have s:=Aa r;obtain⟨n,u,D,rfl,E,m,F,G,H,I,J,K,L⟩:=h.at_ p;obtain⟨v,y,z,rfl,A,d,_,_,_,_,_,M,B⟩:=h.at_ q;subst m;injection d with e1 _ C;injection e1 with e1;injection e1 with e1;subst e1 C;have N:¬gp=w.heap.size:=by omega
 have O:¬u=w.heap.size:=by omega
 generalize Bu l (n:Int)=nm at*;generalize Bu l (v:Int)=c at*;have o:(Dc tl).length<=5:=by cases tl<;>simp[Dc]
 have Q:=B7 (P:=prog) (a:=⟨#[115,104,105,102,116,32]⟩) (b:=⟨nm.toArray⟩) (by simp only[Ay,Af,Ak];omega);have R:=B7 (P:=prog) (a:=⟨#[115,104,105,102,116,32]⟩++⟨nm.toArray⟩) (b:=⟨#[32]⟩) (by simp only[Ag,Ay,Af,Ak];omega);have S:=B7 (P:=prog) (a:=⟨#[115,104,105,102,116,32]⟩++⟨nm.toArray⟩++⟨#[32]⟩) (b:=⟨c.toArray⟩) (by simp only[Ag,Ay,Af,Ak];omega);have e:=B7 (P:=prog) (a:=⟨#[115,104,105,102,116,32]⟩++⟨nm.toArray⟩++⟨#[32]⟩++⟨c.toArray⟩) (b:=⟨(Dc tl).toArray⟩) (by simp only[Ag,Ay,Af,Ak];omega);have g:=B7 (P:=prog) (a:=⟨#[115,104,105,102,116,32]⟩++⟨nm.toArray⟩++⟨#[32]⟩++⟨c.toArray⟩++⟨(Dc tl).toArray⟩) (b:=⟨#[59]⟩) (by simp only[Ag,Ay,Af,Ak];omega);have t:(⟨#[115,104,105,102,116,32]⟩:ByteArray)++⟨nm.toArray⟩++⟨#[32]⟩++⟨c.toArray⟩++⟨(Dc tl).toArray⟩++⟨#[59]⟩=⟨(Do++Cb++nm++Cb++c++Dc tl++AN).toArray⟩:=by rw[BI,BI,BI,BI,BI];simp[Cb]
 have i:=Aa t;clear t r h p q o;unfold ME A4 vs at*;cases tl with
 |false=>
  unfold Dc at e g i;rw[Ai AY]at e g;go_enter LB,J2;go_wp2;go_region;go_wp2;go_ret;exact⟨AG (λx=>Ending.returned (.string x)) i.out,(s.out _).drew⟩
 |true=>
  unfold Dc at e g i;rw[Al rfl]at e g;go_enter LB,J2;go_wp2;go_region;go_wp2;go_ret;exact⟨AG (λx=>Ending.returned (.string x)) i.out,(s.out _).drew⟩
end
section
variable {w:World}{gp:Nat}{vd vm:Value}{f:Int}{l:List Bi}{m:Nat}
theorem Xt (h:ZA w gp vd vm f l) (c:C3) (i:ZE l c.k) (cs:List Value):∀W,Ac (λb=>w.heap.size<=b) w W->AE W w.heap.size 203 cs->
  Calls prog 114 #[.pointer (some ⟨gp,0,none⟩),.agg (Bt c).toArray] W λy w'=>y= .returned (vs (DE l c))/\Ac (λb=>w.heap.size<=b) w w'/\AE w' w.heap.size 203 cs:=λW a d=>by
 refine(jQ (h.later a) c i).mono ?_;rintro y w' ⟨j,g⟩;exact⟨j,a.trans (g.mono (λb n=>Ad a.size n)),d.kept g (λe=>by have:=d.lt;omega)⟩
theorem U0 (j:mt m) (h:ZA w gp vd vm f l) {b:Az}{v:Value}(k:b.size<=m) (c:b.size<=1000) (n:D9 l b) (d:DD Mg w v b) (cs:List Value):∀W,Ac (λb=>w.heap.size<=b) w W->AE W w.heap.size 203 cs->
  Calls prog 50 #[.pointer (some ⟨gp,0,none⟩),v] W λy w'=>y= .returned (vs (BU l b))/\Ac (λb=>w.heap.size<=b) w w'/\AE w' w.heap.size 203 cs:=λW a g=>by
 refine(j W gp vd vm f l b v (h.later a) k c n (Ya a d)).mono ?_;rintro y w' ⟨o,i⟩;exact⟨o,a.trans (i.mono (λb d=>Ad a.size d)),g.kept i (λe=>by have:=g.lt;omega)⟩
theorem zA (hB:mt m) (h:ZA w gp vd vm f l) {c:C3}(hc:ZE l c.k) {t e:Az}{vt ve:Value}{o:Bool}(ht:DD Mg w vt t) (T:if o then DD Mg w ve e else ve=A4) (bo:t.size<=m) (bp:e.size<=m) (cy:t.size+e.size<=1000) (v:D9 l t) (z:D9 l e):
  Calls prog 84 #[.pointer (some ⟨gp,0,none⟩),.agg (LT c vt ve).toArray] w (Dr w (Ja++Cb++DE l c++Cb++BU l t++(if o then Cb++Dl++Cb++BU l e else []))):=by
 have U:=λcs=>(Ac.refl (λb=>w.heap.size<=b) w).alloc (Ab _) (.cells cs 203);obtain⟨F,n1,G,n3,A,_⟩:=Qs c;obtain⟨B,C,rfl⟩:∃g c,vt= .slice (some ⟨g,0,none⟩) t.length c:=by obtain⟨_,h1,_⟩:=ht;exact h1.2
 have lc:=Hs h.dw hc;have lt:=El h.dw v;have le:=El h.dw z;have q:LT c (.slice (some ⟨B,0,none⟩) t.length C) ve=[vs Ja,.int .i64 0,.int .i64 0,.bool false,vs (Cj c.k),.int .i64 (Bs c.k),vs F,.int .i64 n1,vs G,.int .i64 n3,.bool (Dn c.bI),.slice (some ⟨B,0,none⟩) t.length C,ve]:=by unfold LT;rw[A];rfl
 have hC:=Xt h c hc [vs Ja,.int .i64 0,.int .i64 0,.bool false,vs (Cj c.k),.int .i64 (Bs c.k),vs F,.int .i64 n1,vs G,.int .i64 n3,.bool (Dn c.bI),.slice (some ⟨B,0,none⟩) t.length C,ve];have hT:=U0 hB h bo (by omega) v ht [vs Ja,.int .i64 0,.int .i64 0,.bool false,vs (Cj c.k),.int .i64 (Bs c.k),vs F,.int .i64 n1,vs G,.int .i64 n3,.bool (Dn c.bI),.slice (some ⟨B,0,none⟩) t.length C,ve];rw[q];rw[A]at hC;generalize V:DE l c=u at*;generalize W:BU l t=H at*;have s1:=B7 (P:=prog) (a:=⟨#[105,102,32]⟩) (b:=⟨u.toArray⟩) (by simp only[Ay,Af,Ak];omega);have s2:=B7 (P:=prog) (a:=⟨#[105,102,32]⟩++⟨u.toArray⟩) (b:=⟨#[32]⟩) (by simp only[Ag,Ay,Af,Ak];omega);have s3:=B7 (P:=prog) (a:=⟨#[105,102,32]⟩++⟨u.toArray⟩++⟨#[32]⟩) (b:=⟨H.toArray⟩) (by simp only[Ag,Ay,Af,Ak];omega);have D:(⟨#[105,102,32]⟩:ByteArray)++⟨u.toArray⟩++⟨#[32]⟩++⟨H.toArray⟩=⟨(Ja++Cb++u++Cb++H).toArray⟩:=by rw[BI,BI,BI];simp[Cb]
 obtain⟨K0,HC,E,X⟩:=zq4 U hC hT D;cases o with
 |true=>
  rw[Al rfl]at T;obtain⟨ge,ce,rfl⟩:∃g c,ve= .slice (some ⟨g,0,none⟩) e.length c:=by obtain⟨_,h1,_⟩:=T;exact h1.2
  have hE:=U0 hB h bp (by omega) z T [vs Ja,.int .i64 0,.int .i64 0,.bool false,vs (Cj c.k),.int .i64 (Bs c.k),vs F,.int .i64 n1,vs G,.int .i64 n3,.bool (Dn c.bI),.slice (some ⟨B,0,none⟩) t.length C,.slice (some ⟨ge,0,none⟩) e.length ce];generalize Y:BU l e=se at*;have s4:=B7 (P:=prog) (a:=⟨#[32,101,108,115,101,32]⟩) (b:=⟨se.toArray⟩) (by simp only[Ay,Af,Ak];omega);have s5:=B7 (P:=prog) (a:=⟨#[105,102,32]⟩++⟨u.toArray⟩++⟨#[32]⟩++⟨H.toArray⟩) (b:=⟨#[32,101,108,115,101,32]⟩++⟨se.toArray⟩) (by simp only[Ag,Ay,Af,Ak];omega);have r:(⟨#[105,102,32]⟩:ByteArray)++⟨u.toArray⟩++⟨#[32]⟩++⟨H.toArray⟩++(⟨#[32,101,108,115,101,32]⟩++⟨se.toArray⟩)=⟨(Ja++Cb++u++Cb++H++(Cb++Dl++Cb++se)).toArray⟩:=by rw[BI,BI,BI,BI,BI];simp[Cb]
  obtain⟨HE,I⟩:=zq2 hE r;have Z:AE (w.alloc (.cells #[vs Ja,.int .i64 0,.int .i64 0,.bool false,vs (Cj c.k),.int .i64 (Bs c.k),vs F,.int .i64 n1,vs G,.int .i64 n3,.bool (Dn c.bI),.slice (some ⟨B,0,none⟩) t.length C,.slice (some ⟨ge,0,none⟩) e.length ce] 203)).drew w.heap.size 203 _:=(AE.new w 203 _).drew;obtain⟨R0,KD⟩:=zq2 Z ((U #[vs Ja,.int .i64 0,.int .i64 0,.bool false,vs (Cj c.k),.int .i64 (Bs c.k),vs F,.int .i64 n1,vs G,.int .i64 n3,.bool (Dn c.bI),.slice (some ⟨B,0,none⟩) t.length C,.slice (some ⟨ge,0,none⟩) e.length ce]).drew);simp only[A6];clear h hB hC hT hE ht T D r Z U K0 q A hc v z V W Y X;unfold vs at*;go_enter LB,J2;go_wp2_with fail
  go_region_law (first
   |(go_simp;go_at_call 114;refine(HC.out _ kb n).mono ?_;rintro y w3 ⟨rfl,J,p⟩;have d:=p.cell 12;have yl:=p.lt;simp at d)
   |(go_simp;go_at_call 50;refine(E.out _ ka K).mono ?_;rintro y w3 ⟨rfl,J,p⟩;have d:=p.cell 12;have yl:=p.lt;simp at d)
   |(go_simp;go_at_call 114;refine(HC.out _ KD.out R0.out).mono ?_;rintro y w2 ⟨rfl,ka,K⟩;have i:=K.cell 11;have j:=K.cell 12;simp at i j)
   |(go_simp;go_at_call 50;refine(E.out _ KD.out R0.out).mono ?_;rintro y w2 ⟨rfl,kb,n⟩;have L:=n.cell 4;have M:=n.cell 5;have N:=n.cell 6;have O:=n.cell 7;have Q:=n.cell 8;have R:=n.cell 9;have s:=n.cell 10;have i:=n.cell 11;have j:=n.cell 12;simp at L M N O Q R s i j))
  all_goals
   obtain⟨S,bD⟩:=zq2 J p;clear J p;go_wp2_with fail;refine(HE.out _ S.out bD.out).mono ?_;rintro y w4 ⟨rfl,k4,r4⟩;have bE:=Aa k4;clear k4 r4;go_wp2;go_ret;exact⟨AG (λx=>Ending.returned (.string x)) I.out,bE.out⟩
 |false=>
  rw[Ai AY]at T;subst T;have Z:AE (w.alloc (.cells #[vs Ja,.int .i64 0,.int .i64 0,.bool false,vs (Cj c.k),.int .i64 (Bs c.k),vs F,.int .i64 n1,vs G,.int .i64 n3,.bool (Dn c.bI),.slice (some ⟨B,0,none⟩) t.length C,A4] 203)).drew w.heap.size 203 _:=(AE.new w 203 _).drew;obtain⟨R0,KD⟩:=zq2 Z ((U #[vs Ja,.int .i64 0,.int .i64 0,.bool false,vs (Cj c.k),.int .i64 (Bs c.k),vs F,.int .i64 n1,vs G,.int .i64 n3,.bool (Dn c.bI),.slice (some ⟨B,0,none⟩) t.length C,A4]).drew);have r:(⟨#[105,102,32]⟩:ByteArray)++⟨u.toArray⟩++⟨#[32]⟩++⟨H.toArray⟩=⟨(Ja++Cb++u++Cb++H++[]).toArray⟩:=by rw[AM];exact D
  have I:=Aa r;simp only[Ap,A8];clear h hB hC hT ht D r Z U K0 q A hc v z V W X;unfold A4 vs at*;go_enter LB,J2;go_wp2_with fail
  go_region_law (first
   |(go_simp;go_at_call 114;refine(HC.out _ kb n).mono ?_;rintro y w3 ⟨rfl,J,p⟩;have d:=p.cell 12;have yl:=p.lt;simp at d)
   |(go_simp;go_at_call 50;refine(E.out _ ka K).mono ?_;rintro y w3 ⟨rfl,J,p⟩;have d:=p.cell 12;have yl:=p.lt;simp at d)
   |(go_simp;go_at_call 114;refine(HC.out _ KD.out R0.out).mono ?_;rintro y w2 ⟨rfl,ka,K⟩;have i:=K.cell 11;have j:=K.cell 12;simp at i j)
   |(go_simp;go_at_call 50;refine(E.out _ KD.out R0.out).mono ?_;rintro y w2 ⟨rfl,kb,n⟩;have L:=n.cell 4;have M:=n.cell 5;have N:=n.cell 6;have O:=n.cell 7;have Q:=n.cell 8;have R:=n.cell 9;have s:=n.cell 10;have i:=n.cell 11;have j:=n.cell 12;simp at L M N O Q R s i j))
  all_goals
   have S:=Aa J;clear J p;go_wp2;go_ret;exact⟨AG (λx=>Ending.returned (.string x)) I.out,S.out⟩
theorem uk (hB:mt m) (h:ZA w gp vd vm f l) {n:Int}(bq:1<=n) (br:n<=50) {c:C3}(I:ZE l c.k) {t:Az}{J:Value}(K:DD Mg w J t) (L:t.size<=m) (M:t.size<=1000) (j:D9 l t):
  Calls prog 84 #[.pointer (some ⟨gp,0,none⟩),.agg (IL n c J).toArray] w (Dr w (Bf++Cb++Ci n++Cb++Cu++Cb++DE l c++Cb++BU l t)):=by
 have k0:=λcs=>(Ac.refl (λb=>w.heap.size<=b) w).alloc (Ab _) (.cells cs 203);obtain⟨z,n1,A,n3,o,_⟩:=Qs c;obtain⟨s,u,rfl⟩:∃g c,J= .slice (some ⟨g,0,none⟩) t.length c:=by obtain⟨_,h1,_⟩:=K;exact h1.2
 have lc:=Hs h.dw I;have lt:=El h.dw j;have ld:=(FM (n:=n) (by omega) (by omega)).2.1;have i:IL n c (.slice (some ⟨s,0,none⟩) t.length u)=[vs Bf,.int .i64 n,.int .i64 0,.bool false,vs (Cj c.k),.int .i64 (Bs c.k),vs z,.int .i64 n1,vs A,.int .i64 n3,.bool (Dn c.bI),.slice (some ⟨s,0,none⟩) t.length u,A4]:=by unfold IL;rw[o];rfl
 have N:=Xt h c I [vs Bf,.int .i64 n,.int .i64 0,.bool false,vs (Cj c.k),.int .i64 (Bs c.k),vs z,.int .i64 n1,vs A,.int .i64 n3,.bool (Dn c.bI),.slice (some ⟨s,0,none⟩) t.length u,A4];have hT:=U0 hB h L M j K [vs Bf,.int .i64 n,.int .i64 0,.bool false,vs (Cj c.k),.int .i64 (Bs c.k),vs z,.int .i64 n1,vs A,.int .i64 n3,.bool (Dn c.bI),.slice (some ⟨s,0,none⟩) t.length u,A4];rw[i];rw[o]at N;have B:∀W,Calls prog 49 #[.int .i64 n] W λe w'=>e= .returned (vs (Ci n))/\w'=W:=λW=>by
  have:=Ti n.toNat (by omega) W;rw[Li (by omega)]at this;have e:((n.toNat:Nat):Int)=n:=by omega
  rw[e]at this;exact this
 generalize O:DE l c=C at*;generalize Q:BU l t=R at*;generalize S:Ci n=p at*;have s1:=B7 (P:=prog) (a:=⟨#[114,101,112,101,97,116,32]⟩) (b:=⟨p.toArray⟩) (by simp only[Ay,Af,Ak];omega);have s2:=B7 (P:=prog) (a:=⟨#[114,101,112,101,97,116,32]⟩++⟨p.toArray⟩) (b:=⟨#[32,119,104,105,108,101,32]⟩) (by simp only[Ag,Ay,Af,Ak];omega);have s3:=B7 (P:=prog) (a:=⟨#[114,101,112,101,97,116,32]⟩++⟨p.toArray⟩++⟨#[32,119,104,105,108,101,32]⟩) (b:=⟨C.toArray⟩) (by simp only[Ag,Ay,Af,Ak];omega);have s4:=B7 (P:=prog) (a:=⟨#[114,101,112,101,97,116,32]⟩++⟨p.toArray⟩++⟨#[32,119,104,105,108,101,32]⟩++⟨C.toArray⟩) (b:=⟨#[32]⟩) (by simp only[Ag,Ay,Af,Ak];omega);have s5:=B7 (P:=prog) (a:=⟨#[114,101,112,101,97,116,32]⟩++⟨p.toArray⟩++⟨#[32,119,104,105,108,101,32]⟩++⟨C.toArray⟩++⟨#[32]⟩) (b:=⟨R.toArray⟩) (by simp only[Ag,Ay,Af,Ak];omega);have D:(⟨#[114,101,112,101,97,116,32]⟩:ByteArray)++⟨p.toArray⟩++⟨#[32,119,104,105,108,101,32]⟩++⟨C.toArray⟩++⟨#[32]⟩++⟨R.toArray⟩=⟨(Bf++Cb++p++Cb++Cu++Cb++C++Cb++R).toArray⟩:=by rw[BI,BI,BI,BI,BI];simp[Cb]
 obtain⟨HC,E,T,U⟩:=zq4 N hT B D;have r0:AE (w.alloc (.cells #[vs Bf,.int .i64 n,.int .i64 0,.bool false,vs (Cj c.k),.int .i64 (Bs c.k),vs z,.int .i64 n1,vs A,.int .i64 n3,.bool (Dn c.bI),.slice (some ⟨s,0,none⟩) t.length u,A4] 203)).drew w.heap.size 203 _:=(AE.new w 203 _).drew;have R0:=Aa r0;have KD:=Aa (k0 #[vs Bf,.int .i64 n,.int .i64 0,.bool false,vs (Cj c.k),.int .i64 (Bs c.k),vs z,.int .i64 n1,vs A,.int .i64 n3,.bool (Dn c.bI),.slice (some ⟨s,0,none⟩) t.length u,A4]).drew;clear h hB N hT B K D r0 k0 i o I j O Q S;unfold A4 vs at*;go_enter LB,J2;go_wp2_with fail
 go_region_law (first
  |(go_simp;go_at_call 114;refine(HC.out _ kb d).mono ?_;rintro y w3 ⟨rfl,V,v⟩;have q:=v.cell 1;have yl:=v.lt;simp at q)
  |(go_simp;go_at_call 50;refine(E.out _ ka H).mono ?_;rintro y w3 ⟨rfl,V,v⟩;have q:=v.cell 1;have yl:=v.lt;simp at q)
  |(go_simp;go_at_call 49;refine(T.out _).mono ?_;rintro y w5 ⟨rfl,rfl⟩)
  |(go_simp;go_at_call 114;refine(HC.out _ KD.out R0.out).mono ?_;rintro y w2 ⟨rfl,ka,H⟩;have r:=H.cell 1;have F:=H.cell 11;have zl:=H.lt;simp at r F)
  |(go_simp;go_at_call 50;refine(E.out _ KD.out R0.out).mono ?_;rintro y w2 ⟨rfl,kb,d⟩;have r:=d.cell 1;have X:=d.cell 4;have Y:=d.cell 5;have Z:=d.cell 6;have aD:=d.cell 7;have ba:=d.cell 8;have be:=d.cell 9;have G:=d.cell 10;have zl:=d.lt;simp at r X Y Z aD ba be G))
 all_goals
  have bf:=Aa V;clear V v;go_wp2;go_ret;exact⟨AG (λx=>Ending.returned (.string x)) U.out,bf.out⟩
end
theorem XJ:∀(b:Az),b.length=0->b= .nil
 | .nil,_=>rfl
 | .bG p r,h=>by simp[Az.length]at h
 | .ite c t o e r,h=>by simp[Az.length]at h
 | .rep n c b r,h=>by simp[Az.length]at h
theorem Xr {l:List Bi}{p:D0}{s:Ah}(h:AT l (.bG p .nil)=Cb++s):s=CA l p:=by rw[AT,AT,AM]at h;exact(Tn h).symm
theorem Z3 {l:List Bi}{c:C3}{t e:Az}{o:Bool}{s:Ah}(h:AT l (.ite c t o e .nil)=Cb++s):s=Ja++Cb++DE l c++Cb++BU l t++(if o then Cb++Dl++Cb++BU l e else []):=by rw[AT,AT,AM]at h;exact(Tn h).symm
theorem Z1 {l:List Bi}{n:Int}{c:C3}{t:Az}{s:Ah}(h:AT l (.rep n c t .nil)=Cb++s):s=Bf++Cb++Ci n++Cb++Cu++Cb++DE l c++Cb++BU l t:=by rw[AT,AT,AM]at h;exact(Tn h).symm
theorem jO {m:Nat}(u:mt m):wP (m+1):=by
 intro w gp B C f l x cs s h k j b d g p;cases x with
 |nil=>cases k
 |bG y rest=>
  obtain rfl:=XJ rest (by simpa[Az.length]using k);obtain⟨rest,rfl,rfl⟩:=g;rw[AM];obtain rfl:=Xr p;have i:=d.1;cases y with
  |put q t=>show Calls _ _ _ _ (Dr w (Kx++Cb++Bu l q++Jf t++AN));rw[Re];exact Rf h Kx (.inl rfl) i.1 t
  |bx q=>
   have a:=Rf h Ep (.inr (.inl rfl)) i.1 false;have e:Ep++Cb++Bu l q++Dc false++AN=CA l (.bx q):=by simp[Dc,CA]
   rw[e]at a;exact a
  |dz q=>
   have a:=Rf h Ig (.inr (.inr (.inl rfl))) i.1 false;have e:Ig++Cb++Bu l q++Dc false++AN=CA l (.dz q):=by simp[Dc,CA]
   rw[e]at a;exact a
  |shift q t tl=>show Calls _ _ _ _ (Dr w (Do++Cb++Bu l q++Cb++Bu l t++Jf tl++AN));rw[Re];exact jP h i.1.1 i.2.1 tl
  |inc v=>
   have a:=Rf h Mb (.inr (.inr (.inr (.inl rfl)))) i.1 false;have e:Mb++Cb++Bu l v++Dc false++AN=CA l (.inc v):=by simp[Dc,CA]
   rw[e]at a;exact a
  |dec v=>
   have a:=Rf h Mc (.inr (.inr (.inr (.inr rfl)))) i.1 false;have e:Mc++Cb++Bu l v++Dc false++AN=CA l (.dec v):=by simp[Dc,CA]
   rw[e]at a;exact a
  |drop=>exact ZZ IW (.inl rfl)
  |bump=>exact ZZ IX (.inr rfl)
 |ite c t o e rest=>
  obtain rfl:=XJ rest (by simpa[Az.length]using k);obtain⟨A,ve,rest,rfl,r,z,rfl⟩:=g;rw[AM];obtain rfl:=Z3 p;simp only[Az.size]at j b;refine zA u h d.1 r ?_ (by omega) (by omega) (by omega) d.2.1 d.2.2.1;cases o with
  |true=>exact z
  |false=>exact z.1
 |rep n c t rest=>
  obtain rfl:=XJ rest (by simpa[Az.length]using k);obtain⟨A,rest,rfl,r,rfl⟩:=g;rw[AM];obtain rfl:=Z1 p;simp only[Az.size]at j b;exact uk u h d.2.2.2.1 d.2.2.2.2 d.1 r (by omega) (by omega) d.2.1
theorem Z4:∀m,wP m/\mt m
 |0=>by
  have h:wP 0:=by
   intro w gp g i f l x cs s h d a;cases x with
   |nil=>cases d
   |bG p r=>simp[Az.size]at a
   |ite c t o e r=>simp[Az.size]at a
   |rep n c b r=>simp[Az.size]at a
  exact⟨h,UZ h⟩
 |m+1=>by have h:=jO (Z4 m).2;exact⟨h,UZ h⟩
theorem iK:(prog.info? 140).map (·.size)=some 2:=by kernel_rfl
theorem uM:liesAt prog prog.depth 140 (2/prog.cellsOf 140) 0 140 1=true:=by kernel_rfl
theorem infoByte:(prog.info? 5).map (λi=>(i.zero,i.size,i.bytes))=some (some (.int .u8 0),1,1):=by kernel_rfl
section
variable {B b:Nat}{bs:List Value}{w:World}
theorem cF (c:w.cell? ⟨b,0,none⟩=some (.pointer (some ⟨b,0,none⟩))):
  Calls prog 82 #[.pointer (some ⟨b,0,none⟩)] w λe w'=>e= .returned (.tuple #[])/\w'=w:=by
 obtain⟨j,a,_⟩:=A7.1 iK;go_enter func82,ntmps82;go_wp2;rw[Lib.run_neq_ptr_same w _ cP a];go_wp2;go_end0;exact⟨rfl,rfl⟩
theorem Y3 (g:w.cell? ⟨b,0,none⟩=some (.pointer none)) (a:w.shape? b=some (140,2)) (f:w.frozen? ⟨b,0,none⟩=false):
  Calls prog 82 #[.pointer (some ⟨b,0,none⟩)] w λe w'=>e= .returned (.tuple #[])/\w'=w.setCell ⟨b,0,none⟩ (.pointer (some ⟨b,0,none⟩)):=by
 obtain⟨j,d,c⟩:=A7.1 iK;go_enter func82,ntmps82;go_wp2;rw[Lib.run_to_unsafe w ⟨b,0,none⟩ cP underlying106 d (by rw[c];decide) a (Nat.zero_lt_succ 1)];simp only[Result.andThen];rw[rP];go_wp2;rw[Bb func112 (by kernel_rfl) (by kernel_rfl) (by kernel_rfl) (e:=Extern.AbiNoEscape.same) (by kernel_rfl)];rw[Lib.run_noEscape];simp only[Result.andThen];rw[rP];go_wp2;rw[Lib.run_from_unsafe w ⟨b,0,none⟩ underlying106 cP d a uM];simp only[Result.andThen];rw[rP];go_wp2;go_end0;exact⟨rfl,rfl⟩
theorem fU (h:Lib.IsBuilder 140 5 B b bs w):
  Calls prog 82 #[.pointer (some ⟨b,0,none⟩)] w λe w'=>e= .returned (.tuple #[])/\(Lib.BuilderAt 140 5 B b (.pointer (some ⟨b,0,none⟩)) bs w'/\Below B w w'):=by
 rcases h with h|h
 ·refine(Y3 h.cell0 h.shape h.frozen0).mono ?_;rintro e w' ⟨rfl,rfl⟩;exact⟨rfl,h.used _,(Lo B w).setCell (p:=⟨b,0,none⟩) h.1 _⟩
 ·refine(cF h.cell0).mono ?_;rintro e w' ⟨rfl,rfl⟩;exact⟨rfl,h,Lo B _⟩
def Ag3 (B b:Nat) (l:Ah) (w:World) (e:Ending) (w':World):Prop:=(∃n,e= .returned (.tuple #[.int .i64 n,.nilIface]))/\Lib.IsBuilder 140 5 B b (Lib.byteCells l) w'/\Ac (λk=>B<=k) w w'
theorem fS {l s:Ah}(h:Lib.IsBuilder 140 5 B b (Lib.byteCells l) w) (i:l.length+s.length<=140737488355328) (S:B<=w.heap.size):
  Calls prog 48 #[.pointer (some ⟨b,0,none⟩),.string ⟨s.toArray⟩] w (Ag3 B b (l++s) w):=by
 obtain⟨U,V,C,D,E⟩:=Bg infoByte;have o:(Lib.byteCells l).length=l.length:=by simp[Lib.byteCells]
 have q:(⟨s.toArray⟩:ByteArray).size=s.length:=by simp[ByteArray.size]
 have u:Lib.byteCells l++Lib.strCells ⟨s.toArray⟩=Lib.byteCells (l++s):=by simp[Lib.byteCells,Lib.strCells]
 obtain⟨F,W,X,H⟩:=zq4 u o q h;generalize Y:Lib.byteCells l=xs at*;generalize Z:(⟨s.toArray⟩:ByteArray)=G at*;have aD:xs.length+G.size<=140737488355328:=by rw[o,q];exact i
 clear Y u o q h i Z;go_enter func48,ntmps48;go_wp2_with fail;refine(fU H.out).mono ?_;rintro e w1 ⟨rfl,h1,x⟩;obtain⟨P,v,f,j,y⟩:=h1;have c0:w1.cell? ⟨b,0,none⟩=some (.pointer (some ⟨b,0,none⟩)):=by rw[To f];rfl
 have c1:w1.cell? ⟨b,1,none⟩=some v:=by rw[To f];rfl
 obtain⟨m,r,z,I⟩:=zq4 j x f y;clear j x f y;go_wp2_with (at_builtin;refine Lib.wpList_append_own_string _ rfl _ _ 138 9 rfl B 5 U underlying138 J1 V C D E _ _ _ rfl m.out G rfl ?c3 ?c4 ?c5 ?_)
 case c3=>unfold maxLen;omega
 case c4=>omega
 case c5=>have:=r.out.size;omega
 intro v' A a c _;have J:b<w1.heap.size:=by
  rcases Be b w1.heap.size with K|K
  ·exact K
  ·have:=z.out;simp[Ch K]at this
 have d:A.heap[b]?=some (.cells #[.pointer (some ⟨b,0,none⟩),v] 140 (0,0)):=by rw[c.block b J (λe=>I.out e.symm)];exact z.out
 have d0:A.cell? ⟨b,0,none⟩=some (.pointer (some ⟨b,0,none⟩)):=by rw[To d];rfl
 have d1:A.cell? ⟨b,1,none⟩=some v:=by rw[To d];rfl
 have f1:A.frozen? ⟨b,1,none⟩=false:=Lib.frozen_of_heap d 1;obtain⟨Q,R,t,rfl⟩:∃Q R t,v'= .slice Q R t:=by
  rcases a.2 with⟨L,_⟩|⟨g,t,bf,L,_⟩
  ·exact⟨_,_,_,L⟩
  ·exact⟨_,_,_,L⟩
 obtain⟨M,HG,N⟩:=zq3 a c d;clear a c d;go_wp2;go_ret2;have n:Lib.BuilderAt 140 5 B b _ _ _:=Lib.BuilderAt.put (T:=140) (e:=5) P N.out (bs':=xs++Lib.strCells G) (by simpa[Lib.strCells_length]using M.out) (by decide);rw[F.out]at n;exact⟨⟨_,rfl⟩,.inr n,Ac.cY ((r.out.grown HG.out (by have:=r.out.size;omega) (λk O=>(m.out.lt k O).1)).setCell (p:=⟨b,1,none⟩) P _) (λk O=>O)⟩
end
theorem ub {n:Int}(a:0<=n) (h:n<10):Ci n=[UInt8.ofNat (48+n.toNat)]:=by unfold Ci;rw[ML (by omega)]
theorem ud {n:Int}(h:10<=n):Ci n=Ci (n/10)++[UInt8.ofNat (48+(n%10).toNat)]:=by
 unfold Ci;rw[O7 (by omega)];have e1:n.toNat/10=(n/10).toNat:=by omega
 have a:n.toNat%10=(n%10).toNat:=by omega
 rw[e1,a]
section
variable {w:World}
attribute [local go_sem ↓] Go.wp_at_zero Go.wp_at_succ
theorem ZT (m:Int) (d:0<=m) (h:m<256) (W:World) (b:Nat) (a:W.cell? ⟨b,0,none⟩=some (.int .u8 m)):(convert 138 9 (.slice (some ⟨b,0,none⟩) 1 1)).run prog W= .ok (.string ⟨#[UInt8.ofNat m.toNat]⟩) W:=by
 have:=run_convert_bytes_back (P:=prog) W 138 9 5 ⟨b,0,none⟩ 1 [UInt8.ofNat m.toNat] underlying138 underlying5 J1 (λj c=>by
  obtain rfl:j=0:=by simpa using c
  have e:(((UInt8.ofNat m.toNat).toNat:Nat):Int)=m:=by rw[UInt8.toNat_ofNat'];omega
  show W.cell? ⟨b,0,none⟩=some (.int .u8 (((UInt8.ofNat m.toNat).toNat:Nat):Int));rw[e];exact a)
 exact this
theorem SP {n:Int}(a:0<=n) (h:n<10):Calls prog 97 #[.int .i64 n] w (Dr w (Ci n)):=by
 rw[ub a h];have b:=ZT (48+n) (by omega) (by omega);go_enter func97,ntmps97;go_wp2;go_ret;have e:(48+n).toNat=48+n.toNat:=by omega
 exact⟨by rw[←e];rfl,(Ac.refl _ w).alloc (Ab _) _⟩
theorem Xm {n:Int}(x:10<=n) (h:n<=999) (j:∀W:World,Calls prog 97 #[.int .i64 (n/10)] W (Dr W (Ci (n/10)))):Calls prog 97 #[.int .i64 n] w (Dr w (Ci n)):=by
 have k:=ud (n:=n) (by omega);have q:=ZT (48+n%10) (by omega) (by omega);have y:n.tdiv 10=n/10:=Int.tdiv_eq_ediv_of_nonneg (by omega);have z:n.tmod 10=n%10:=FX (by omega);have A:0<=n%10:=by omega
 have B:n%10<10:=by omega
 have C:0<=n/10:=by omega
 have D:n/10<100:=by omega
 generalize n/10=d at*;generalize n%10=r at*;have E:IntKind.i64.wrap d=d:=CU _ (by omega);have F:IntKind.i64.wrap r=r:=CU _ (by omega);have G:IntKind.i64.wrap (48+r)=48+r:=CU _ (by omega);have H:IntKind.u8.wrap (48+r)=48+r:=by unfold IntKind.wrap;simp[IntKind.signed,IntKind.bits];omega
 have m:∀W:World,(Op.stringOp .add (⟨(Ci d).toArray⟩:ByteArray) ⟨#[UInt8.ofNat (48+r).toNat]⟩).run prog W= .ok (.string (⟨(Ci d).toArray⟩++⟨#[UInt8.ofNat (48+r).toNat]⟩)) W:=λW=>by refine run_string_add_sum W _ _ ?_;have:=(FM (n:=d) (by omega) (by omega)).2.1;rw[Ay];show(Ci d).length+1<=_;omega
 have c:AE (w.alloc (.cells #[.int .u8 (48+r)] 5)).drew w.heap.size 5 [.int .u8 (48+r)]:=(AE.new w 5 [.int .u8 (48+r)]).drew;obtain⟨g,s,t⟩:=zq3 c j k;clear j k c;unfold Dr vs at*;go_enter func97,ntmps97;go_wp2_with fail
 go_region_with (go_at_call 97;refine(s.out _).mono ?_;rintro e w1 ⟨rfl,a⟩;have u:=a.size;(try (have v:=(a.cell (p:=⟨w.heap.size,0,none⟩) (by simp)).trans (g.out.cell 0);simp at v)))
 all_goals go_wp2
 all_goals go_ret
 all_goals
  refine⟨?_,?_⟩
  ·have e:(48+r).toNat=48+r.toNat:=by omega
   have o:vs (Ci d++[UInt8.ofNat (48+r.toNat)])= .string (⟨(Ci d).toArray⟩++⟨#[UInt8.ofNat (48+r).toNat]⟩):=by unfold vs;rw[←BI,e]
   unfold vs at o;rw[t.out,o];rfl
  ·first
   |exact(((Ac.refl (λb=>w.heap.size<=b) w).drew).trans (a.mono (λb i=>i))).alloc u _
   |exact(((Ac.refl (λb=>w.heap.size<=b) w).alloc (Ab _) _).drew).trans (a.mono (λb i=>by simp[C6]at i;omega))
theorem Rd {n:Int}(a:0<=n) (h:n<=999):Calls prog 97 #[.int .i64 n] w (Dr w (Ci n)):=by
 by_cases b:n<10
 ·exact SP a b
 ·refine Xm (by omega) h λW=>?_;by_cases c:n/10<10
  ·exact SP (by omega) c
  ·refine Xm (by omega) (by omega) λW=>SP (by omega) (by omega)
end
structure du (w:World) (gp:Nat) (vd vr vh vm:Value) (f:Int) (l:List Bi):Prop where
 ba:AE w gp 222 [vd,.int .i64 f,vr,vh,vm,.bool true]
 decls:Sl (λ_=>True) w 224 3 vd l.length (l.flatMap FL)
 dw:J8 l
section
variable {w w':World}{gp:Nat}{vd vr vh vm:Value}{f:Int}{l:List Bi}
theorem du.later (h:du w gp vd vr vh vm f l) (a:Ac (λb=>w.heap.size<=b) w w'):du w' gp vd vr vh vm f l:=
 ⟨h.ba.kept a (λe=>by have:=h.ba.lt;omega),h.decls.kept a (λb c e=>by have:=h.decls.lt c;omega),h.dw⟩
theorem du.at_ (h:du w gp vd vr vh vm f l) {k:Int}(c:Ix l.length k):∃(n a b:Nat),k=(n:Int)/\n<l.length/\vd= .slice (some ⟨a,0,none⟩) l.length b/\l.length<=b/\b<=9223372036854775807/\a<w.heap.size/\gp<w.heap.size/\
  w.cell? ⟨gp,0,none⟩=some (.slice (some ⟨a,0,none⟩) l.length b)/\w.cell? ⟨a,n*3+1,none⟩=some (vs (Bu l k))/\(Bu l k).length<=8:=by
 obtain⟨n,rfl⟩:∃n:Nat,k=(n:Int):=⟨k.toNat,by have:=c.1;omega⟩;have d:n<l.length:=by have:=c.2;omega
 obtain⟨a,b,rfl,_,g,e,i⟩:=h.decls.form (by omega);have m:l[n]?=some (Aq l (n:Int)):=by unfold Aq;rw[As,Ae d];rfl
 unfold maxLen at e;exact⟨n,a,b,rfl,d,rfl,g,e,i,h.ba.lt,h.ba.cell 0,h.decls.at_ (λ_=>rfl) m (j:=1) (by omega),Dz h.dw _⟩
theorem nX (h:du w gp vd vr vh vm f l) (v:Qw) (c:V2 l v):Calls prog 158 #[.pointer (some ⟨gp,0,none⟩),.agg (Fk v).toArray] w (Dr w (Ef l v)):=by
 have d:=λcs=>(Ac.refl (λb=>w.heap.size<=b) w).alloc (Ab _) (.cells cs 258);have i:=Aa d;cases v with
 |num n=>
  have o:=Aa (λW=>Rd (w:=W) c.1 c.2);clear h d;show Calls _ _ _ _ (Dr w (Ci n));unfold Fk DR C4 vs;go_enter gH,Zt;go_wp2_with fail;refine(o.out _).mono ?_;rintro e w1 ⟨rfl,g⟩;have j:=Aa g;clear g;go_wp2;go_ret;exact⟨rfl,(i.out _).trans (j.out.mono (λb p=>by simp at p;omega))⟩
 |len k=>
  obtain⟨n,m,q,rfl,r,rfl,s,t,u,x,y,z,A⟩:=h.at_ c.1;have e1:¬gp=w.heap.size:=by omega
  have B:¬m=w.heap.size:=by omega
  show Calls _ _ _ _ (Dr w (JK++Cb++Bu l (n:Int)));generalize Bu l (n:Int)=nm at*;have C:=B7 (P:=prog) (a:=⟨#[108,101,110,32]⟩) (b:=⟨nm.toArray⟩) (by simp only[Ay,Af,Ak];omega);clear h d c;unfold Fk DR C4 vs at*;go_enter gH,Zt;go_wp2;go_region;go_wp2;go_ret;exact⟨by rw[BI];rfl,(i.out _).drew⟩
 |var k=>
  obtain⟨n,m,q,rfl,r,rfl,s,t,u,x,y,z,A⟩:=h.at_ c.1;have e1:¬gp=w.heap.size:=by omega
  have B:¬m=w.heap.size:=by omega
  show Calls _ _ _ _ (Dr w (Bu l (n:Int)));generalize Bu l (n:Int)=nm at*;clear h d c;unfold Fk DR C4 vs at*;go_enter gH,Zt;go_wp2;go_region;go_wp2;go_ret;exact⟨rfl,(i.out _).drew⟩
 |aD=>
  clear h d c;show Calls _ _ _ _ (Dr w Cx);unfold Fk DR C4 vs at*;go_enter gH,Zt;go_wp2;go_ret;exact⟨rfl,i.out _⟩
theorem O6 (c:C3):∃d n1 e n3,Dg c=[vs (BV c.k),.int .i64 (Bs c.k),vs d,.int .i64 n1,vs e,.int .i64 n3,.int .i64 c.bI]/\IC c.k=[vs d,.int .i64 n1,vs e,.int .i64 n3]:=by
 obtain⟨d,n1,e,n3,g⟩:∃d n1 e n3,IC c.k=[vs d,.int .i64 n1,vs e,.int .i64 n3]:=by
  cases c.k with
  |less a b=>exact⟨_,_,_,_,rfl⟩
  |_=>exact⟨_,_,_,_,rfl⟩
 exact⟨d,n1,e,n3,by unfold Dg;rw[g];rfl,g⟩
def WP (b:Ah) (n:Int):Qw:=if b=kh then .num n else if b=JK then .len n else if b=Cx then .aD else .var n
theorem cj {v:Qw}{b:Ah}{n:Int}(a:DR v=b) (c:C4 v=n):WP b n=v:=by subst a c;cases v<;>rfl
theorem jI (h:du w gp vd vr vh vm f l) (c:C3) (j:ZE l c.k):Calls prog 141 #[.pointer (some ⟨gp,0,none⟩),.agg (Dg c).toArray] w (Dr w (DE l c)):=by
 have k0:=λcs=>(Ac.refl (λb=>w.heap.size<=b) w).alloc (Ab _) (.cells cs 260);have Y:=Aa k0;have Q:DE l c=Oc c++Jg l c.k:=rfl;have g:Oc c=if Dn c.bI then KU++Cb else []:=by unfold Oc Dn;by_cases hn:c.bI%2=1<;>simp[hn]
 have bt:(Oc c).length<=4:=by rw[g];split<;>simp[Cb]
 obtain⟨q,n1,s,n3,Z,H⟩:=O6 c;rw[Z,Q];clear Z Q;have d:∀(k:Int) (t:Ah),BV c.k=t->(t=E4\/t=DJ\/t=E3)->Bs c.k=k->Ix l.length k->Jg l c.k=t++Cb++Bu l k->
   Calls prog 141 #[.pointer (some ⟨gp,0,none⟩),.agg #[vs (BV c.k),.int .i64 (Bs c.k),vs q,.int .i64 n1,vs s,.int .i64 n3,.int .i64 c.bI]] w (Dr w (Oc c++Jg l c.k)):=by
  intro k t e1 I e2 R e3;rw[e1,e2,e3];obtain⟨n,gd,cd,rfl,hn,rfl,q1,q2,q3,q4,d0,d1,hl⟩:=h.at_ R;have f1:¬gp=w.heap.size:=by omega
  have f2:¬gd=w.heap.size:=by omega
  generalize Bu l (n:Int)=nm at*;generalize Oc c=r at*;generalize c.bI=bI at*;have u:=SU bI;have o:=Aa u;clear u;have bx:t.length<=5:=by rcases I with rfl|rfl|rfl<;>simp
  have S:(((⟨r.toArray⟩:ByteArray)++⟨t.toArray⟩)++⟨#[32]⟩)++⟨nm.toArray⟩=⟨(r++(t++Cb++nm)).toArray⟩:=by rw[BI,BI,BI];simp[Cb]
  have s1:=B7 (P:=prog) (a:=⟨r.toArray⟩) (b:=⟨t.toArray⟩) (by simp only[Ay];omega);have s2:=B7 (P:=prog) (a:=⟨r.toArray⟩++⟨t.toArray⟩) (b:=⟨#[32]⟩) (by simp only[Ag,Ay,Af,Ak];omega);have s3:=B7 (P:=prog) (a:=⟨r.toArray⟩++⟨t.toArray⟩++⟨#[32]⟩) (b:=⟨nm.toArray⟩) (by simp only[Ag,Ay,Af,Ak];omega);have T:=Aa S;clear S k0 h H e1 e2 e3 j R;unfold vs at*;rcases o.out with⟨J,z⟩|⟨J,z⟩
  ·rw[show Dn bI=false from z,Ai AY]at g;subst g;have K:IntKind.i64.wrap ((bI:Int).tmod 2)=(bI:Int).tmod 2:=CU _ (by omega);rw[J]at K;clear z o;rcases I with rfl|rfl|rfl
   all_goals
    go_enter gJ,Zv;go_wp2;go_region;go_wp2;go_ret;exact⟨AG (λx=>Ending.returned (.string x)) T.out,(Y.out _).drew⟩
  ·rw[show Dn bI=true from z,Al rfl]at g;obtain rfl:r=[110,111,116,32]:=g;have K:IntKind.i64.wrap ((bI:Int).tmod 2)=(bI:Int).tmod 2:=CU _ (by omega);rw[J]at K;clear z o;rcases I with rfl|rfl|rfl
   all_goals
    go_enter gJ,Zv;go_wp2;go_region;go_wp2;go_ret;exact⟨AG (λx=>Ending.returned (.string x)) T.out,(Y.out _).drew⟩
 cases A:c.k with
 |full k=>rw[A]at d j;exact d k E4 rfl (.inl rfl) rfl j.1 rfl
 |empty k=>rw[A]at d j;exact d k DJ rfl (.inr (.inl rfl)) rfl j.1 rfl
 |eU k=>rw[A]at d j;exact d k E3 rfl (.inr (.inr rfl)) rfl j.1 rfl
 |less a b=>
  rw[A]at j H;have i:vs (DR a)=vs q/\Value.int .i64 (C4 a)= .int .i64 n1/\vs (DR b)=vs s/\Value.int .i64 (C4 b)= .int .i64 n3:=by unfold IC Fk at H;simpa only[Bx,CS,IN,and_true]using H
  have D:WP q n1=a:=cj (Yn i.1) (by have:=i.2.1;injection this);have E:WP s n3=b:=cj (Yn i.2.2.1) (by have:=i.2.2.2;injection this);have la:=IQ h.dw j.1;have lb:=IQ h.dw j.2;rw[←D]at la;rw[←E]at lb;have U:∀W (_:Ac (λb=>w.heap.size<=b) w W) (cs:List Value) (_:AE W w.heap.size 260 cs) (p:Ah) (m:Int),(p=q/\m=n1)\/(p=s/\m=n3)->
    Calls prog 158 #[.pointer (some ⟨gp,0,none⟩),.agg #[vs p,.int .i64 m]] W (λy w'=>y= .returned (vs (Ef l (WP p m)))/\Ac (λb=>w.heap.size<=b) w w'/\AE w' w.heap.size 260 cs):=by
   intro W hk cs hr p m be;have B:∀v,V2 l v->Fk v=[vs p,.int .i64 m]->WP p m=v->Calls prog 158 #[.pointer (some ⟨gp,0,none⟩),.agg #[vs p,.int .i64 m]] W (λy w'=>y= .returned (vs (Ef l (WP p m)))/\Ac (λb=>w.heap.size<=b) w w'/\AE w' w.heap.size 260 cs):=by intro v H Z hd;have j:=nX (h.later hk) v H;rw[Z]at j;refine j.mono ?_;rintro y w' ⟨h1,h2⟩;rw[hd];exact⟨h1,hk.trans (h2.mono (λb hb=>Ad hk.size hb)),hr.kept h2 (λe=>by have:=hr.lt;omega)⟩
   rcases be with⟨rfl,rfl⟩|⟨rfl,rfl⟩
   ·exact B a j.1 (by show [vs (DR a),.int .i64 (C4 a)]=_;rw[i.1,i.2.1]) D
   ·exact B b j.2 (by show [vs (DR b),.int .i64 (C4 b)]=_;rw[i.2.2.1,i.2.2.2]) E
  have V:Oc c++Jg l (.less a b)=Oc c++(Ef l (WP q n1)++[32,60,32]++Ef l (WP s n3)):=by rw[D,E];rfl
  rw[V];show Calls _ _ #[.pointer (some ⟨gp,0,none⟩),.agg #[vs ER,.int .i64 0,vs q,.int .i64 n1,vs s,.int .i64 n3,.int .i64 c.bI]] w _;generalize Oc c=r at*;generalize c.bI=bI at*;have u:=SU bI;have o:=Aa u;clear u;clear V i D E j H d h;generalize X:(λp m=>Ef l (WP p m))=F at*;have e1:∀p m,Ef l (WP p m)=F p m:=λp m=>by rw[←X]
  simp only[e1]at*;clear e1 X A;have S:(((⟨r.toArray⟩:ByteArray)++⟨(F q n1).toArray⟩)++⟨#[32,60,32]⟩)++⟨(F s n3).toArray⟩=⟨(r++(F q n1++[32,60,32]++F s n3)).toArray⟩:=by rw[BI,BI,BI];simp
  have s1:=B7 (P:=prog) (a:=⟨r.toArray⟩) (b:=⟨(F q n1).toArray⟩) (by simp only[Ay];omega);have s2:=B7 (P:=prog) (a:=⟨r.toArray⟩++⟨(F q n1).toArray⟩) (b:=⟨#[32,60,32]⟩) (by simp only[Ag,Ay,Af,Ak];omega);have s3:=B7 (P:=prog) (a:=⟨r.toArray⟩++⟨(F q n1).toArray⟩++⟨#[32,60,32]⟩) (b:=⟨(F s n3).toArray⟩) (by simp only[Ag,Ay,Af,Ak];omega);obtain⟨T,G⟩:=zq2 S U;have r0:AE (w.alloc (.cells #[vs ER,.int .i64 0,vs q,.int .i64 n1,vs s,.int .i64 n3,.int .i64 (bI:Int)] 260)).drew w.heap.size 260 [vs ER,.int .i64 0,vs q,.int .i64 n1,vs s,.int .i64 n3,.int .i64 (bI:Int)]:=(AE.new w 260 _).drew;obtain⟨R0,KD⟩:=zq2 r0 ((Y.out #[vs ER,.int .i64 0,vs q,.int .i64 n1,vs s,.int .i64 n3,.int .i64 (bI:Int)]).drew);clear S U k0 r0 Y;unfold vs at*;rcases o.out with⟨J,z⟩|⟨J,z⟩
  ·rw[show Dn bI=false from z,Ai AY]at g;subst g;have K:IntKind.i64.wrap ((bI:Int).tmod 2)=(bI:Int).tmod 2:=CU _ (by omega);rw[J]at K;clear z o;go_enter gJ,Zv;go_wp2_with fail
   go_region_law (first
    |(go_simp;go_at_call 158;refine(G.out _ ka _ C _ _ ?_).mono ?_;(first|exact .inl ⟨rfl,rfl⟩|exact .inr ⟨rfl,rfl⟩);rintro y w3 ⟨rfl,kb,rb⟩)
    |(go_simp;go_at_call 158;refine(G.out _ KD.out _ R0.out _ _ ?_).mono ?_;(first|exact .inl ⟨rfl,rfl⟩|exact .inr ⟨rfl,rfl⟩);rintro y w2 ⟨rfl,ka,C⟩;have L:=C.cell 2;have M:=C.cell 3;have N:=C.cell 4;have O:=C.cell 5;simp at L M N O))
   all_goals go_wp2
   all_goals go_ret
   all_goals exact⟨AG (λx=>Ending.returned (.string x)) T.out,kb⟩
  ·rw[show Dn bI=true from z,Al rfl]at g;obtain rfl:r=[110,111,116,32]:=g;have K:IntKind.i64.wrap ((bI:Int).tmod 2)=(bI:Int).tmod 2:=CU _ (by omega);rw[J]at K;clear z o;go_enter gJ,Zv;go_wp2_with fail
   go_region_law (first
    |(go_simp;go_at_call 158;refine(G.out _ ka _ C _ _ ?_).mono ?_;(first|exact .inl ⟨rfl,rfl⟩|exact .inr ⟨rfl,rfl⟩);rintro y w3 ⟨rfl,kb,rb⟩)
    |(go_simp;go_at_call 158;refine(G.out _ KD.out _ R0.out _ _ ?_).mono ?_;(first|exact .inl ⟨rfl,rfl⟩|exact .inr ⟨rfl,rfl⟩);rintro y w2 ⟨rfl,ka,C⟩;have L:=C.cell 2;have M:=C.cell 3;have N:=C.cell 4;have O:=C.cell 5;simp at L M N O))
   all_goals go_wp2
   all_goals go_ret
   all_goals exact⟨AG (λx=>Ending.returned (.string x)) T.out,kb⟩
end
end Go.Proofs.YtepoejiigmhlbaaGreatDoor.Ev
