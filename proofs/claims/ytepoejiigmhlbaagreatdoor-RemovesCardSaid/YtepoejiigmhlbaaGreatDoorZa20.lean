/- Lemmas for a law's walk. Conditions: none. -/
import Derived.Test.YtepoejiigmhlbaaGreatDoorZa19
set_option linter.all false
set_option maxRecDepth 100000
set_option maxHeartbeats 8000000
namespace Go.Proofs.YtepoejiigmhlbaaGreatDoor.Ev
open _root_.Go.Proofs.Tryz
open Go Go.RowKit
theorem Vs:(prog.info? 234).map (λi=>(i.zero,i.size,i.bytes))=some (some (.agg #[.int .u64 0,.int .i64 0]),2,16):=by kernel_rfl
theorem oq (w:World):(Go.sizeOf 234).run prog w= .ok 2 w:=by kernel_rfl
theorem wL (w:World):(isAgg 234).run prog w= .ok true w:=by kernel_rfl
theorem Un (l:List Gm):∀u∈l.flatMap Cd,u.oneCell'=true:=by intro u b;obtain⟨x,_,a⟩:=mz.1 b;simp[Cd]at a;rcases a with rfl|rfl<;>rfl
theorem XY {α:Type}(f:α->List Value) (k:Nat) (a:∀x,(f x).length=k):∀(l:List α) (i:Nat),(l.flatMap f).take (i*k)=(l.take i).flatMap f
 | [],i=>by simp
 |y::l,0=>by simp
 |y::l,i+1=>by rw[Fd,Au,Fd,←XY f k a l i,show(i+1)*k=(f y).length+i*k by rw[a,GP];omega,List.take_append,List.take_of_length_le (by omega),B6]
theorem XZ {α:Type}(f:α->List Value) (k:Nat) (a:∀x,(f x).length=k):∀(l:List α) (i:Nat),(l.flatMap f).drop (i*k)=(l.drop i).flatMap f
 | [],i=>by simp
 |y::l,0=>by simp
 |y::l,i+1=>by rw[Fd,Av,←XZ f k a l i,show(i+1)*k=(f y).length+i*k by rw[a,GP];omega,List.drop_append,Ug (by omega),B6,CS]
theorem dE {k:Nat}(h:k<=2):(B5 k==EK)=(k==0):=by
 have:k=0\/k=1\/k=2:=by omega
 rcases this with rfl|rfl|rfl<;>decide
section
variable {S N:Nat->Prop}{w:World}{g gp:Nat}{vq vv:Value}{s:St}{c:J9}{vl:List Value}{p:Ax}
theorem MD (h:Es S w g gp vq vv s c vl) (i:L0 N w gp p) (j:J8 p.decls) {k:Int}(b:k= -1\/Ix p.decls.length k):Calls prog 102 #[.pointer (some ⟨g,0,none⟩),.int .i64 k] w λe w'=>e= .returned (.bool (AW p.decls k))/\w'=w:=by
 have o:=h.row.cell 0;have t:=h.row.lt;simp at o;rcases b with rfl|b
 ·clear h i j;go_enter func102,ntmps102;go_wp2;go_ret;exact⟨rfl,rfl⟩
 ·obtain⟨m,rfl⟩:∃m:Nat,k=(m:Int):=⟨k.toNat,by have:=b.1;omega⟩;have l:m<p.decls.length:=by have:=b.2;omega
  obtain⟨u,v,x,y,q,z,A,B,C,D⟩:=i.decl l;have d:(Aq p.decls (m:Int)).kind<=2:=by unfold Aq;rw[As,Ae l];exact(j.each _ (Ed l)).kind
  have f:=dE d;have a:AW p.decls (m:Int)=(B5 (Aq p.decls (m:Int)).kind==EK):=by unfold AW;rw[f];simp
  rw[a];generalize B5 (Aq p.decls (m:Int)).kind=W at*;generalize p.decls.length=L at*;unfold maxLen at q;clear h i j a f d b;unfold vs at*;cases r:(W==EK)
  all_goals
   have n:decide (W=EK)=(W==EK):=by rw[GF,decide_eq_true_iff,PL]
   rw[r]at n;go_enter func102,ntmps102;go_wp2;go_ret;exact⟨rfl,rfl⟩
theorem Es.qe (h:Es S w g gp vq vv s c vl) {l:World}{S1:Nat->Prop}{k:Nat}{v:Value}(x:vl[k]?=some v) (o:Ac S1 w l) (B:∀b,S1 b->v.ownBlock=some b\/w.heap.size<=b) {u:Value}{l':List Gm}
  (E:Sl S l 234 2 u l'.length (l'.flatMap Cd)) (y:∀b,u.ownBlock=some b->v.ownBlock=some b\/w.heap.size<=b) {a F:Nat} (e:vq= .slice (some ⟨a,0,none⟩) s.q.length F):
  Es S (l.setCell ⟨a,k,none⟩ u) g gp vq vv {s with q:=s.q.set k l'} c (vl.set k u)/\S a:=by
 have G:=h.q.bF x o B E y e;have z:k<s.q.length:=by rw[←h.q.len];exact(Aj.1 x).1
 have A:=h.q.inner k v s.q[k] x (Ae z);have C:vq.ownBlock=some a:=by rw[e];rfl
 obtain⟨cs,m⟩:=h.q.outer.row C;have j:∀{t:TypeId} {cs:List Value} {b:Nat},AE w b t cs->t≠234->¬S1 b:=by
  intro t cs b r H d;rcases B b d with d|d
  ·exact A.bD r (λe=>H e.symm) d
  ·have:=r.lt;omega
 have D:Ac (λb=>b=a) l (l.setCell ⟨a,k,none⟩ u):=Ac.one l ⟨a,k,none⟩ u;have f:=h.row.kept o (j h.row (by decide));have i:=m.kept o (j m (by decide));have n:=h.v.kept o (λb d=>by obtain⟨cs,r⟩:=h.v.row d;exact j r (by decide));exact⟨⟨f.kept D (λe=>f.bt i (by decide) e),G,n.kept D (λb d e=>n.bD i (by decide) (e▸d)),h.sg⟩,h.q.outer.2 a C⟩
def Anq (S:Nat->Prop) (w:World) (g gp:Nat) (vq vv:Value) (s:St) (c:J9) (x:Gm) (e:Ending) (w':World):Prop:=
 e= .returned (.agg #[.int .u64 x.key,.int .i64 x.aD])/\Ac S w w'/\∃a,Es S w' g gp vq vv s c a
theorem U7 (h:Es S w g gp vq vv s c vl) (hS:Up S w) (a:QB s) {k i:Nat}{l:List Gm}(hl:s.q[k]?=some l) (hi:i<l.length):Calls prog 103 #[.pointer (some ⟨g,0,none⟩),.int .i64 k,.int .i64 i] w (Anq S w g gp vq vv (s.out k i) c (Bm l i)):=by
 obtain⟨i0,bg,bh,bi,bj⟩:=Bg Vs;have bE:=(Aj.1 hl).1;obtain⟨v,l',hv,P,E⟩:=h.q.at_ bE;rw[hl]at P;injection P with P;subst P;have A:=h.q.inner k v l hv hl;obtain⟨gl,R,rfl,_,q4,q5,q6⟩:=A.form (by omega);obtain⟨o,cq,rfl,_,q1,q2,q3⟩:=h.q.outer.form (by omega);have iM:l.length<=100000:=a.l l (Aw hl);obtain⟨iN,c1,rl⟩:=zp3 a.n (h.row.cell 1) h.row.lt;have hx:l[i]?=some (Bm l i):=by unfold Bm;rw[Ae hi];rfl
 have x0:=A.at_ (λ_=>rfl) hx (j:=0) (by omega);have x1:=A.at_ (λ_=>rfl) hx (j:=1) (by omega);have d0:w.cell? ⟨o,k,none⟩=some (.slice (some ⟨gl,0,none⟩) l.length R):=E;simp[Cd]at c1 x0 x1;have d:Ac (λb=>w.heap.size<=b) w ((w.alloc (.cells #[.int .u64 0,.int .i64 0] 234)).alloc (.cells #[.int .u64 (Bm l i).key,.int .i64 (Bm l i).aD] 234)):=((Ac.refl _ w).alloc (Ab _) _).alloc (by simp) _;have T:AE ((w.alloc (.cells #[.int .u64 0,.int .i64 0] 234)).alloc (.cells #[.int .u64 (Bm l i).key,.int .i64 (Bm l i).aD] 234)) w.heap.size 234 [.int .u64 0,.int .i64 0]:=(AE.new w 234 [.int .u64 0,.int .i64 0]).alloc _;have U:AE ((w.alloc (.cells #[.int .u64 0,.int .i64 0] 234)).alloc (.cells #[.int .u64 (Bm l i).key,.int .i64 (Bm l i).aD] 234)) (w.heap.size+1) 234 [.int .u64 (Bm l i).key,.int .i64 (Bm l i).aD]:=by have:=AE.new (w.alloc (.cells #[.int .u64 0,.int .i64 0] 234)) 234 [.int .u64 (Bm l i).key,.int .i64 (Bm l i).aD];simp only[Ib]at this;exact this
 have B:=((A.take i (by omega)).src).kept d (λad n c e a=>by injection e with e;injection e with e;subst e;exact absurd q6 (CJ.2 a));rw[XY Cd 2 (λ_=>rfl)]at B;have m0:0+i<=maxLen:=by unfold maxLen;omega
 have m1:(0+i)*16<=140737488355328:=by omega
 have bH:w.heap.size<=((w.alloc (.cells #[.int .u64 0,.int .i64 0] 234)).alloc (.cells #[.int .u64 (Bm l i).key,.int .i64 (Bm l i).aD] 234)).heap.size:=d.size;have bI:w.heap.size+1<((w.alloc (.cells #[.int .u64 0,.int .i64 0] 234)).alloc (.cells #[.int .u64 (Bm l i).key,.int .i64 (Bm l i).aD] 234)).heap.size:=by simp
 obtain⟨H,HS,fb,cy,HV,O1,cz,V⟩:=zq8 h hS B A (And.intro hv hl) (Un (l.take i)) d T;obtain⟨W,cD,cL⟩:=zq3 U bH bI;clear h hS a hv hl E A B hx d T U bH bI;unfold maxLen at q2 q5;go_enter func103,ntmps103;go_upto_region 3 with(at_builtin;go_must (refine dD Is bg bh bi bj rfl (by decide) (Sl.hQ (λb=>w.heap.size<=b) _ 234 2) cD.out rfl _ _ rfl rfl rfl fb.out O1.out m0 m1 ?_;intro v1 w1 B cW F;have cX:=Aa B;have Q:=Aa cW;have cY:=Aa F;clear B cW F));have m:Ac (λb=>w.heap.size<=b) w w1:=cz.out.trans (Q.out.mono (λb a=>a.elim (λe=>by cases e) (λh=>Ad cD.out h)));have bo:∀b,b<=w.heap.size+1->¬((Value.slice none 0 0).ownBlock=some b\/((w.alloc (.cells #[.int .u64 0,.int .i64 0] 234)).alloc (.cells #[.int .u64 (Bm l i).key,.int .i64 (Bm l i).aD] 234)).heap.size<=b):=λb a h=>h.elim (λe=>by cases e) (λh2=>by have:=cL.out;omega);have G:=V.out.kept Q.out (bo _ (by omega));have r:=W.out.kept Q.out (bo _ (by omega));have z:=cX.out;rw[DH]at z;obtain⟨a1,I,rfl⟩:=z.bz;clear c1 d0 x0 x1 bo;have h1:=H.out.later m;have cg:=h1.row.cell 1;have iS:=h1.row.lt;obtain⟨v2,l2,db,fc,dq⟩:=h1.q.at_ bE;have ev:v2= .slice (some ⟨gl,0,none⟩) l.length R:=by have:=HV.out.1;rw[db]at this;injection this
 subst ev;have fq:w1.frozen? ⟨o,k,none⟩=false:=h1.q.outer.mG rfl k;have iW:w1.cell? ⟨o,k,none⟩=some (.slice (some ⟨gl,0,none⟩) l.length R):=dq;have i9:o<w1.heap.size:=An q3 m.size;simp at cg;have t:∀b,(Value.slice a1 i I).ownBlock=some b->w.heap.size+1<b:=λb a=>by
  rcases cY.out with h|h
  ·rw[h]at a;cases a
  ·rw[h]at a;injection a with a;have:=cL.out;omega
 have s1:Sl (λb=>w.heap.size+1<b) w1.drew 234 2 (.slice a1 i I) i ((l.take i).flatMap Cd):=by exact⟨(z.of_heap (w':=w1.drew) rfl).1,t⟩
 have X:=cy.out.later m (λb a=>a);have dh:∀b,b<w.heap.size->¬((Value.slice a1 i I).ownBlock=some b\/w1.drew.heap.size<=b):=λb a h=>h.elim (λe=>by have:=t b e;omega) (λh2=>by have fh:w1.heap.size<=b:=h2;have:=m.size;omega);have di:w1.drew.cell? ⟨g,1,none⟩=some (.slice (some ⟨o,0,none⟩) s.q.length cq):=cg;have dj:w1.drew.frozen? ⟨o,k,none⟩=false:=fq;have dm:w1.drew.cell? ⟨o,k,none⟩=some (.slice (some ⟨gl,0,none⟩) l.length R):=dq;have dr:w.heap.size+1<w1.drew.heap.size:=r.lt;have dt:i+(l.length-(i+1))<=maxLen:=by unfold maxLen;omega
 have dv:(i+(l.length-(i+1)))*16<=140737488355328:=by omega
 have jh:=r.lt;have J:∀b,b<=w.heap.size+1->¬((Value.slice a1 i I).ownBlock=some b\/w1.drew.heap.size<=b):=λb a h=>h.elim (λe=>by have:=t b e;omega) (λh2=>by have fh:w1.heap.size<=b:=h2;omega);have el:(i+(l.length-(i+1)))=(l.eraseIdx i).length:=by rw[List.length_eraseIdx_of_lt hi];omega
 have ef:(l.take i).flatMap Cd++(l.drop (i+1)).flatMap Cd=(l.eraseIdx i).flatMap Cd:=by rw[←Kr,jg]
 have Y:∀(Z:Option Addr) (c2:Nat) (O:World),Sl (λb=>w.heap.size+1<b) O 234 2 (.slice Z (i+(l.length-(i+1))) c2) (i+(l.length-(i+1))) ((l.take i).flatMap Cd++(l.drop (i+1)).flatMap Cd)->
   Ac (λb=>(Value.slice a1 i I).ownBlock=some b\/w1.drew.heap.size<=b) w1.drew O->
   Ac S w (O.setCell ⟨o,k,none⟩ (.slice Z (i+(l.length-(i+1))) c2))/\(∃K,Es (λb=>S b/\¬(b=w.heap.size\/b=w.heap.size+1)) (O.setCell ⟨o,k,none⟩ (.slice Z (i+(l.length-(i+1))) c2)) g gp (.slice (some ⟨o,0,none⟩) s.q.length cq) vv (s.out k i) c K)/\
   AE (O.setCell ⟨o,k,none⟩ (.slice Z (i+(l.length-(i+1))) c2)) w.heap.size 234 [.int .u64 0,.int .i64 0]/\AE (O.setCell ⟨o,k,none⟩ (.slice Z (i+(l.length-(i+1))) c2)) (w.heap.size+1) 234 [.int .u64 (Bm l i).key,.int .i64 (Bm l i).aD]:=by
  intro Z c2 O hs hk;have dy:Ac (λb=>w.heap.size<=b) w O:=(m.drew).trans (hk.mono (λb a=>a.elim (λe=>by have:=t b e;omega) (λh2=>Ad m.size h2)));rw[ef]at hs;rw[el]at hs ⊢;have bp:∀b,w.heap.size+1<b->w.heap.size<=b:=λb a=>by omega
  have hq:=(H.out.mono (S':=λb=>S b/\¬(b=w.heap.size\/b=w.heap.size+1)) (λb a hs=>⟨hs,λe=>by omega⟩)).qe (l':=l.eraseIdx i) HV.out.1 dy (λb a=>.inr a) ⟨hs.1,λb a=>⟨HS.out b (bp b (hs.2 b a)),λe=>by have:=hs.2 b a;omega⟩⟩ (λb a=>.inr (bp b (hs.2 b a))) rfl;have dz:s.out k i={s with q:=s.q.set k (l.eraseIdx i)}:=by unfold St.out;rw[HV.out.2];rfl
  rw[dz];have fi:w.heap.size≠o:=by omega
  have dA:w.heap.size+1≠o:=by omega
  refine⟨(dy.mono (λb a=>HS.out b a)).setCell (p:=⟨o,k,none⟩) hq.2.1 _,⟨_,hq.1⟩,?_,?_⟩
  ·exact((G.drewN 1).kept hk (J _ (by omega))).dc fi _
  ·exact((r.drewN 1).kept hk (J _ (by omega))).dc dA _
 obtain⟨L,S1,C,be⟩:=zq4 Y s1 dh dr;have bf:∀cc,gP w1.drew 2 (.slice (some (if R=i+1 then(⟨gl,0,none⟩:Addr)else⟨gl,(i+1)*2,none⟩)) (l.length-(i+1)) cc) (l.length-(i+1)) ((l.drop (i+1)).flatMap Cd):=by
  intro cc;by_cases D:R=i+1
  ·have bp:l.length=i+1:=by omega
   refine⟨?_,.inr ⟨_,_,rfl,λj x hj=>?_⟩⟩
   ·rw[Ug (by omega)];simp;omega
   ·have:l.drop (i+1)=[]:=Mk (by omega);rw[this]at hj;simp at hj
  ·rw[Ai D];have hh:=X.nz (k:=i+1) (by omega) cc;rw[XZ Cd 2 (λ_=>rfl)]at hh;exact hh.of_heap rfl
 obtain⟨M,O2,dB,eg,eF⟩:=zq5 bf (Un (l.drop (i+1))) di dj dm;have jj:IntKind.i64.wrap ((i:Int)+1)=(i:Int)+1:=CU _ (by omega);have jk:((i:Int)+1).toNat=i+1:=by omega
 have ie:(i:Int)+1<=(l.length:Int):=by omega
 have ig:(0:Int)<=(i:Int)+1:=by omega
 clear z Y s1 dh J dr t X G r bf h1 db fc di dj dm m cX Q cY H HV cy V W cz dq el ef;go_cut [] (λwx=>Ac S w wx/\(∃K,Es (λb=>S b/\¬(b=w.heap.size\/b=w.heap.size+1)) wx g gp (.slice (some ⟨o,0,none⟩) s.q.length cq) vv (s.out k i) c K)/\AE wx w.heap.size 234 [.int .u64 0,.int .i64 0]/\AE wx (w.heap.size+1) 234 [.int .u64 (Bm l i).key,.int .i64 (Bm l i).aD])
 case first=>
  by_cases D:R=i+1
  ·have eG:l.length-(i+1)=0:=by omega
   have eR:l.drop (i+1)=[]:=Mk (by omega);have f:gP w1.drew 2 (.slice (some ⟨gl,0,none⟩) 0 0) 0 []:=⟨rfl,.inr ⟨_,_,rfl,λj x hj=>by simp at hj⟩⟩;have hf:=L.out;simp only[eG,eR,List.flatMap_nil]at hf;have p1:i+0<=maxLen:=by unfold maxLen;omega
   have p2:(i+0)*16<=140737488355328:=by omega
   obtain⟨HF,bq⟩:=zq2 hf f;clear f M hf eG eR L dt dv;subst D
   go_region_law (refine KO Is bg bh bi bj rfl (by decide) S1.out be.out rfl _ _ (by rfl) (by rfl) (by rfl) bq.out (by intro u hu;cases hu) p1 p2 ?_;intro Z c2 O f d y;have e1:=(d.cell (p:=⟨g,1,none⟩) (C.out _ rl)).trans dB.out;have e2:=(d.frozen (p:=⟨o,k,none⟩) (C.out _ q3)).trans eg.out;have e3:=(d.cell (p:=⟨o,k,none⟩) (C.out _ q3)).trans eF.out;have br:=Aa f;have bt:=Aa d;clear f d y)
   all_goals go_wp2
   all_goals go_meet
   all_goals exact HF.out _ _ _ br.out bt.out
  ·have f:=M.out;simp only[Ai D]at f;have bq:=Aa f;have ii:¬(R=i+1):=D;clear f M D
   go_region_law (refine KO Is bg bh bi bj rfl (by decide) S1.out be.out rfl _ _ (by rfl) (by rfl) (by rfl) (bq.out _) O2.out dt dv ?_;intro Z c2 O f d y;have e1:=(d.cell (p:=⟨g,1,none⟩) (C.out _ rl)).trans dB.out;have e2:=(d.frozen (p:=⟨o,k,none⟩) (C.out _ q3)).trans eg.out;have e3:=(d.cell (p:=⟨o,k,none⟩) (C.out _ q3)).trans eF.out;have br:=Aa f;have bt:=Aa d;clear f d y)
   all_goals go_wp2
   all_goals go_meet
   all_goals exact L.out _ _ _ br.out bt.out
 case rest=>
  obtain⟨hk,hR,rT,rE⟩:=hcut;obtain⟨HK,HR,RT⟩:=zq3 hk hR rT;obtain⟨e0,e1,t0,t1⟩:=zp4 (rE.cell 0) (rE.cell 1) (rT.cell 0) (rT.cell 1);have tf:=λj=>rT.frozen j;have tl:=rT.lt;simp at e0 e1 t0 t1;have eS:=(rT.bF 0 (.int .u64 (Bm l i).key)).bF 1 (.int .i64 (Bm l i).aD);obtain⟨fp,ft⟩:=zq2 eS (HS.out w.heap.size (Ab _));clear hk hR rT rE eS;go_wp2;refine AA (AP (cs:=[.int .u64 (Bm l i).key,.int .i64 (Bm l i).aD]) Tryz.results103 wL oq rfl fp.out) rfl ?_;obtain⟨K,hR⟩:=HR.out;have kT:Ac (λb=>b=w.heap.size) wc ((wc.setCell ⟨w.heap.size,0,none⟩ (.int .u64 (Bm l i).key)).setCell ⟨w.heap.size,1,none⟩ (.int .i64 (Bm l i).aD)):=Ac.setCell (S:=λb=>b=w.heap.size) (Ac.setCell (S:=λb=>b=w.heap.size) (Ac.refl _ wc) (p:=⟨w.heap.size,0,none⟩) rfl _) (p:=⟨w.heap.size,1,none⟩) rfl _;exact⟨rfl,HK.out.trans (kT.mono (λb a=>a▸ft.out)),K,(hR.kept kT (λb a _ e=>a.2 (.inl e))).mono (λb _ a=>a.1)⟩
end
def Ag0 (S:Nat->Prop) (w:World) (g gp:Nat) (vq vv:Value) (s:St) (c:J9) (b:Bool) (s':St) (e:Ending) (w':World):Prop:=
 e= .returned (.bool b)/\Ac S w w'/\∃a,Es S w' g gp vq vv (if b then s' else s) c a
section
variable {S N:Nat->Prop}{w:World}{g gp:Nat}{vq vv:Value}{s:St}{c:J9}{vl:List Value}{p:Ax}
theorem uu (h:Es S w g gp vq vv s c vl) (hP:L0 N w gp p) (hS:Up S w) (a:QB s) (x:Gm) {t:Nat}(dc:t<p.decls.length) {l:List Gm}(V:s.q[t]?=some l) (o:Bool):
  Calls prog 160 #[.pointer (some ⟨g,0,none⟩),.agg #[.int .u64 x.key,.int .i64 x.aD],.int .i64 t,.bool o] w (Ag0 S w g gp vq vv s c (!decide ((Aq p.decls (t:Int)).max<=(l.length:Int))) {s with q:=s.q.set t (if o then l++[x]else x::l)}):=by
 obtain⟨i0,ba,be,bf,bg⟩:=Bg Vs;have bh:=(Aj.1 V).1;obtain⟨v,l',hv,D,y⟩:=h.q.at_ bh;rw[V]at D;injection D with D;subst D;have bi:=h.q.inner t v l hv V;obtain⟨X,Y,rfl⟩:=bi.bz;obtain⟨d,cq,rfl,_,q1,q2,q3⟩:=h.q.outer.form (by omega);have fh:l.length<=100000:=a.l l (Aw V);obtain⟨fi,c1,c0,rl⟩:=zp4 a.n (h.row.cell 1) (h.row.cell 0) h.row.lt;have d0:w.cell? ⟨d,t,none⟩=some (.slice X l.length Y):=y;obtain⟨gd,cd,f0,f1,f2,f3,f4,f5,f6,f7⟩:=hP.decl dc;have gY:p.decls.length<=cd:=f1;simp at c0 c1;obtain⟨H,HS,Z⟩:=zq3 h hS (And.intro hv V);clear h hS a hv V y bi hP f5 f6;unfold maxLen at q2 f2;generalize dj:(Aq p.decls (t:Int)).max=mx at*;generalize dm:p.decls.length=dl at*;clear dj dm;have kW:Ac (λb=>w.heap.size<=b) w (w.alloc (.cells #[.int .u64 x.key,.int .i64 x.aD] 234)).drew:=((Ac.refl _ w).alloc (Ab _) _).drew;have F:AE (w.alloc (.cells #[.int .u64 x.key,.int .i64 x.aD] 234)).drew w.heap.size 234 [.int .u64 x.key,.int .i64 x.aD]:=(AE.new w 234 [.int .u64 x.key,.int .i64 x.aD]).drewN 1;obtain⟨G,z⟩:=zq2 kW F;clear kW F;generalize bo:(!decide (mx<=(l.length:Int)))=ok;generalize bp:({s with q:=s.q.set t (if o then l++[x]else x::l)}:St)=s2;obtain⟨bq,br⟩:=zq2 bo bp;clear bo bp;by_cases bt:mx<=(l.length:Int)
 ·have A:decide (mx<=(l.length:Int))=true:=by simpa using bt
  have HD:=Aa A;go_enter func160,ntmps160;go_wp2;go_region;go_wp2;go_ret;have ho:ok=false:=by rw[←bq.out,HD.out];rfl
  rw[ho];exact⟨rfl,G.out.mono (λb a=>HS.out b a),vl,H.out.later G.out⟩
 ·have A:decide (mx<=(l.length:Int))=false:=by simpa using bt
  have HD:=Aa A;go_enter func160,ntmps160;go_wp2;go_region;go_upto_if 29 with fail;generalize hW:(w.alloc (.cells #[.int .u64 x.key,.int .i64 x.aD] 234)).drew=W at*;have HW:=Aa hW;clear hW c0 c1 d0 f0 f3 f4 f7;have C:Es (λb=>S b/\b≠w.heap.size) W g gp (.slice (some ⟨d,0,none⟩) s.q.length cq) vv s c vl:=(H.out.mono (S':=λb=>S b/\b≠w.heap.size) (λb a E=>⟨E,by omega⟩)).later G.out;have i:=C.q.inner t _ l Z.out.1 Z.out.2;have c1:=C.row.cell 1;have d0:W.cell? ⟨d,t,none⟩=some (.slice X l.length Y):=by obtain⟨v',l',e1,e2,e3⟩:=C.q.at_ bh;rw[Z.out.1]at e1;injection e1 with e1;rw[e1];exact e3
  obtain⟨x0,x1,xl,hI⟩:=zp4 (z.out.cell 0) (z.out.cell 1) z.out.lt C.row.lt;have hQ:d<W.heap.size:=An q3 G.out.size;simp at c1 x0 x1;have I:Ac (λb=>W.heap.size<=b) W (W.alloc (.cells #[.int .u64 x.key,.int .i64 x.aD] 234)).drew:=((Ac.refl _ W).alloc (Ab _) _).drew;have bu:(W.alloc (.cells #[.int .u64 x.key,.int .i64 x.aD] 234)).drew.cell? ⟨g,1,none⟩=some (.slice (some ⟨d,0,none⟩) s.q.length cq):=(I.cell (p:=⟨g,1,none⟩) (by simp only;omega)).trans c1;have bx:(W.alloc (.cells #[.int .u64 x.key,.int .i64 x.aD] 234)).drew.cell? ⟨d,t,none⟩=some (.slice X l.length Y):=(I.cell (p:=⟨d,t,none⟩) (by simp only;omega)).trans d0;have bC:(W.alloc (.cells #[.int .u64 x.key,.int .i64 x.aD] 234)).drew.frozen? ⟨d,t,none⟩=false:=(I.frozen (p:=⟨d,t,none⟩) (by simp only;omega)).trans (C.q.outer.mG rfl t);have fq:W.frozen? ⟨d,t,none⟩=false:=C.q.outer.mG rfl t;have bE:=i.kept I (λb a m=>by have:=i.lt a;omega);have bF:∀b,(Value.slice X l.length Y).ownBlock=some b->¬(b=g\/b=d):=λb a h=>h.elim (λe=>i.bD C.row (by decide) (e▸a)) (λe=>by
   obtain⟨cs,hr⟩:=C.q.outer.row (g:=d) rfl;exact i.bD hr (by decide) (e▸a))
  have m0:l.length+1<=maxLen:=by unfold maxLen;omega
  have m1:(l.length+1)*16<=140737488355328:=by omega
  have m2:1+l.length<=maxLen:=by unfold maxLen;omega
  have m3:(1+l.length)*16<=140737488355328:=by omega
  have J:gP (W.alloc (.cells #[.int .u64 x.key,.int .i64 x.aD] 234)).drew 2 (.slice (some ⟨W.heap.size,0,none⟩) 1 1) 1 (Cd x):=⟨rfl,.inr ⟨_,_,rfl,C7 W (Cd x) 234⟩⟩;have bG:S (W.alloc (.cells #[.int .u64 x.key,.int .i64 x.aD] 234)).drew.heap.size/\(W.alloc (.cells #[.int .u64 x.key,.int .i64 x.aD] 234)).drew.heap.size≠w.heap.size:=⟨HS.out _ (Ad G.out.size I.size),λe=>by have:=I.size;omega⟩;obtain⟨f,H1,bH,bI,cy,cz,M,cD⟩:=zq8 I C bu bx bC bE bF J;have cL:=Aa bG;have OX:=Aa (show∀u∈Cd x,u.oneCell'=true from by intro u hu;simp[Cd]at hu;rcases hu with rfl|rfl<;>rfl);have OL:=Aa (Un l);have K:∀(l2:List Gm) (w3:World) (O:Option Addr) (c':Nat),Sl (λb=>S b/\b≠w.heap.size) w3 234 2 (.slice O l2.length c') l2.length (l2.flatMap Cd)->Ac (λb=>(Value.slice X l.length Y).ownBlock=some b\/W.heap.size<=b) W w3->
    (∀b,(Value.slice O l2.length c').ownBlock=some b->(Value.slice X l.length Y).ownBlock=some b\/W.heap.size<=b)->Ac S w (w3.setCell ⟨d,t,none⟩ (.slice O l2.length c'))/\∃P,Es S (w3.setCell ⟨d,t,none⟩ (.slice O l2.length c')) g gp (.slice (some ⟨d,0,none⟩) s.q.length cq) vv {s with q:=s.q.set t l2} c P:=by
   intro l2 w3 O c' E hk dz;have hq:=H1.out.qe (l':=l2) Z.out.1 hk (λb a=>a) E dz rfl;refine⟨((G.out.mono (λb a=>HS.out b a)).trans (hk.mono (λb a=>?_))).setCell (p:=⟨d,t,none⟩) hq.2.1 _,_,hq.1.mono (λb _ a=>a.1)⟩;rcases a with a|a
   ·have i:=H1.out.q.inner t _ l Z.out.1 Z.out.2;exact(i.2 b a).1
   ·exact HS.out b (Ad G.out.size a)
  have L:=Aa K;clear I C i bu bx bC bE bF J bG K;go_cut [] (λwx=>Ac S w wx/\∃P,Es S wx g gp (.slice (some ⟨d,0,none⟩) s.q.length cq) vv s2 c P)
  case first=>
   cases o with
   |true=>
    go_upto_region 4 with fail
    go_region_law (refine KO Is ba be bf bg rfl (by decide) cz.out cL.out rfl _ _ (by rfl) (by rfl) (by rfl) cD.out OX.out m0 m1 ?_;intro O c2 w3 B j k;have e1:=(j.cell (p:=⟨g,1,none⟩) (λh=>h.elim (λe=>M.out _ e (.inl rfl)) (λm=>by have:=f.out.size;have r:_<=g:=m;omega))).trans bH.out;have e2:=(j.frozen (p:=⟨d,t,none⟩) (λh=>h.elim (λe=>M.out _ e (.inr rfl)) (λm=>by have:=f.out.size;have r:_<=d:=m;omega))).trans cy.out;have e3:=(j.cell (p:=⟨d,t,none⟩) (λh=>h.elim (λe=>M.out _ e (.inr rfl)) (λm=>by have:=f.out.size;have r:_<=d:=m;omega))).trans bI.out;have Q:=Aa B;have R:=Aa j;have T:=Aa k;clear B j k)
    all_goals go_wp2
    all_goals go_meet
    all_goals
     have E:=Q.out;have U:l.length+1=(l++[x]).length:=by simp
     have ef:l.flatMap Cd++Cd x=(l++[x]).flatMap Cd:=by simp
     rw[U,ef]at E;have e9:s2={s with q:=s.q.set t (l++[x])}:=br.out.symm;rw[e9,U];refine L.out (l++[x]) _ _ _ E ((f.out.mono (λb a=>.inr a)).trans (R.out.mono (λb a=>a.elim .inl (λm=>.inr (Ad f.out.size m))))) (λb a=>?_);rw[←U]at a;rcases T.out with r|r
     ·rw[r]at a;exact .inl a
     ·rw[r]at a;injection a with a;exact .inr (a▸f.out.size)
   |false=>
    have cY:Sl (λb=>S b/\b≠w.heap.size) (W.alloc (.cells #[.int .u64 x.key,.int .i64 x.aD] 234)).drew 234 2 (.slice (some ⟨W.heap.size,0,none⟩) 1 1) 1 (Cd x):=
     Sl.fc ((AE.new W 234 (Cd x)).drewN 1) ⟨HS.out _ G.out.size,λe=>by omega⟩ rfl (by unfold maxLen;omega)
    obtain⟨eg,cZ⟩:=zq2 cY cz.out.src;clear cY;go_upto_region 5 with fail
    go_region_law (refine KO Is ba be bf bg rfl (by decide) eg.out cL.out rfl _ _ (by rfl) (by rfl) (by rfl) cZ.out OL.out m2 m3 ?_;intro O c2 w3 B j k;have e1:=(j.cell (p:=⟨g,1,none⟩) (λh=>h.elim (λe=>by injection e with e;simp only at e;omega) (λm=>by have:=f.out.size;have r:_<=g:=m;omega))).trans bH.out;have e2:=(j.frozen (p:=⟨d,t,none⟩) (λh=>h.elim (λe=>by injection e with e;simp only at e;omega) (λm=>by have:=f.out.size;have r:_<=d:=m;omega))).trans cy.out;have e3:=(j.cell (p:=⟨d,t,none⟩) (λh=>h.elim (λe=>by injection e with e;simp only at e;omega) (λm=>by have:=f.out.size;have r:_<=d:=m;omega))).trans bI.out;have Q:=Aa B;have R:=Aa j;have T:=Aa k;clear B j k)
    all_goals go_wp2
    all_goals go_meet
    all_goals
     have E:=Q.out;have U:1+l.length=(x::l).length:=by simp;omega
     have ef:Cd x++l.flatMap Cd=(x::l).flatMap Cd:=rfl;rw[U,ef]at E;have e9:s2={s with q:=s.q.set t (x::l)}:=br.out.symm;rw[e9,U];refine L.out (x::l) _ _ _ E ((f.out.mono (λb a=>.inr a)).trans (R.out.mono (λb a=>a.elim (λe=>by injection e with e;simp only at e;exact .inr (by omega)) (λm=>.inr (Ad f.out.size m))))) (λb a=>?_);rw[←U]at a;rcases T.out with r|r
     ·rw[r]at a;injection a with a;exact .inr (a▸Ab _)
     ·rw[r]at a;injection a with a;exact .inr (a▸f.out.size)
  case rest=>
   obtain⟨hk,hR⟩:=hcut;obtain⟨HK,HR⟩:=zq2 hk hR;clear hk hR;go_wp2;go_ret;have ho:ok=true:=by rw[←bq.out,HD.out];rfl
   rw[ho];exact⟨rfl,HK.out,HR.out⟩
end
end Go.Proofs.YtepoejiigmhlbaaGreatDoor.Ev
