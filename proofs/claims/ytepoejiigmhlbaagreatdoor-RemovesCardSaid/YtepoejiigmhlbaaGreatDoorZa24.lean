/- Lemmas for a law's walk. Conditions: none. -/
import Derived.Test.YtepoejiigmhlbaaGreatDoorZa19
set_option linter.all false
set_option maxRecDepth 100000
set_option maxHeartbeats 8000000
namespace Go.Proofs.YtepoejiigmhlbaaGreatDoor.Ev
open _root_.Go.Proofs.Tryz
open Go Go.RowKit
section
variable {B:Nat}{w:World}{gr gs gp:Nat}{vq vv vg:Value}{vl:List Value}{p:Ax}{c:J9}{key:Int}{r:DN}{e:Nat}
theorem SU (n:Nat):((n:Int).tmod 2=0/\(n%2==1)=false)\/((n:Int).tmod 2=1/\(n%2==1)=true):=by
 have h:(n:Int).tmod 2=((n%2:Nat):Int):=by rw[FX (by omega)];omega
 rw[h];have:n%2=0\/n%2=1:=by omega
 rcases this with h|h<;>rw[h]<;>simp
def ci (b:Ah) (n:Int):Qw:=if b=kh then .num n else if b=JK then .len n else if b=Cx then .aD else .var n
theorem bZ {v:Qw}{b:Ah}{n:Int}(a:DR v=b) (d:C4 v=n):ci b n=v:=by subst a d;cases v<;>rfl
theorem Ty (h:Dx B w gr gs gp vq vv vg vl p c key r e) (x:C3) (J:ZE p.decls x.k):Calls prog 142 #[.pointer (some ⟨gr,0,none⟩),.agg (Dg x).toArray] w λy w'=>y= .returned (.bool (BD p.decls key r.s x))/\Ac (λb=>w.heap.size<=b) w w':=by
 obtain⟨c0,s0,s1,rl,sl⟩:=zp5 (h.row.cell 0) (h.st.row.cell 0) (h.st.row.cell 1) h.row.lt h.st.row.lt;simp at c0 s0 s1;have N:=λv (hv:V2 p.decls v) W (O:Ac (λb=>w.heap.size<=b) w W)=>dR (h.later O) v hv;obtain⟨H,o⟩:=zq2 h N;clear h N;obtain⟨k,bI⟩:=x;have d:BD p.decls key r.s ⟨k,bI⟩=(NR p.decls key r.s k !=(bI%2==1)):=rfl;generalize BD p.decls key r.s ⟨k,bI⟩=di at*;have A:=Aa d;clear d;obtain⟨C,n1,D,n3,q⟩:∃C n1 D n3,IC k=[vs C,.int .i64 n1,vs D,.int .i64 n3]:=by cases k<;>exact⟨_,_,_,_,rfl⟩
 have P:Dg ⟨k,bI⟩=[vs (BV k),.int .i64 (Bs k),vs C,.int .i64 n1,vs D,.int .i64 n3,.int .i64 bI]:=by unfold Dg;rw[q];rfl
 rw[P];have kC:Ac (λb=>w.heap.size<=b) w (w.alloc (.cells #[vs (BV k),.int .i64 (Bs k),vs C,.int .i64 n1,vs D,.int .i64 n3,.int .i64 bI] 260)):=(Ac.refl _ w).alloc (Ab _) _;have rC:AE (w.alloc (.cells #[vs (BV k),.int .i64 (Bs k),vs C,.int .i64 n1,vs D,.int .i64 n3,.int .i64 bI] 260)) w.heap.size 260 [vs (BV k),.int .i64 (Bs k),vs C,.int .i64 n1,vs D,.int .i64 n3,.int .i64 bI]:=AE.new w _ _;obtain⟨T,E,HF⟩:=zq3 kC rC q;clear P kC rC q;have nr:¬gr=w.heap.size:=by omega
 have dm:¬gs=w.heap.size:=by omega
 unfold vs at*;go_enter func142,ntmps142;go_upto_block 0 with fail;go_cut [5] (λs5 wx=>s5= .bool (NR p.decls key r.s k)/\Ac (λb=>w.heap.size<=b) w wx/\AE wx w.heap.size 260 [vs (BV k),.int .i64 (Bs k),vs C,.int .i64 n1,vs D,.int .i64 n3,.int .i64 bI])
 case first=>
  obtain⟨z0,z1,z2,z3,z4,z5,zl⟩:=zp7 (E.out.cell 0) (E.out.cell 1) (E.out.cell 2) (E.out.cell 3) (E.out.cell 4) (E.out.cell 5) E.out.lt;simp at z0 z1 z2 z3 z4 z5;cases k with
  |full n=>
   have f:Ix p.decls.length n:=J.1;obtain⟨m,rfl⟩:∃m:Nat,n=(m:Int):=⟨n.toNat,by have:=f.1;omega⟩;have F:m<p.decls.length:=by have:=f.2;omega
   obtain⟨gq,cq,l,al,cl,rfl,V,K,q3,hm,X,Y,i,d0,_,_⟩:=H.out.queue F;obtain⟨gd,cd,f0,f1,f2,f3,f4,f5,f6,f7⟩:=H.out.ba.decl F;have HQ:=Aa i;have d:NR p.decls key r.s (.full (m:Int))=decide ((Aq p.decls (m:Int)).max<=((r.s.queue (m:Int)).length:Int)):=rfl;rw[i]at d;generalize (Aq p.decls (m:Int)).max=mx at*;generalize p.decls.length=dl at*;have L:=Aa d;clear i X f5 f6 d f J A o;unfold maxLen at K f2;unfold BV Bs at*;go_wp2;go_region;go_wp2;go_meet;rw[L.out];exact⟨rfl,T.out.drew,E.out.drewN 1⟩
  |empty n=>
   have f:Ix p.decls.length n:=J.1;obtain⟨m,rfl⟩:∃m:Nat,n=(m:Int):=⟨n.toNat,by have:=f.1;omega⟩;have F:m<p.decls.length:=by have:=f.2;omega
   obtain⟨gq,cq,l,al,cl,rfl,V,K,q3,hm,X,Y,i,d0,_,_⟩:=H.out.queue F;have d:NR p.decls key r.s (.empty (m:Int))=decide ((r.s.queue (m:Int)).length=0):=rfl;rw[i]at d;have L:=Aa d;clear i X d f J A o;unfold maxLen at K;unfold BV Bs at*;by_cases t:l.length=0
   ·have e1:((l.length:Int)==0)=true:=by simp[t]
    have e2:decide (l.length=0)=true:=by simpa using t
    have z:=Aa e2;go_wp2;go_region;go_wp2;go_meet;rw[L.out,z.out];exact⟨rfl,T.out.drew,E.out.drewN 1⟩
   ·have e1:((l.length:Int)==0)=false:=by simpa using t
    have e2:decide (l.length=0)=false:=by simpa using t
    have z:=Aa e2;go_wp2;go_region;go_wp2;go_meet;rw[L.out,z.out];exact⟨rfl,T.out.drew,E.out.drewN 1⟩
  |eU n=>
   have f:Ix p.decls.length n:=J.1;obtain⟨m,rfl⟩:∃m:Nat,n=(m:Int):=⟨n.toNat,by have:=f.1;omega⟩;have F:m<p.decls.length:=by have:=f.2;omega
   obtain⟨gq,cq,l,al,cl,rfl,V,K,q3,hm,X,Y,i,d0,_,M⟩:=H.out.queue F;have d:NR p.decls key r.s (.eU (m:Int))=(decide (0<(r.s.queue (m:Int)).length)&&decide (0<(Br (r.s.queue (m:Int))).aD)):=rfl;rw[i]at d;have L:=Aa d;clear i X d f J A o;unfold maxLen at K;unfold BV Bs at*;by_cases t:l.length=0
   ·have e1:decide ((0:Int)<(l.length:Int))=false:=Ck (by omega);have Z:decide (0<l.length)=false:=Ck (by omega);have z:=Aa Z;clear M;rw[t]at d0;clear Z;go_wp2;go_region;go_wp2;go_region;go_wp2;go_meet;rw[L.out,z.out];exact⟨rfl,T.out.drewN 2,E.out.drewN 2⟩
   ·obtain⟨U,be⟩:∃U,l.length=U+1:=⟨l.length-1,by omega⟩;obtain⟨gl,eR,el,_,q4,q5,q6⟩:=M.form (by omega);injection el with bt eW bu;subst bt bu;have bf:l[U]?=some (Br l):=by unfold Br Bm;rw[be,CL,Ae (by omega)];rfl
    have x1:=M.at_ (λ_=>rfl) bf (j:=1) (by omega);simp[Cd]at x1;have Z:decide (0<l.length)=true:=DX (by omega);have z:=Aa Z;have eY:IntKind.i64.wrap ((U:Int)+1-1)=(U:Int):=by rw[Int.add_sub_cancel];exact CU _ (by omega)
    have cZ:(0:Int)<(U:Int)+1:=by omega
    unfold maxLen at q5;rw[be]at d0 q4;clear M Z bf;generalize bg:(Br l).aD=lf at*;have eZ:=Aa bg;clear bg t;go_wp2;go_region;go_wp2;go_region;go_wp2;go_meet;rw[L.out,z.out];exact⟨rfl,T.out.drewN 2,E.out.drewN 2⟩
  |less a b=>
   have g:=HF.out;unfold IC Fk at g;simp only[Bx,CS,IN,and_true]at g;have Q:∀{u v:Ah},vs u=vs v->u=v:=λh=>by unfold vs at h;injection h with h;have h2:=AG (λb:ByteArray=>b.data.toList) h;simpa using h2
   have R:ci C n1=a:=bZ (Q g.1) (by have:=g.2.1;injection this);have S:ci D n3=b:=bZ (Q g.2.2.1) (by have:=g.2.2.2;injection this);have bh:∀W (_:Ac (λb=>w.heap.size<=b) w W) (_:AE W w.heap.size 260 [vs ER,.int .i64 0,vs C,.int .i64 n1,vs D,.int .i64 n3,.int .i64 bI]) (G:Ah) (m:Int),(G=C/\m=n1)\/(G=D/\m=n3)->
     Calls prog 159 #[.pointer (some ⟨gr,0,none⟩),.agg #[vs G,.int .i64 m]] W (λy w'=>y= .returned (.int .i64 (Jt key r.s (ci G m)))/\Ac (λb=>w.heap.size<=b) w w'/\AE w' w.heap.size 260 [vs ER,.int .i64 0,vs C,.int .i64 n1,vs D,.int .i64 n3,.int .i64 bI]):=by
    intro W O hr G m bx;have I:∀v,V2 p.decls v->Fk v=[vs G,.int .i64 m]->ci G m=v->Calls prog 159 #[.pointer (some ⟨gr,0,none⟩),.agg #[vs G,.int .i64 m]] W (λy w'=>y= .returned (.int .i64 (Jt key r.s (ci G m)))/\Ac (λb=>w.heap.size<=b) w w'/\AE w' w.heap.size 260 [vs ER,.int .i64 0,vs C,.int .i64 n1,vs D,.int .i64 n3,.int .i64 bI]):=by intro v hv he hd;have hc:=o.out v hv W O;rw[he]at hc;refine hc.mono ?_;rintro y w' ⟨h1,h2⟩;rw[hd];exact⟨h1,O.trans (h2.mono (λb hb=>Ad O.size hb)),hr.kept h2 (λe=>by have:=hr.lt;omega)⟩
    rcases bx with⟨rfl,rfl⟩|⟨rfl,rfl⟩
    ·exact I a J.1 (by show [vs (DR a),.int .i64 (C4 a)]=_;rw[show vs (DR a)=vs G from g.1,g.2.1]) R
    ·exact I b J.2 (by show [vs (DR b),.int .i64 (C4 b)]=_;rw[show vs (DR b)=vs G from g.2.2.1,g.2.2.2]) S
   have d:NR p.decls key r.s (.less a b)=decide (Jt key r.s (ci C n1)<Jt key r.s (ci D n3)):=by rw[R,S];rfl
   obtain⟨L,bj,K0,R0⟩:=zq4 d bh T.out.drew (E.out.drewN 1);clear d bh g R S J A o Q;unfold BV Bs at*;unfold vs at*;go_wp2_with fail
   go_region_law (first
    |(go_simp;go_at_call 159;refine(bj.out _ ka ra _ _ ?_).mono ?_;(first|exact .inl ⟨rfl,rfl⟩|exact .inr ⟨rfl,rfl⟩);rintro y w3 ⟨rfl,kb,rb⟩)
    |(go_simp;go_at_call 159;refine(bj.out _ K0.out R0.out _ _ ?_).mono ?_;(first|exact .inl ⟨rfl,rfl⟩|exact .inr ⟨rfl,rfl⟩);rintro y w2 ⟨rfl,ka,ra⟩;have bz:=ra.cell 2;have bC:=ra.cell 3;have bD:=ra.cell 4;have bE:=ra.cell 5;simp at bz bC bD bE))
   all_goals go_wp2
   all_goals go_meet
   all_goals
    rw[L.out];exact⟨rfl,kb,rb⟩
 case rest=>
  obtain⟨rfl,O,hr⟩:=hcut;have z6:=hr.cell 6;simp at z6;have HK:=Aa O;generalize NR p.decls key r.s k=b at*;clear O hr;rcases SU bI with⟨V,K⟩|⟨V,K⟩
  all_goals
   have qw:IntKind.i64.wrap ((bI:Int).tmod 2)=(bI:Int).tmod 2:=CU _ (by omega);rw[V]at qw;have ha:=A.out;rw[K]at ha;have HA:=Aa ha;clear ha A K;cases b
   all_goals
    go_wp2;go_ret;rw[HA.out];exact⟨rfl,HK.out⟩
end
end Go.Proofs.YtepoejiigmhlbaaGreatDoor.Ev
