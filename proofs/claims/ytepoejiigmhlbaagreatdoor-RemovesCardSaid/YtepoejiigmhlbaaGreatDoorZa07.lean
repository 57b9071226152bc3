/- Lemmas for a law's walk. Conditions: none. -/
import Derived.Test.YtepoejiigmhlbaaGreatDoorZa06
set_option linter.all false
set_option maxRecDepth 100000
set_option maxHeartbeats 8000000
namespace Go.Proofs.YtepoejiigmhlbaaGreatDoor.Ev
open _root_.Go.Proofs.Tryz
open Go Go.RowKit
section
variable {B:Nat}{ea:Nat->Addr}{w:World}{x:RV}{SA:Nat->Prop}{p:Ax}{key:Int}{A:Am}{v:VS}
def iC (tl:Bool):Int:=if tl then 1 else 0
theorem zU2 (h:Cq B w x SA p key A v) (he:Tr B ea w) (hp:p.decls.length<=8) (hg:v.r.gone.length<Dm) {t:Int}(tl:Bool) (ht:Ix p.decls.length t) (cL:(Aq p.decls t).kind≠2) (hm:QD p A key):
  Calls prog 54 #[.pointer (some ⟨x.gr,0,none⟩),.agg #[.int .u8 (iC tl),.int .i64 t,.int .i64 0]] w (Qb B ea w x p key v (JC p key (.put t tl) ⟨A,v.r.s.vars,v.r.gone⟩)):=by
 have bE:iC tl=0/\tl=false\/iC tl=1/\tl=true:=by cases tl;exact .inl ⟨rfl,rfl⟩;exact .inr ⟨rfl,rfl⟩
 generalize iC tl=so at*;have bn:JC p key (.put t tl) ⟨A,v.r.s.vars,v.r.gone⟩=if LY p.decls (A.out key) t then .error TW
  else .ok ⟨(A.out key).lK key (A.bo key) t.toNat tl,v.r.s.vars,if AW p.decls (A.cX key)&&!AW p.decls t then v.r.gone++[key]else v.r.gone⟩:=rfl
 rw[bn];clear bn;have ha:=h.grown ((Ac.refl _ w).alloc (Ab _) (.cells #[.int .u8 so,.int .i64 t,.int .i64 0] 131)) h.base;have cY:=he.kept ((Ac.refl (λb=>B<=b) w).alloc h.base (.cells #[.int .u8 so,.int .i64 t,.int .i64 0] 131)) (λb hb=>hb);obtain⟨iP,iQ,iR,iS,bp⟩:=ha.ar;have hw:=Pj bp hm.ok key;have E:=Gd ha hp hm.wh;obtain⟨vl,vf,vq,bm,cZ⟩:=ha.gQ;have ho:=Pp cZ (Cq.up _ SA) hm.ok (by have:=hm.q8;omega) key hm.un;obtain⟨c1,c2,s0,r1,r2⟩:=zp5 (h.row.cell 1) (h.row.cell 2) (h.bg.cell 0) h.row.lt h.bg.lt;have q1:¬x.gr=w.heap.size:=by omega
 have q2:¬x.gs=w.heap.size:=by omega
 have hR:AE (w.alloc (.cells #[.int .u8 so,.int .i64 t,.int .i64 0] 131)) w.heap.size 131 [.int .u8 so,.int .i64 t,.int .i64 0]:=AE.new w _ _;have da:¬(SA w.heap.size\/(w.alloc (.cells #[.int .u8 so,.int .i64 t,.int .i64 0] 131)).heap.size<=w.heap.size):=by
  rintro(h0|h0)
  ·have:=(h.sa _ h0).2;omega
  ·simp at h0;omega
 obtain⟨i0,eV,eW,eX,eY⟩:=Bg Rx;have q4:v.r.gone.length+1<=maxLen:=by unfold Dm at hg;unfold maxLen;omega
 have q5:(v.r.gone.length+1)*8<=140737488355328:=by unfold Dm at hg;omega
 have db:((t.toNat:Nat):Int)=t:=by have:=ht.1;omega
 obtain⟨HA,HE,HW,bq,HO,HB,R,HR⟩:=zq8 ha cY hw E ho h.base hm hR;obtain⟨dh,HT,fc,fd⟩:=zq4 da ht cL db;clear h he cY ha cZ bp hw E ho hm hR da ht cL hg db;simp at c1 c2 s0;have V:∀(w1:World) q u y,Ac (λb=>SA b\/(w.alloc (.cells #[.int .u8 so,.int .i64 t,.int .i64 0] 131)).heap.size<=b) (w.alloc (.cells #[.int .u8 so,.int .i64 t,.int .i64 0] 131)) w1->
   BJ (λb=>SA b\/(w.alloc (.cells #[.int .u8 so,.int .i64 t,.int .i64 0] 131)).heap.size<=b) w1 x.ga (A.out key) q u y bm->
   ∃n,Cq B w1 x n p key (A.out key) v/\AE w1 w.heap.size 131 [.int .u8 so,.int .i64 t,.int .i64 0]/\Ac (λb=>B<=b) w w1/\Tr B ea w1/\¬n w.heap.size:=by
  intro w1 q u y S f;exact⟨_,HA.out.dB S ⟨q,u,y,bm,f⟩,HR.out.kept S dh.out,((Ac.refl (λb=>B<=b) w).alloc HB.out _).trans (HA.out.fR S),HE.out.kept (HA.out.fR S) (λb hb=>hb),λh=>dh.out h.1⟩
 have HS:=Aa V;clear V;have fi:∃F,AW p.decls (A.cX key)=F:=⟨_,rfl⟩;obtain⟨F,E⟩:=fi;have J:=bq.out;rw[E]at J ⊢;have K:=Aa J;clear bq E J;cases X:LY p.decls (A.out key) t with
 |true=>
  have bi:=Aa X;clear X;rcases bE with⟨rfl,_⟩|⟨rfl,_⟩
  all_goals
   go_enter Im,GJ;go_wp2_with (first|(go_at_call 25;refine HW.out.mono ?_;rintro e w' ⟨rfl,rfl⟩)|(go_at_call 91;refine K.out.mono ?_;rintro e w' ⟨rfl,rfl⟩));refine HO.out.mono ?_;rintro e w1 ⟨rfl,S,q,u,y,f⟩;obtain⟨n,z,g,G,T,Y⟩:=HS.out w1 q u y S f;have d:=O4 z R.out.pS hp (R.out.len.trans R.out.ql) HT.out;rw[bi.out]at d;have l:=Aa d;have b1:=g.cell 1;have ef:=T.full;have U:=Aa G;clear S f z g G T Y d;simp at b1;go_wp2_with (go_at_call 89;refine l.out.mono ?_;rintro e w2 ⟨rfl,Z,rfl⟩);go_ret;exact⟨U.out.drewN _,rfl⟩
 |false=>
  have bi:=Aa X;have bu:=R.out.cin t HT.out fc.out X;have dj:=Aa bu;clear X bu;have dm:∀(w3:World) (x3:RV) (v3:VS) n,Cq B w3 x3 n p key (A.out key) v3->Calls prog 92 #[.pointer (some ⟨x3.ga,0,none⟩),.int .u64 key,.int .i64 (A.bo key),.int .i64 t,.bool tl] w3 λe w'=>
    e= .returned (.tuple #[])/\Ac (λb=>B<=b) w3 w'/\∃aD,Cq B w' x3 aD p key ((A.out key).lK key (A.bo key) t.toNat tl) v3:=by
   intro w3 x3 v3 n z;obtain⟨jj,jk,jl,fm,dr⟩:=z.gQ;have h1:=YL dr (Cq.up _ n) R.out.pS (by have:=R.out.q8;rw[R.out.len];omega) key (A.bo key) t.toNat tl dj.out;rw[fd.out]at h1;refine h1.mono ?_;rintro e w' ⟨rfl,H,fo,fp,ft,dt⟩;exact⟨rfl,z.fR H,_,z.dB H ⟨fo,fp,ft,fm,dt⟩⟩
  have dv:=Aa dm;clear dm;cases L:(F&&!AW p.decls t)with
  |false=>
   have M:F=false\/F=true/\AW p.decls t=true:=by
    cases F
    ·exact .inl rfl
    ·right;cases z:AW p.decls t with
     |true=>exact⟨rfl,rfl⟩
     |false=>rw[z]at L;cases L
   clear L;rcases bE with⟨rfl,rfl⟩|⟨rfl,rfl⟩
   all_goals
    rcases M with rfl|⟨rfl,bj⟩
    all_goals
     go_enter Im,GJ;go_wp2_with (first|(go_at_call 25;refine HW.out.mono ?_;rintro e w' ⟨rfl,rfl⟩)|(go_at_call 91;refine K.out.mono ?_;rintro e w' ⟨rfl,rfl⟩));refine HO.out.mono ?_;rintro e w1 ⟨rfl,S,q,u,y,f⟩;obtain⟨n,z,g,G,T,Y⟩:=HS.out w1 q u y S f;have d:=O4 z R.out.pS hp (R.out.len.trans R.out.ql) HT.out;rw[bi.out]at d;have l:=Aa d;obtain⟨b0,b1,x2⟩:=zp3 (g.cell 0) (g.cell 1) (z.row.cell 2);obtain⟨U,I⟩:=zq2 G z;clear S f z g G T Y d;simp at b0 b1 x2;go_wp2_with (go_at_call 89;refine l.out.mono ?_;rintro e w2 ⟨rfl,Z,rfl⟩)
     first
      |(refine G5 11 (by kernel_rfl) (by kernel_rfl) ?_)
      |(have i:=Gd (I.out.grown (w':=w1.drewN Z) (zAr.drewN _) I.out.base) hp (.inr HT.out)
        rw[bj]at i;have C:=Aa i;clear i;go_wp2_with (go_at_call 91;refine C.out.mono ?_;rintro e w' ⟨rfl,rfl⟩);refine G5 11 (by kernel_rfl) (by kernel_rfl) ?_)
     simp only[Au,AH,Av,AJ]
     repeat (go_big_quiet_step (fail))
     refine Ik ?_;intro nq;have hi:=λk=>dv.out (w1.drewN k) x v n (I.out.grown (zAr.drewN k) I.out.base);have HI:=Aa hi;clear hi;go_wp2_with (go_at_call 92;refine(HI.out _).mono ?_;rintro e w' ⟨rfl,H,D⟩;have bG:=Aa D;have bH:=Aa H;clear H D);go_ret;obtain⟨aD,D⟩:=bG.out;exact⟨(U.out.drewN _).trans bH.out,rfl,aD,x.iM,D⟩
  |true=>
   have M:F=true/\AW p.decls t=false:=by
    cases F
    ·cases L
    ·cases z:AW p.decls t with
     |true=>rw[z]at L;cases L
     |false=>exact⟨rfl,rfl⟩
   obtain⟨rfl,bj⟩:=M;have hH:=Aa bj;clear L bj;rcases bE with⟨rfl,rfl⟩|⟨rfl,rfl⟩
   all_goals
    go_enter Im,GJ;go_wp2_with (first|(go_at_call 25;refine HW.out.mono ?_;rintro e w' ⟨rfl,rfl⟩)|(go_at_call 91;refine K.out.mono ?_;rintro e w' ⟨rfl,rfl⟩));refine HO.out.mono ?_;rintro e w1 ⟨rfl,S,q,u,y,f⟩;obtain⟨n,z,g,G,T,Y⟩:=HS.out w1 q u y S f;have d:=O4 z R.out.pS hp (R.out.len.trans R.out.ql) HT.out;rw[bi.out]at d;have l:=Aa d;have b1:=g.cell 1;obtain⟨U,I,bx⟩:=zq3 G z g;clear S f z g G T Y d;simp at b1;go_wp2_with (go_at_call 89;refine l.out.mono ?_;rintro e w2 ⟨rfl,Z,rfl⟩);have N:=I.out.grown (w':=w1.drewN Z) (zAr.drewN _) I.out.base;have i:=Gd N hp (.inr HT.out);rw[hH.out]at i;have C:=Aa i;have dz:=N.qZ key;have d2:(w1.drewN Z).cell? ⟨x.gr,2,none⟩=some (.int .u64 key):=N.row.cell 2;have d6:(w1.drewN Z).cell? ⟨x.gr,6,none⟩=some x.iM:=N.row.cell 6;have df:∀j,(w1.drewN Z).frozen? ⟨x.gr,j,none⟩=false:=λj=>N.row.frozen j;have dl:x.gr<(w1.drewN Z).heap.size:=N.row.lt;have O:=U.out.drewN Z;have ba:=bx.out.drewN Z;obtain⟨m,hI,be⟩:=zq3 dz O ba;clear N i dz U I bx l O ba;go_wp2_with (go_at_call 91;refine C.out.mono ?_;rintro e w' ⟨rfl,rfl⟩);clear C b1;generalize w1.drewN Z=W at*;have dn:¬x.gr=W.heap.size:=by omega
    obtain⟨gr,gg,gp,gs,ga,vd,jr,jZ,lp,ky,li,gZ,lj⟩:=x;obtain⟨av,cv,rfl⟩:∃a c,gZ= .slice a v.r.gone.length c:=m.out.run.out.shape;have b4:((W.alloc (.cells #[.int .u64 key] 32)).drew).cell? ⟨gr,6,none⟩=some (.slice av v.r.gone.length cv):=m.out.run.row.cell 6;have fz:((W.alloc (.cells #[.int .u64 key] 32)).drew).frozen? ⟨gr,6,none⟩=false:=m.out.run.row.frozen 6;have bI:AE ((W.alloc (.cells #[.int .u64 key] 32)).drew) w.heap.size 131 [.int .u8 _,.int .i64 t,.int .i64 0]:=(be.out.alloc (.cells #[.int .u64 key] 32)).drew;have dA:¬((Value.slice av v.r.gone.length cv).ownBlock=some w.heap.size\/((W.alloc (.cells #[.int .u64 key] 32)).drew).heap.size<=w.heap.size):=by
     rintro(h0|h0)
     ·exact m.out.run.out.bD bI (by decide) h0
     ·have:=be.out.lt;simp at h0;omega
    obtain⟨B4,FZ,hQ,hU⟩:=zq4 b4 fz bI dA;clear b4 fz bI dA;simp only at*
    go_region_law (first
     |(refine EI Ew eV eW eX eY rfl (by decide) m.out.run.out m.out.base rfl _ _ (by rfl) (by rfl) ⟨W.heap.size,0,none⟩ 1 1 [.int .u64 key] (by rfl) (by rfl) m.out.cells m.out.one q4 q5 (by omega) ?_;intro g2 bf w2 eg O bz;have e1:=(O.cell (p:=⟨gr,6,none⟩) m.out.gr).trans B4.out;have e2:=(O.frozen (p:=⟨gr,6,none⟩) m.out.gr).trans FZ.out;have hY:=Aa eg;have cy:=Aa O;have hZ:=Aa bz;clear eg O bz))
    all_goals
     have o:=m.out.done w2 g2 bf hY.out cy.out hZ.out;have P:=hQ.out.kept cy.out hU.out;have eF:¬w.heap.size=gr:=P.bt (m.out.run.row.kept cy.out m.out.gr) (by decide);have Q:=P.dc (p:=⟨gr,6,none⟩) eF (.slice (some ⟨g2,0,none⟩) (v.r.gone.length+1) bf);obtain⟨b0,b1,x1,x2⟩:=zp4 (Q.cell 0) (Q.cell 1) (o.2.row.cell 1) (o.2.row.cell 2);have hi:=λk=>dv.out _ _ _ _ (o.2.grown (w':=(w2.setCell ⟨gr,6,none⟩ (.slice (some ⟨g2,0,none⟩) (v.r.gone.length+1) bf)).drewN k) (zAr.drewN k) o.2.base);obtain⟨HI,eG⟩:=zq2 hi o.1;clear o P Q hi e1 e2;simp at x1 x2 b0 b1;go_wp2;refine G5 11 (by kernel_rfl) (by kernel_rfl) ?_;simp only[Au,AH,Av,AJ]
     repeat (go_big_quiet_step (fail))
     refine Ik ?_;intro nq;go_wp2_with (go_at_call 92;refine(HI.out _).mono ?_;rintro e w' ⟨rfl,H,D⟩;have bG:=Aa D;have bH:=Aa H;clear H D);go_ret;obtain⟨aD,D⟩:=bG.out;exact⟨((hI.out.trans eG.out).drewN _).trans bH.out,rfl,aD,_,D⟩
end
def MT (B:Nat) (w:World) (x:RV) (SA:Nat->Prop) (p:Ax) (key:Int) (A:Am) (a:VS) (e:Ending) (w':World):Prop:=
 e= .returned (.tuple #[])/\Ac (λb=>B<=b) w w'/\∃u,Cq B w' {x with nO:=u} SA p key A a
section
variable {B:Nat}{w:World}{x:RV}{SA:Nat->Prop}{p:Ax}{key:Int}{A:Am}{v:VS}
theorem wG (h:Cq B w x SA p key A v) (a:v.stack.length<=1) (n:Int):
  Calls prog 53 #[.pointer (some ⟨x.gr,0,none⟩),.agg #[.int .u8 9,.int .i64 n,.int .i64 0]] w (MT B w x SA p key A {v with stack:=n::v.stack}):=by
 have b:=h.grown ((Ac.refl _ w).alloc (Ab _) (.cells #[.int .u8 9,.int .i64 n,.int .i64 0] 131)) h.base;have c:=Rm b a n;obtain⟨d,f⟩:=zq2 c h.base;clear h b c a;go_enter JO,It;go_wp2_with fail;refine d.out.mono ?_;rintro e w' ⟨rfl,g,u,i⟩;go_wp2;go_end0;exact⟨rfl,((Ac.refl _ w).alloc f.out _).trans g,u,i⟩
theorem wF (h:Cq B w x SA p key A v) (d:v.stack.length<=1) (o:v.r.s.vars.length<=8) {n:Int}(a:Ix v.r.s.vars.length n):
  Calls prog 53 #[.pointer (some ⟨x.gr,0,none⟩),.agg #[.int .u8 10,.int .i64 n,.int .i64 0]] w (MT B w x SA p key A {v with stack:=v.r.s.var n::v.stack}):=by
 have b:=h.grown ((Ac.refl _ w).alloc (Ab _) (.cells #[.int .u8 10,.int .i64 n,.int .i64 0] 131)) h.base;have f:=Rm (w:=(w.alloc (.cells #[.int .u8 10,.int .i64 n,.int .i64 0] 131)).drew) (b.grown zAr.drew b.base) d (v.r.s.var n);obtain⟨m,rfl⟩:∃m:Nat,n=(m:Int):=⟨n.toNat,by unfold Ix at a;omega⟩;have i:m<v.r.s.vars.length:=by unfold Ix at a;omega
 obtain⟨g,q,e,_,j,c,t⟩:=h.vars.form (by omega);have H:w.cell? ⟨g,m,none⟩=some (.int .i64 (v.r.s.var m)):=by have k:=h.vars;rw[e]at k;have y:=k.1.cellAt m (by simpa using i);refine y.trans ?_;unfold St.var;rw[As,At,Ae i];rfl
 obtain⟨z,l,r1,I⟩:=zp4 (h.row.cell 1) (h.bg.cell 1) h.row.lt h.bg.lt;rw[e]at l;have J:¬x.gr=w.heap.size:=by omega
 have K:¬x.gs=w.heap.size:=by omega
 have L:¬g=w.heap.size:=by omega
 obtain⟨C,E⟩:=zq2 f h.base;generalize v.r.s.var m=V at*;generalize v.r.s.vars.length=D at*;unfold maxLen at c;clear h b f d e a;simp at z l;go_enter JO,It;go_wp2_with fail
 (refine Ds 12 (by kernel_rfl) (by kernel_rfl) ?_;simp only[Au,AH,Av,AJ];repeat still_step)
 refine BS ?_;go_wp2_with fail;refine C.out.mono ?_;rintro e w' ⟨rfl,F,u,G⟩;go_wp2;go_end0;exact⟨rfl,(((Ac.refl _ w).alloc E.out _).drew).trans F,u,G⟩
theorem wI (h:Cq B w x SA p key A v) (i:v.stack.length<=1) (j:A.Ok) (k:A.qs.length<=8) {n:Int}(d:Ix A.qs.length n):
  Calls prog 53 #[.pointer (some ⟨x.gr,0,none⟩),.agg #[.int .u8 11,.int .i64 n,.int .i64 0]] w (MT B w x SA p key A {v with stack:=(MP A n:Int)::v.stack}):=by
 have f:=h.grown ((Ac.refl _ w).alloc (Ab _) (.cells #[.int .u8 11,.int .i64 n,.int .i64 0] 131)) h.base;have a:=f.grown (w':=(w.alloc (.cells #[.int .u8 11,.int .i64 n,.int .i64 0] 131)).drew) zAr.drew f.base;have g:=Rm a i (MP A n:Int);obtain⟨m,rfl⟩:∃m:Nat,n=(m:Int):=⟨n.toNat,by unfold Ix at d;omega⟩;obtain⟨z,C,D,E,b⟩:=a.ar;have c:=Ru b j m (by unfold Ix at d;omega) (by omega);obtain⟨l,o,r1,F⟩:=zp4 (h.row.cell 1) (h.bg.cell 0) h.row.lt h.bg.lt;have G:¬x.gr=w.heap.size:=by omega
 have H:¬x.gs=w.heap.size:=by omega
 have e:MP A (m:Int)=A.len m:=by unfold MP;rw[As]
 rw[e]at g ⊢;obtain⟨q,r,s⟩:=zq3 g c h.base;clear h f a g i e d b c j k;simp at l o;go_enter JO,It;go_wp2_with fail
 go_region_with (first|(go_at_call 86;refine r.out.mono ?_;rintro e w' ⟨rfl,rfl⟩)|(go_at_call 85;refine q.out.mono ?_;rintro e w' ⟨rfl,t,u,y⟩))
 all_goals
  go_wp2;go_end0;exact⟨rfl,(((Ac.refl _ w).alloc s.out _).drew).trans t,u,y⟩
theorem rj (h:Cq B w x SA p key A v) (f:v.stack.length<=1) (g:A.Ok):
  Calls prog 53 #[.pointer (some ⟨x.gr,0,none⟩),.agg #[.int .u8 12,.int .i64 0,.int .i64 0]] w (MT B w x SA p key A {v with stack:=A.eF key::v.stack}):=by
 have d:=h.grown ((Ac.refl _ w).alloc (Ab _) (.cells #[.int .u8 12,.int .i64 0,.int .i64 0] 131)) h.base;have a:=d.grown (w':=(w.alloc (.cells #[.int .u8 12,.int .i64 0,.int .i64 0] 131)).drew) zAr.drew d.base;have i:=Rm a f (A.eF key);obtain⟨r,s,t,y,b⟩:=a.ar;obtain⟨c,j,c2,k,r1,z⟩:=zp6 (bJ b g key) (h.row.cell 1) (h.row.cell 2) (h.bg.cell 0) h.row.lt h.bg.lt;have C:¬x.gr=w.heap.size:=by omega
 have D:¬x.gs=w.heap.size:=by omega
 obtain⟨l,m,n⟩:=zq3 i c h.base;clear h d a i f b c g;simp at j c2 k;go_enter JO,It;go_wp2_with fail
 go_region_with (first|(go_at_call 87;refine m.out.mono ?_;rintro e w' ⟨rfl,rfl⟩)|(go_at_call 85;refine l.out.mono ?_;rintro e w' ⟨rfl,o,u,q⟩))
 all_goals
  go_wp2;go_end0;exact⟨rfl,(((Ac.refl _ w).alloc n.out _).drew).trans o,u,q⟩
theorem wH (h:Cq B w x SA p key A v):
  Calls prog 53 #[.pointer (some ⟨x.gr,0,none⟩),.agg #[.int .u8 16,.int .i64 0,.int .i64 0]] w (MT B w x SA p key A {v with yes:=!v.yes}):=by
 have c:=h.grown ((Ac.refl _ w).alloc (Ab _) (.cells #[.int .u8 16,.int .i64 0,.int .i64 0] 131)) h.base;have a:=h.iS (!v.yes);have b:=a.grown (zAr.alloc (Ab _) (.cells #[.int .u8 16,.int .i64 0,.int .i64 0] 131)) a.base;have c4:=h.row.cell 4;have f:=λj=>h.row.frozen j;have r1:=h.row.lt;have i:¬x.gr=w.heap.size:=by omega
 obtain⟨d,e,g⟩:=zq3 b h.iL h.base;clear h c b a;simp at c4;go_enter JO,It;go_wp2;go_end0;exact⟨rfl,((Ac.refl _ w).setCell (p:=⟨x.gr,4,none⟩) e.out _).alloc (Ad g.out (by simp[World.setCell])) _,_,d.out⟩
theorem ri (h:Cq B w x SA p key A v) (b:A.Ok) (c:p.decls.length<=8) (d:A.qs.length=p.decls.length) {q:Int}(g:Ix p.decls.length q):
  Calls prog 53 #[.pointer (some ⟨x.gr,0,none⟩),.agg #[.int .u8 14,.int .i64 q,.int .i64 0]] w (MT B w x SA p key A {v with yes:=LY p.decls A q}):=by
 have a:=h.grown ((Ac.refl _ w).alloc (Ab _) (.cells #[.int .u8 14,.int .i64 q,.int .i64 0] 131)) h.base;have i:=O4 a b c d g;have c4:=h.row.cell 4;have f:=λj=>h.row.frozen j;have r1:=h.row.lt;have o:¬x.gr=w.heap.size:=by omega
 obtain⟨k,l,m,n⟩:=zq4 a i h.iL h.base;clear h a i b c d g;simp at c4;go_enter JO,It;go_wp2_with fail;refine l.out.mono ?_;rintro e w' ⟨rfl,nq,rfl⟩;go_wp2;go_end0;exact⟨rfl,(((Ac.refl _ w).alloc n.out _).drewN _).setCell (p:=⟨x.gr,4,none⟩) m.out _,_,(k.out.grown (w':=(w.alloc (.cells #[.int .u8 14,.int .i64 q,.int .i64 0] 131)).drewN nq) (zAr.drewN _) k.out.base).iS _⟩
theorem rh (h:Cq B w x SA p key A v) {b a:Int}{st:List Int}(m:v.stack=b::a::st) (r:v.stack.length<=2):
  Calls prog 53 #[.pointer (some ⟨x.gr,0,none⟩),.agg #[.int .u8 13,.int .i64 0,.int .i64 0]] w (MT B w x SA p key A {v with stack:=st,yes:=decide (a<b)}):=by
 have s:=h.grown ((Ac.refl _ w).alloc (Ab _) (.cells #[.int .u8 13,.int .i64 0,.int .i64 0] 131)) h.base;have t:=iD s m r;obtain⟨u,y⟩:=zq2 t h.base;have d:(a::st).length<=2:=by have:=AG List.length m;simp only[Af]at this ⊢;omega
 obtain⟨z,C⟩:=zq2 d h.iL;clear h s t m r d;go_enter JO,It;go_wp2_with fail;refine u.out.mono ?_;rintro e w1 ⟨rfl,g,F,i⟩;have k:=iD i rfl z.out;obtain⟨n,o⟩:=zq2 k g;clear k g i;go_wp2_with fail;refine n.out.mono ?_;rintro e D ⟨rfl,l,G,c⟩;have c4:=c.row.cell 4;have f:∀j,D.frozen? ⟨x.gr,j,none⟩=false:=λj=>c.row.frozen j;obtain⟨E,q⟩:=zq2 c l;clear c l;simp at c4;go_wp2;go_end0;exact⟨rfl,((((Ac.refl _ w).alloc y.out _).trans o.out).trans q.out).setCell (p:=⟨x.gr,4,none⟩) C.out _,_,E.out.iS _⟩
end
section
variable {B:Nat}{w:World}{x:RV}{SA:Nat->Prop}{p:Ax}{key:Int}{A:Am}{v:VS}
theorem mg (h:Cq B w x SA p key A v) (l:A.Ok) (q:A.qs.length<=8) {n:Int}(g:Ix A.qs.length n) (o:MP A n=0):
  Calls prog 53 #[.pointer (some ⟨x.gr,0,none⟩),.agg #[.int .u8 15,.int .i64 n,.int .i64 0]] w (MT B w x SA p key A {v with yes:=false}):=by
 have a:=h.grown ((Ac.refl _ w).alloc (Ab _) (.cells #[.int .u8 15,.int .i64 n,.int .i64 0] 131)) h.base;have i:=a.grown (w':=(w.alloc (.cells #[.int .u8 15,.int .i64 n,.int .i64 0] 131)).drew) zAr.drew a.base;obtain⟨m,rfl⟩:∃m:Nat,n=(m:Int):=⟨n.toNat,by unfold Ix at g;omega⟩;have e:A.len m=0:=by have:=o;unfold MP at this;rw[As]at this;exact this
 obtain⟨C,D,E,F,b⟩:=a.ar;have c:=λk=>(Ru (b.drewN k) l m (by unfold Ix at g;omega) (by omega)).mono λe' w' h=>(⟨by rw[h.1,e];rfl,h.2.symm⟩:e'= .returned (.int .i64 0)/\w'=(w.alloc (.cells #[.int .u8 15,.int .i64 m,.int .i64 0] 131)).drewN k);have r:=h.row.cell 1;have c4:=h.row.cell 4;have f:=λj=>h.row.frozen j;obtain⟨s,r1,G⟩:=zp3 (h.bg.cell 0) h.row.lt h.bg.lt;have H:¬x.gr=w.heap.size:=by omega
 have I:¬x.gs=w.heap.size:=by omega
 have d:=λk=>(a.grown (w':=(w.alloc (.cells #[.int .u8 15,.int .i64 m,.int .i64 0] 131)).drewN k) (zAr.drewN k) a.base).iS false;obtain⟨t,u,y,z⟩:=zq4 c h.base h.iL d;clear h a i e g b c l q o d;simp at r s c4;go_enter JO,It;go_wp2_with fail;refine G5 33 (by kernel_rfl) (by kernel_rfl) ?_;simp only[Au,AH,Av,AJ]
 repeat (go_big_quiet_step ((go_at_call 86;exact EB (t.out _))))
 refine Ik ?_;intro nq;go_wp2;go_end0;exact⟨rfl,(((Ac.refl _ w).alloc u.out _).drewN _).setCell (p:=⟨x.gr,4,none⟩) y.out _,_,z.out _⟩
theorem mf (h:Cq B w x SA p key A v) (o:A.Ok) (t:A.qs.length<=8) {n:Int}(q:Ix A.qs.length n) (s:0<MP A n):
  Calls prog 53 #[.pointer (some ⟨x.gr,0,none⟩),.agg #[.int .u8 15,.int .i64 n,.int .i64 0]] w (MT B w x SA p key A {v with yes:=decide (0<A.eF (A.tail n.toNat))}):=by
 have c:=h.grown ((Ac.refl _ w).alloc (Ab _) (.cells #[.int .u8 15,.int .i64 n,.int .i64 0] 131)) h.base;have r:=c.grown (w':=(w.alloc (.cells #[.int .u8 15,.int .i64 n,.int .i64 0] 131)).drew) zAr.drew c.base;obtain⟨m,rfl⟩:∃m:Nat,n=(m:Int):=⟨n.toNat,by unfold Ix at q;omega⟩;rw[As];have e:0<A.len m:=by have:=s;unfold MP at this;rw[As]at this;exact this
 have b:m<A.qs.length:=by unfold Ix at q;omega
 obtain⟨I,J,K,M,a⟩:=c.ar;have d:=λk=>(Ru (a.drewN k) o m b (by omega)).mono λe' w' h=>(⟨h.1,h.2.symm⟩:e'= .returned (.int .i64 (A.len m))/\w'=(w.alloc (.cells #[.int .u8 15,.int .i64 m,.int .i64 0] 131)).drewN k);have g:=λk=>ZV (a.drewN k) o m b (by omega);have i:=λk=>(bJ (a.drewN k) o (A.tail m)).mono λe' w' h=>(⟨h.1,h.2.symm⟩:e'= .returned (.int .i64 (A.eF (A.tail m)))/\w'=(w.alloc (.cells #[.int .u8 15,.int .i64 m,.int .i64 0] 131)).drewN k);have u:=h.row.cell 1;have c4:=h.row.cell 4;have f:=λj=>h.row.frozen j;obtain⟨y,r1,N⟩:=zp3 (h.bg.cell 0) h.row.lt h.bg.lt;have O:¬x.gr=w.heap.size:=by omega
 have P:¬x.gs=w.heap.size:=by omega
 have l:=λk=>(c.grown (w':=(w.alloc (.cells #[.int .u8 15,.int .i64 m,.int .i64 0] 131)).drewN k) (zAr.drewN k) c.base).iS (decide (0<A.eF (A.tail m)));generalize A.eF (A.tail m)=F at*;generalize A.tail m=T at*;have Q:decide ((A.len m:Int)>0)=true:=by simp;omega
 generalize A.len m=L at*;obtain⟨z,C,D,E,G,H⟩:=zq6 d g i h.base h.iL l;clear h c r q a d g i o t s l b;simp at u y c4;have R:(0:Int)<L:=by omega
 go_enter JO,It;go_wp2_with fail;refine G5 33 (by kernel_rfl) (by kernel_rfl) ?_;simp only[Au,AH,Av,AJ]
 repeat (go_big_quiet_step (first|(go_at_call 86;exact EB (z.out _))|(go_at_call 90;exact xu (C.out _))|(go_at_call 87;exact EB (D.out _))))
 refine Ik ?_;intro nq;go_wp2;go_end0;exact⟨rfl,(((Ac.refl _ w).alloc E.out _).drewN _).setCell (p:=⟨x.gr,4,none⟩) G.out _,_,H.out _⟩
end
section
variable {B:Nat}{ea:Nat->Addr}{w:World}{x:RV}{SA:Nat->Prop}{p:Ax}{key:Int}{A:Am}{ns:List (List Nat)}{v:VS}
theorem Cq.at_ (h:Cq B w x SA p key A v) (n:Nat):Cq B w x SA p key A {v with pc:=n}:=
 ⟨h.ro,h.row,h.bg,h.stack,h.loops,h.out,h.vars,h.ar,h.iL,h.mZ,h.sa,h.sr,h.ss,h.s1,h.s2,h.s3,h.s4,h.a1,h.a2,h.a3⟩
theorem qT (h:Cq B w x SA p key A v) (i:Tr B ea w) (b:Ej p) (c:CD A ns v.r.s.q) (d:GY p v.r.s) (f:v.r.gone.length<Dm) {y:D0}(a:J5 p.decls y):
  Calls prog 54 #[.pointer (some ⟨x.gr,0,none⟩),.agg (Cy (.bG y)).toArray] w (Qb B ea w x p key v (JC p key y ⟨A,v.r.s.vars,v.r.gone⟩)):=by
 have e:A.qs.length=p.decls.length:=by rw[←c.jh,d.q]
 have j:=b.decls.len;cases y with
 |put q tl=>
  have:=zU2 h i j f tl a.1 a.2 (Rt c d b key);cases tl<;>exact this
 |bx q=>exact YW h i b f (y:=.bx q) a rfl a c.ok e (λ_=>Rt c d b _)
 |dz q=>exact YW h i b f (y:=.dz q) a rfl a c.ok e (λ_=>Rt c d b _)
 |shift q t tl=>
  have:=YW h i b f (y:=.shift q t tl) a rfl a.1 c.ok e (λ_=>Rt c d b _);cases tl<;>exact this
 |inc n=>
  obtain⟨z,o,g,k,u⟩:=QX d a;have l:0<=v.r.s.var n:=by rw[g];exact k
  have m:v.r.s.var n<=99:=by have:=(Vm b a).2.1;rw[g];omega
  exact qS (by_:=1) (n:=n) h j d.v a (.inl rfl) l m (Vm b a).2.1
 |dec n=>
  obtain⟨z,o,g,k,u⟩:=QX d a;have l:0<=v.r.s.var n:=by rw[g];exact k
  have m:v.r.s.var n<=99:=by have:=(Vm b a).2.1;rw[g];omega
  exact qS (by_:= -1) (n:=n) h j d.v a (.inr rfl) l m (Vm b a).2.1
 |drop=>exact wg h j f (Rt c d b key)
 |bump=>exact wj h b c.ok
def Anp (B:Nat) (ea:Nat->Addr) (w:World) (x:RV) (p:Ax) (key:Int) (v:VS) (a:Except Nat DN) (e:Ending) (w':World):Prop:=
 Ac (λb=>B<=b) w w'/\match a with
  | .error k=>e= .returned (Dq ea k)
  | .ok r'=>e= .returned .nilIface/\∃c u f d,Cq B w' {x with iM:=u} c p key f {v with r:=r'}/\CD f d r'.s.q/\GY p r'.s
theorem we (h:Cq B w x SA p key A v) (o:Tr B ea w) (i:Ej p) (j:CD A ns v.r.s.q) (l:GY p v.r.s) (t:v.r.gone.length<Dm) {y:D0}(m:J5 p.decls y):
  Calls prog 54 #[.pointer (some ⟨x.gr,0,none⟩),.agg (Cy (.bG y)).toArray] w (Anp B ea w x p key v (bG p key y v.r)):=by
 have b:=YB j l i key y m v.r.gone;refine(qT h o i j l t m).mono ?_;rintro e w' ⟨z,c⟩;refine⟨z,?_⟩;have C:(⟨v.r.s,v.r.gone⟩:DN)=v.r:=rfl;rw[C]at b;cases n:bG p key y v.r with
 |error k=>
  rw[n]at b;simp only at b;rw[b]at c;exact c
 |ok r'=>
  rw[n]at b;obtain⟨D,d,E,F,G⟩:=b;rw[E]at c;obtain⟨f,g,u,a⟩:=c;refine⟨f,g,u,D,d,?_,F,G⟩;exact⟨a.ro,a.row,a.bg,a.stack,a.loops,a.out,a.vars,a.ar,a.iL,a.mZ,a.sa,a.sr,a.ss,a.s1,a.s2,a.s3,a.s4,a.a1,a.a2,a.a3⟩
def XL:Gk->Bool
 | .num _=>true
 | .var _=>true
 | .len _=>true
 | .aD=>true
 | .less=>true
 | .full _=>true
 | .eU _=>true
 | .not=>true
 |_=>false
theorem wJ (h:Cq B w x SA p key A v) (J:Ej p) (f:CD A ns v.r.s.q) (m:GY p v.r.s) (o:v.stack.length<=2) {i:Gk}(K:XL i=true) {l:VS}(c:Ey p key v i=some (.inl l)):
  Calls prog 53 #[.pointer (some ⟨x.gr,0,none⟩),.agg (Cy i).toArray] w (MT B w x SA p key A l)/\l.pc=v.pc+1/\l.r=v.r/\l.loops=v.loops/\l.stack.length<=2:=by
 have j:A.qs.length=p.decls.length:=by rw[←f.jh,m.q]
 have L:=J.decls.len;have g:(⟨v.r.s.q,v.r.s.vars⟩:St)=v.r.s:=rfl;cases i with
 |num n=>
  simp only[Ey]at c;split at c
  ·injection c with c;injection c with c;subst c;rename_i d;exact⟨wG (h.at_ (v.pc+1)) d n,rfl,rfl,rfl,by simp;omega⟩
  ·cases c
 |var n=>
  simp only[Ey]at c;split at c
  ·injection c with c;injection c with c;subst c;rename_i d;have C:v.r.s.vars.length=p.decls.length:=m.v;exact⟨wF (h.at_ (v.pc+1)) d.2 (by show v.r.s.vars.length<=8;omega) (by show Ix v.r.s.vars.length n;rw[C];exact d.1),rfl,rfl,rfl,by have:=d.2;simp;omega⟩
  ·cases c
 |len n=>
  simp only[Ey]at c;split at c
  ·injection c with c;injection c with c;subst c;rename_i d;have t:Ix v.r.s.q.length n:=by rw[m.q];exact d.1
   have e:=NY (s:=v.r.s) f t;have:=wI (h.at_ (v.pc+1)) d.2 f.ok (by omega) (n:=n) (by rw[j];exact d.1);rw[e]at this;exact⟨this,rfl,rfl,rfl,by have:=d.2;simp;omega⟩
  ·cases c
 |aD=>
  simp only[Ey]at c;split at c
  ·injection c with c;injection c with c;subst c;rename_i d;have e:=f.ig v.r.s.vars key;rw[g]at e;have:=rj (h.at_ (v.pc+1)) d f.ok;rw[e]at this;exact⟨this,rfl,rfl,rfl,by simp;omega⟩
  ·cases c
 |less=>
  simp only[Ey]at c;split at c
  ·injection c with c;injection c with c;subst c;rename_i b a st F;have M:v.stack.length=st.length+2:=by rw[F];rfl
   exact⟨rh (h.at_ (v.pc+1)) F o,rfl,rfl,rfl,by simp;omega⟩
  ·cases c
 |full n=>
  simp only[Ey]at c;split at c
  ·injection c with c;injection c with c;subst c;rename_i d;have t:Ix v.r.s.q.length n:=by rw[m.q];exact d
   have e:=NY (s:=v.r.s) f t;have:=ri (h.at_ (v.pc+1)) f.ok L j d;unfold LY at this;rw[e]at this;exact⟨this,rfl,rfl,rfl,o⟩
  ·cases c
 |eU n=>
  simp only[Ey]at c;split at c
  ·injection c with c;injection c with c;subst c;rename_i d;have t:Ix v.r.s.q.length n:=by rw[m.q];exact d
   have k:Ix A.qs.length n:=by rw[j];exact d
   have e:=NY (s:=v.r.s) f t;by_cases D:MP A n=0
   ·have:=mg (h.at_ (v.pc+1)) f.ok (by omega) k D;have E:(decide (0<(v.r.s.queue n).length)&&decide (0<(Br (v.r.s.queue n)).aD))=false:=by rw[←e,D];rfl
    rw[E];exact⟨this,rfl,rfl,rfl,o⟩
   ·have:=mf (h.at_ (v.pc+1)) f.ok (by omega) k (by omega);have u:v.r.s.queue n≠ []:=by intro N;rw[N]at e;exact D e
    have G:n.toNat<A.qs.length:=by unfold Ix at k;omega
    have y:((n.toNat:Nat):Int)=n:=by have:=d.1;omega
    have H:=f.lS v.r.s.vars G (by rw[g,y];exact u);rw[g,y]at H;have I:=f.ig v.r.s.vars (A.tail n.toNat);rw[g]at I;have z:=f.gZ v.r.s.vars G (by rw[g,y];exact u);rw[g,y,←H]at z;have E:eF v.r.s (A.tail n.toNat)=(Br (v.r.s.queue n)).aD:=by unfold eF;rw[z];simp only;rw[y];rfl
    rw[I,E]at this;have O:(decide (0<(v.r.s.queue n).length)&&decide (0<(Br (v.r.s.queue n)).aD))=decide (0<(Br (v.r.s.queue n)).aD):=by rw[←e,DX (by omega)];rfl
    rw[O];exact⟨this,rfl,rfl,rfl,o⟩
  ·cases c
 |not=>
  simp only[Ey]at c;injection c with c;injection c with c;subst c;exact⟨wH (h.at_ (v.pc+1)),rfl,rfl,rfl,o⟩
 |_=>cases K
end
end Go.Proofs.YtepoejiigmhlbaaGreatDoor.Ev
namespace Go.Proofs.YtepoejiigmhlbaaGreatDoor.Ev
open _root_.Go.Proofs.Tryz
open Go
theorem Ox {P:Program}{a:Act}{w:World}{Q:Exit->Act->World->Prop}{c X:Code}(l:Nat) (J:Nat->Act->World->Prop) (B:findLabel c l=some (Code.skip.seq X))
  (first:(∀k a w,J k a w->X.wp P (Exit.jump l (λp w'=>∃f,J f p w') Q) a w)->c.wp P (Exit.jump l (λp w'=>∃f,J f p w') Q) a w)
  (i:∀k a w,J k a w->X.wp P (Exit.jump l (λp w'=>∃f,f<k/\J f p w') Q) a w):(Code.scope c).wp P Q a w:=by
 have first:=first λk a w s=>Code.wp_mono (λe a w h=>by
  cases e with
  |goto l'=>obtain⟨C,f,_,D⟩:=h;exact⟨C,f,D⟩
  |_=>exact h) (i k a w s)
 have i:∀k a w,J k a w->(Code.skip.seq X).wp P (Exit.jump l (λp w'=>∃f,f<k/\J f p w') Q) a w:=λk a w h=>wp_seq (wp_skip (i k a w h));intro b k cs;have A:gotoIn l (.inScope c::k)=some (.code (Code.skip.seq X):: .inScope c::k):=by simp[gotoIn,B]
 have key:∀n a w,J n a w->∃e p w',Q e p w'/\Arrives P (lone (b.at a (.code (Code.skip.seq X):: .inScope c::k)) cs w) b k cs e p w':=by
  intro n
  induction n using Nat.strongRecOn with
  |_ n E=>
   intro a w s;obtain⟨e,j,m,o,d⟩:=i n a w s b (.inScope c::k) cs;cases e with
   |normal=>exact⟨.normal,j,m,o,Steps.trans d (.one step_inScope)⟩
   |exit id=>exact⟨.exit id,j,m,o,λf t=>d f (by simp[exitTo,t])⟩
   |goto l'=>
    obtain⟨rfl,u,v,q⟩:=o;obtain⟨x,y,z,r,g⟩:=E u v j m q;exact⟨x,y,z,r,.of_steps (d _ A) g⟩
   |ret=>exact⟨_,j,m,o,d⟩
   |panic ch=>exact⟨_,j,m,o,d⟩
   |outgrown=>exact⟨_,j,m,o,d⟩
 obtain⟨e,j,m,o,d⟩:=first b (.inScope c::k) cs
 cases e with
 |normal=>exact⟨.normal,j,m,o,.head T0 (Steps.trans d (.one step_inScope))⟩
 |exit id=>exact⟨.exit id,j,m,o,λf t=>.head T0 (d f (by simp[exitTo,t]))⟩
 |goto l'=>
  obtain⟨rfl,u,q⟩:=o;obtain⟨x,y,z,r,g⟩:=key u j m q;exact⟨x,y,z,r,.of_steps (.head T0 (d _ A)) g⟩
 |ret=>exact⟨_,j,m,o,.of_steps (.one T0) d⟩
 |panic ch=>exact⟨_,j,m,o,.of_steps (.one T0) d⟩
 |outgrown=>exact⟨_,j,m,o,.of_steps (.one T0) d⟩
theorem Lc (a:Act) (F:(Nat->Value)->Act) (h:a=F (λi=>a.tmps.getD i undef)):∃u,a=F u:=⟨_,h⟩
end Go.Proofs.YtepoejiigmhlbaaGreatDoor.Ev
namespace Go.Proofs.YtepoejiigmhlbaaGreatDoor.Ev
open _root_.Go.Proofs.Tryz
open Go Go.RowKit
structure yT (B:Nat) (w:World) (gs ga:Nat) (mQ:Value) (SA:Nat->Prop) (A:Am) (vars:List Int):Prop where
 bg:AE w gs 71 [.pointer (some ⟨ga,0,none⟩),mQ]
 vars:Sl (λb=>B<=b) w 3 1 mQ vars.length (vars.map Jv)
 ar:∃vl vf vq bm,BJ SA w ga A vl vf vq bm
 mZ:B<=gs
 sa:∀b,SA b->B<=b/\b<w.heap.size
 ss:¬SA gs
 s4:∀b,mQ.ownBlock=some b->¬SA b
section
variable {B:Nat}{ea:Nat->Addr}{w:World}{x:RV}{SA:Nat->Prop}{p:Ax}{key:Int}{A:Am}{ns:List (List Nat)}{v:VS}
theorem Cq.state (h:Cq B w x SA p key A v):yT B w x.gs x.ga x.mQ SA A v.r.s.vars:=⟨h.bg,h.vars,h.ar,h.mZ,h.sa,h.ss,h.s4⟩
theorem Cq.ln (h:Cq B w x SA p key A v) {g j:Nat}(e:x.ll= .slice (some ⟨g,0,none⟩) v.loops.length j) (c:Nat) (n:Int):
  Cq B (w.setCell ⟨g,c,none⟩ (.int .i64 n)) x SA p key A {v with loops:=v.loops.set c n}:=by
 have l:=h.loops.pR Jv (i:=c) e n;have f:Ac (λb=>b=g) w (w.setCell ⟨g,c,none⟩ (.int .i64 n)):=Ac.one _ ⟨g,c,none⟩ _;have a:x.ll.ownBlock=some g:=by rw[e];rfl
 obtain⟨m,o,q,r,k⟩:=h.ar;exact⟨h.ro.kept f (λb d=>d▸h.loops.2 g a),h.row.kept f (λe=>h.loops.bD h.row (by decide) (e▸a)),h.bg.kept f (λe=>h.loops.bD h.bg (by decide) (e▸a)),h.stack.kept f (λb d e=>h.a1 b d (e▸a)),l,
  h.out.kept f (λb d e=>h.loops.eZ h.out (by decide) b (e▸a) d),h.vars.kept f (λb d e=>h.a3 b (e▸a) d),⟨m,o,q,r,k.kept f (λb d e=>h.s2 b (e▸a) d)⟩,h.iL,h.mZ,
  λb d=>⟨(h.sa b d).1,An (h.sa b d).2 f.size⟩,h.sr,h.ss,h.s1,h.s2,h.s3,h.s4,h.a1,h.a2,h.a3⟩
def gS (B:Nat) (ea:Nat->Addr) (w0:World) (gs:Nat) (p:Ax) (d:Except Nat DN) (e:Ending) (w':World):Prop:=
 Ac (λb=>B<=b) w0 w'/\match d with
  | .error k=>e= .returned (.tuple #[.slice none 0 0,Dq ea k])
  | .ok r=>∃a f c SA A ns,e= .returned (.tuple #[a,.nilIface])/\yT B w' gs f c SA A r.s.vars/\CD A ns r.s.q/\GY p r.s/\
    Sl (λb=>B<=b) w' 32 1 a r.gone.length (r.gone.map Kp)/\(∀b,a.ownBlock=some b->¬SA b/\b≠gs/\c.ownBlock≠some b)
def U2 (b gs gr c n a pc:Nat) (d key:Int) (u:Nat->Value):Act:=
 {tmps:=#[.pointer (some ⟨b,0,none⟩),.pointer (some ⟨gs,0,none⟩),.int .i64 d,.int .u64 key,u 4,u 5,u 6,u 7,.slice none 0 0,.nilIface,.slice (some ⟨c,0,none⟩) n a,.bool true,.pointer (some ⟨gr,0,none⟩),.int .i64 pc,u 14,u 15,u 16,u 17,u 18,u 19,u 20,u 21,u 22,u 23,u 24,u 25,u 26,u 27,u 28,u 29,u 30,u 31,u 32,u 33,u 34,u 35,u 36,u 37,u 38,u 39,u 40,u 41,u 42,u 43,u 44,u 45,u 46,u 47,u 48,u 49,u 50,u 51,u 52,u 53,u 54,u 55,u 56,u 57,u 58,u 59,u 60,u 61,u 62,u 63,u 64,u 65,u 66,u 67,u 68,u 69,u 70,u 71,u 72,u 73,u 74,u 75,u 76,u 77,u 78,u 79,u 80,u 81,u 82,u 83,u 84,u 85,u 86,u 87,u 88,u 89,u 90,u 91,u 92,u 93,u 94,u 95,u 96,u 97,u 98,u 99,u 100,u 101,u 102,u 103,u 104,u 105,u 106,u 107,u 108,u 109],defers:=[]}
def Anm (B:Nat) (ea:Nat->Addr) (w0:World) (x:RV) (p:Ax) (e key:Int) (code:List Gk) (f c:Nat) (d:Except Nat DN) (k:Nat) (a:Act) (w:World):Prop:=
 ∃(v:VS) (st g:Value) (SA:Nat->Prop) (A:Am) (ns:List (List Nat)),(∃u,a=U2 x.gg x.gs x.gr f code.length c v.pc e key u)/\UN p key code k v=some d/\
  Cq B w {x with nO:=st,iM:=g} SA p key A v/\CD A ns v.r.s.q/\GY p v.r.s/\v.stack.length<=2/\(∀n∈v.loops,0<=n/\n<=50)/\Ac (λb=>B<=b) w0 w
end
end Go.Proofs.YtepoejiigmhlbaaGreatDoor.Ev
namespace Go.Proofs.YtepoejiigmhlbaaGreatDoor.Ev
open _root_.Go.Proofs.Tryz
theorem Hg {p:Ax}{key:Int}(P:DN->Prop) (a:∀x r r',J5 p.decls x->P r->bG p key x r= .ok r'->P r'):∀(b:Az) (r r':DN),Mz p.decls b->P r->exec p key b r= .ok r'->P r'
 | .nil,r,r',_,h,e=>by rw[exec]at e;injection e with e;rw[←e];exact h
 | .bG x b,r,r',g,h,e=>by
  rw[exec]at e;split at e
  ·rename_i r1 e1;exact Hg P a b r1 r' g.2 (a x r r1 g.1 h e1) e
  ·cases e
 | .ite c t o j b,r,r',⟨_,d,f,k,_⟩,h,e=>by
  rw[exec]at e;split at e
  ·rename_i r1 e1;refine Hg P a b r1 r' k ?_ e;split at e1
   ·exact Hg P a t r r1 d h e1
   ·split at e1
    ·exact Hg P a j r r1 f h e1
    ·injection e1 with e1;rw[←e1];exact h
  ·cases e
 | .rep n c x b,r,r',⟨_,d,f,_⟩,h,e=>by
  rw[exec]at e;split at e
  ·rename_i r1 e1;refine Hg P a b r1 r' f ?_ e;have l:∀(m:Nat) (r r1:DN),P r->Gr (λs=>BD p.decls key s c) (exec p key x) m r= .ok r1->P r1:=by
    intro m
    induction m with
    |zero=>intro r r1 h e;rw[Gr]at e;injection e with e;rw[←e];exact h
    |succ m q=>
     intro r r1 h e;rw[Gr]at e;split at e
     ·split at e
      ·rename_i i u;exact q i r1 (Hg P a x r i d h u) e
      ·cases e
     ·injection e with e;rw[←e];exact h
   exact l _ _ _ h e1
  ·cases e
def Np (s:St) (i:Nat) (x:Int):Prop:=∃l,s.q[i]?=some l/\x∈l.map (·.key)
structure Ag4 (s:St):Prop where
 nd:∀(i:Nat) l,s.q[i]?=some l->(l.map (·.key)).Nodup
 one:∀i j x,Np s i x->Np s j x->i=j
theorem CD.once {A:Am}{g:List (List Nat)}{s:St}(h:CD A g s.q):Ag4 s:=by
 have at_:∀i x,Np s i x->∃l n,g[i]?=some l/\n∈l/\(A.node n).key=x:=by
  rintro i x ⟨l,c,z⟩;rw[h.mX,At]at c;cases d:g[i]? with
  |none=>rw[d]at c;cases c
  |some m=>
   rw[d]at c;simp only[B8,Cm]at c;subst c;rw[Iz]at z;obtain⟨n,o,t⟩:=AD.1 z;exact⟨m,n,rfl,o,t⟩
 constructor
 ·intro i l c;rw[h.mX,At]at c;cases d:g[i]? with
  |none=>rw[d]at c;cases c
  |some m=>
   rw[d]at c;simp only[B8,Cm]at c;subst c;rw[Iz];have u:=h.nodup i m d;have v:∀a∈m,∀b∈m,(A.node a).key=(A.node b).key->a=b:=λa w b f e=>(h.uniq d w d f e).1;have:∀(m':List Nat),m'.Nodup->(∀a∈m',a∈m)->(m'.map ((λe:Gm=>e.key)∘CV A)).Nodup:=by
    intro m'
    induction m' with
    |nil=>intro _ _;exact Xa
    |cons a m' B=>
     intro C y;have k:=By.1 C;rw[BR,By];refine⟨λD=>?_,B k.2 (λb f=>y b (GQ _ f))⟩;obtain⟨b,f,e⟩:=AD.1 D;have:=v b (y b (GQ _ f)) a (y a (Lm ..)) e;exact k.1 (this▸f)
   exact this m u (λa w=>w)
 ·intro i j x E F;obtain⟨l,n,k,G,H⟩:=at_ i x E;obtain⟨l',L,I,J,K⟩:=at_ j x F;exact(h.uniq k G I J (H.trans K.symm)).2
theorem Ro {key:Int}:∀{L:List Gm}{i j:Nat},C5 key L i=some j->i<=j/\∃e,L[j-i]?=some e/\e.key=key
 | [],_,_,h=>by cases h
 |e::L,i,j,h=>by
  unfold C5 at h;split at h
  ·rename_i a;injection h with h;subst h;exact⟨Ab _,e,by simp,a⟩
  ·obtain⟨d,x,b,c⟩:=Ro h;refine⟨by omega,x,?_,c⟩;have:j-i=(j-(i+1))+1:=by omega
   rw[this];exact b
theorem Rn {key:Int}:∀{L:List Gm}{i:Nat},C5 key L i=none->∀e∈L,e.key≠key
 | [],_,_,_,h=>by cases h
 |e::L,i,h,x,a=>by
  unfold C5 at h;split at h
  ·cases h
  ·rename_i b;rcases A3.1 a with rfl|a
   ·exact b
   ·exact Rn h x a
theorem QV {key:Int}:∀{q:List (List Gm)}{a k i:Nat},DV key q a=some (k,i)->a<=k/\∃l e,q[k-a]?=some l/\l[i]?=some e/\e.key=key
 | [],_,_,_,h=>by cases h
 |l::q,a,k,i,h=>by
  unfold DV at h;split at h
  ·rename_i j f;injection h with h;injection h with d b;subst d b;obtain⟨_,e,c,g⟩:=Ro f;exact⟨Ab _,l,e,by simp,c,g⟩
  ·obtain⟨d,l',e,b,c⟩:=QV h;refine⟨by omega,l',e,?_,c⟩;have:k-a=(k-(a+1))+1:=by omega
   rw[this];exact b
theorem QU {key:Int}:∀{q:List (List Gm)}{a:Nat},DV key q a=none->∀l∈q,∀e∈l,e.key≠key
 | [],_,_,_,h=>by cases h
 |l::q,a,h,m,b=>by
  unfold DV at h;split at h
  ·cases h
  ·rename_i c;rcases A3.1 b with rfl|b
   ·exact Rn c
   ·exact QU h m b
theorem Ld {s:St}{key:Int}{k i:Nat}(h:s.find key=some (k,i)):∃l e,s.q[k]?=some l/\l[i]?=some e/\e.key=key/\s.queue (k:Int)=l/\Bm (s.queue (k:Int)) i=e:=by
 obtain⟨_,l,e,a,b,d⟩:=QV h;rw[Nat.sub_zero]at a;have c:s.queue (k:Int)=l:=by unfold St.queue;simp[a]
 exact⟨l,e,a,b,d,c,by unfold Bm;rw[c,b];rfl⟩
theorem VP {s:St}{key:Int}{k i:Nat}(h:s.find key=some (k,i)):Np s k key:=by obtain⟨l,e,a,b,c,_⟩:=Ld h;exact⟨l,a,AD.2 ⟨e,Aw b,c⟩⟩
theorem vZ {s:St}{key:Int}(h:s.find key=none) (i:Nat):¬Np s i key:=by rintro⟨l,a,b⟩;obtain⟨e,c,d⟩:=AD.1 b;exact QU h l (Aw a) e c d
theorem iX {α:Type}{l:List α}{k j:Nat}{x y:α}(h:(l.set k x)[j]?=some y):(j=k/\k<l.length/\y=x)\/(j≠k/\l[j]?=some y):=by
 rw[Bk]at h;split at h
 ·rename_i e;split at h
  ·injection h with h;exact .inl ⟨e.symm,by assumption,h.symm⟩
  ·cases h
 ·rename_i e;exact .inr ⟨λe'=>e e'.symm,h⟩
theorem V0 {s:St}{k:Nat}{l l':List Gm}(d:s.q[k]?=some l) (j:Nat) (x:Int):
  Np {s with q:=s.q.set k l'} j x↔(j=k/\x∈l'.map (·.key))\/(j≠k/\Np s j x):=by
 have b:=(Aj.1 d).1;constructor
 ·rintro⟨m,c,a⟩;rcases iX c with⟨e,_,rfl⟩|⟨e,f⟩
  ·exact .inl ⟨e,a⟩
  ·exact .inr ⟨e,m,f,a⟩
 ·rintro(⟨rfl,h⟩|⟨e,m,c,a⟩)
  ·exact⟨l',by rw[Bk,Al rfl,Al b],h⟩
  ·exact⟨m,by rw[BT (λe'=>e e'.symm)];exact c,a⟩
structure Zi (p:Ax) (key:Int) (s0:St) (r:DN):Prop where
 inv:∃A ns,CD A ns r.s.q
 si:GY p r.s
 told:∀(i:Nat) x,AW p.decls (i:Int)=true->Np s0 i x->(∃j:Nat,AW p.decls (j:Int)=true/\Np r.s j x)\/x∈r.gone
 qi:∀j x,Np r.s j x->x=key\/∃i,Np s0 i x
 mJ:∀(j:Nat) x,Np r.s j x->(Aq p.decls (j:Int)).kind≠2
theorem Vl {l:List Gm}{i:Nat}{x:Int}(h:x∈(l.eraseIdx i).map (·.key)):x∈l.map (·.key):=by obtain⟨e,a,b⟩:=AD.1 h;exact AD.2 ⟨e,Sx a,b⟩
theorem T4 {l:List Gm}{i:Nat}{e:Gm}{x:Int}(d:l[i]?=some e) (f:x∈l.map (·.key)):x=e.key\/x∈(l.eraseIdx i).map (·.key):=by
 obtain⟨y,g,c⟩:=AD.1 f;obtain⟨j,a⟩:=JQ g;by_cases b:j=i
 ·subst b;rw[d]at a;injection a with a;left;rw[←c,←a]
 ·right;refine AD.2 ⟨y,?_,c⟩;rw[mB];exact⟨j,b,a⟩
theorem Vg {s:St}{k i:Nat}{l:List Gm}{e:Gm}(b:s.q[k]?=some l) (f:l[i]?=some e) (j:Nat) (x:Int):
  (Np (s.out k i) j x->Np s j x)/\(Np s j x->Np (s.out k i) j x\/(j=k/\x=e.key)):=by
 have g:s.out k i={s with q:=s.q.set k (l.eraseIdx i)}:=by unfold St.out;rw[b];rfl
 rw[g];constructor
 ·intro h;rcases(V0 b j x).1 h with⟨rfl,a⟩|⟨_,a⟩
  ·exact⟨l,b,Vl a⟩
  ·exact a
 ·intro h;by_cases d:j=k
  ·subst d;obtain⟨m,a,n⟩:=h;rw[b]at a;injection a with a;subst a;rcases T4 f n with c|c
   ·exact .inr ⟨rfl,c⟩
   ·exact .inl ((V0 b j x).2 (.inl ⟨rfl,c⟩))
  ·exact .inl ((V0 b j x).2 (.inr ⟨d,h⟩))
theorem VZ {l:List Bi}{e:Gm}{f t:Int}{tl:Bool}{r r':DN}(h:JA l e f t tl r= .ok r') (k:Ix r.s.q.length t):
  (∀(j:Nat) x,Np r'.s j x↔Np r.s j x\/(j=t.toNat/\x=e.key))/\r'.gone=(if AW l t then r.gone else if AW l f then r.gone++[e.key]else r.gone):=by
 obtain⟨v,w⟩:=k;have d:t.toNat<r.s.q.length:=by omega
 have g:r.s.q[t.toNat]?=some (r.s.queue t):=by unfold St.queue;rw[Ae d];rfl
 unfold JA at h;split at h
 ·cases h
 ·injection h with h;have n:r'.s={r.s with q:=r.s.q.set t.toNat (if tl then r.s.queue t++[e]else e::r.s.queue t)}:=by
   rw[←h];split
   ·rfl
   ·unfold DN.leaves;split<;>rfl
  refine⟨λj x=>?_,?_⟩
  ·rw[n,V0 g];have o:x∈(if tl then r.s.queue t++[e]else e::r.s.queue t).map (·.key)↔x∈(r.s.queue t).map (·.key)\/x=e.key:=by
    split
    ·simp
    ·simp only[BR,A3];exact or_comm
   rw[o];constructor
   ·rintro(⟨a,b|b⟩|⟨a,b⟩)
    ·exact .inl ⟨_,a▸g,b⟩
    ·exact .inr ⟨a,b⟩
    ·exact .inl b
   ·rintro(a|⟨a,b⟩)
    ·by_cases i:j=t.toNat
     ·obtain⟨m,c,u⟩:=a;rw[i,g]at c;injection c with c;subst c;exact .inl ⟨i,.inl u⟩
     ·exact .inr ⟨i,a⟩
    ·exact .inl ⟨a,.inr b⟩
  ·rw[←h];split
   ·rfl
   ·unfold DN.leaves;split<;>rfl
theorem Yv (l:List Gm) (i:Nat) (f:Int):(gY l i f).map (·.key)=l.map (·.key):=by
 unfold gY;rw[Pf];refine Fe λj=>?_;rw[Bk];split
 ·rename_i e;subst e;rw[At];split
  ·rename_i h;rw[Fo]at h;rw[Ae h];simp[Bm,Ae h]
  ·rename_i h;rw[Fo]at h;rw[Bl (by omega)];rfl
 ·rfl
section
variable {p:Ax}{key:Int}{s0:St}{r r':DN}
theorem iY {s:St}{k:Int}(i:Nat) (f:Int) (j:Nat) (x:Int):Np (s.bf k (gY (s.queue k) i f)) j x↔Np s j x:=by
 unfold St.bf;by_cases b:k.toNat<s.q.length
 ·have c:s.q[k.toNat]?=some (s.queue k):=by unfold St.queue;rw[Ae b];rfl
  rw[V0 c,Yv];constructor
  ·rintro(⟨rfl,h⟩|⟨_,h⟩)
   ·exact⟨_,c,h⟩
   ·exact h
  ·intro h;by_cases d:j=k.toNat
   ·obtain⟨m,a,e⟩:=h;rw[d,c]at a;injection a with a;subst a;exact .inl ⟨d,e⟩
   ·exact .inr ⟨d,h⟩
 ·rw[List.set_eq_of_length_le (by omega)]
theorem Zi.move (h:Zi p key s0 r) {k i:Nat}{l:List Gm}{e:Gm}(f:r.s.q[k]?=some l) (g:l[i]?=some e)
  (y:∃A u,CD A u r'.s.q) (z:GY p r'.s) (c:∀(j:Nat) x,Np r'.s j x->Np (r.s.out k i) j x\/(x=e.key/\(Aq p.decls (j:Int)).kind≠2)) (d:∀(j:Nat) x,Np (r.s.out k i) j x->Np r'.s j x)
  (B:∀x∈r.gone,x∈r'.gone) (m:(∃t:Nat,AW p.decls (t:Int)=true/\Np r'.s t e.key)\/(AW p.decls (k:Int)=true->e.key∈r'.gone)):Zi p key s0 r':=by
 have n:Np r.s k e.key:=⟨l,f,AD.2 ⟨e,Aw g,rfl⟩⟩;obtain⟨A,u,F⟩:=h.inv;refine⟨y,z,λC x D b=>?_,λj x b=>?_,λj x b=>(c j x b).elim (λa=>h.mJ j x ((Vg f g j x).1 a)) (λa=>a.2)⟩
 ·rcases h.told C x D b with⟨j,v,b⟩|b
  ·rcases(Vg f g j x).2 b with a|⟨a,w⟩
   ·exact .inl ⟨j,v,d j x a⟩
   ·rcases m with⟨t,E,o⟩|o
    ·exact .inl ⟨t,E,w▸o⟩
    ·exact .inr (w▸o (a▸v))
  ·exact .inr (B x b)
 ·rcases c j x b with a|a
  ·exact h.qi j x ((Vg f g j x).1 a)
  ·rw[a.1];exact h.qi k _ n
theorem Sb {s:St}{q:Int}(f:Ix s.q.length q) (a:s.queue q≠ []):
  ∃l e,s.q[q.toNat]?=some l/\l[l.length-1]?=some e/\Br (s.queue q)=e/\s.bf q (s.queue q).dropLast=s.out q.toNat (l.length-1)/\s.queue q=l:=by
 obtain⟨g,h⟩:=f;have b:q.toNat<s.q.length:=by omega
 have c:s.q[q.toNat]?=some (s.queue q):=by unfold St.queue;rw[Ae b];rfl
 have d:(s.queue q).length-1<(s.queue q).length:=by have:=List.length_pos_iff.2 a;omega
 refine⟨s.queue q,_,c,Ae d,?_,?_,rfl⟩
 ·unfold Br Bm;rw[Ae d];rfl
 ·unfold St.bf St.out;rw[c];show({s with q:=s.q.set q.toNat (s.queue q).dropLast}:St)={s with q:=s.q.set q.toNat ((s.queue q).eraseIdx ((s.queue q).length-1))};rw[Jw]
theorem Zi.step (R:Ej p) (h:Zi p key s0 r) (x:D0) (o:J5 p.decls x) (e:bG p key x r= .ok r'):Zi p key s0 r':=by
 obtain⟨A,P,S⟩:=h.inv;have G:=YB S h.si R key x o r.gone;have T:(⟨r.s,r.gone⟩:DN)=r:=rfl;rw[T,e]at G;obtain⟨U,K,_,L,w⟩:=G;have g:∃A P,CD A P r'.s.q:=⟨U,K,L⟩;have z:=h.si.q;have m:(∀j x,Np r'.s j x↔Np r.s j x)->r'.gone=r.gone->Zi p key s0 r':=λn C=>
  ⟨g,w,λi y u f=>(h.told i y u f).imp (λ⟨j,a,b⟩=>⟨j,a,(n j y).2 b⟩) (λM=>C▸M),λj y f=>h.qi j y ((n j y).1 f),λj y f=>h.mJ j y ((n j y).1 f)⟩
 cases x with
 |inc v=>
  simp only[bG]at e;injection e with e;refine m (λj y=>?_) ?_
  ·rw[←e];split<;>exact Iff.rfl
  ·rw[←e];split<;>rfl
 |dec v=>
  simp only[bG]at e;injection e with e;refine m (λj y=>?_) ?_
  ·rw[←e];split<;>exact Iff.rfl
  ·rw[←e];split<;>rfl
 |bump=>
  simp only[bG]at e;split at e
  ·injection e with e;refine m (λj y=>?_) ?_
   ·rw[←e];split
    ·exact iY _ _ _ _
    ·exact Iff.rfl
   ·rw[←e];split<;>rfl
  ·injection e with e;exact m (λj y=>by rw[←e]) (by rw[←e])
 |dz q=>
  simp only[bG]at e;split at e
  ·cases e
  ·injection e with e;refine m (λj y=>?_) ?_
   ·rw[←e];split
    ·exact iY _ _ _ _
    ·exact Iff.rfl
   ·rw[←e];split<;>rfl
 |bx q=>
  simp only[bG]at e;split at e
  ·cases e
  ·rename_i E;injection e with e;obtain⟨l,H,n,C,F,N,_⟩:=Sb (by rw[z];exact o) E;have D:((q.toNat:Nat):Int)=q:=by have:=o.1;omega
   rw[F,N,IT]at e;refine h.move n C g w (λj y f=>.inl (by rw[←e]at f;exact f)) (λj y f=>by rw[←e];exact f) (λy f=>?_) (.inr (λu=>?_))
   ·rw[←e];show y∈(if _ then _ else _);split
    ·exact CE _ f
    ·exact f
   ·rw[←e];show H.key∈(if _ then _ else _);rw[D]at u;rw[Al u];simp
 |drop=>
  simp only[bG]at e;split at e
  ·rename_i k i I;injection e with e;obtain⟨l,H,n,C,F,_,_⟩:=Ld I;rw[IT]at e;refine h.move n C g w (λj y f=>.inl (by rw[←e]at f;exact f)) (λj y f=>by rw[←e];exact f) (λy f=>?_) (.inr (λu=>?_))
   ·rw[←e];show y∈(if _ then _ else _);split
    ·exact CE _ f
    ·exact f
   ·rw[←e,F];show key∈(if _ then _ else _);rw[Al u];simp
  ·injection e with e;exact m (λj y=>by rw[←e]) (by rw[←e])
 |put q tl=>
  simp only[bG]at e;split at e
  ·rename_i k i I;obtain⟨l,H,n,C,F,_,V⟩:=Ld I;rw[V]at e;have B:(r.s.out k i).q.length=r.s.q.length:=by simp[St.out]
   obtain⟨a,b⟩:=VZ e (by show Ix (r.s.out k i).q.length q;rw[B,z];exact o.1);have D:((q.toNat:Nat):Int)=q:=by have:=o.1.1;omega
   refine h.move n C g w (λj y f=>((a j y).1 f).imp id (λh=>⟨h.2,by rw[h.1];rw[D];exact o.2⟩)) (λj y f=>(a j y).2 (.inl f)) (λy f=>?_) ?_
   ·rw[b];split
    ·exact f
    ·split
     ·exact CE _ f
     ·exact f
   ·cases u:AW p.decls q with
    |true=>exact .inl ⟨q.toNat,by rw[D];exact u,(a _ _).2 (.inr ⟨rfl,rfl⟩)⟩
    |false=>exact .inr (λJ=>by rw[b,u,J];simp)
  ·rename_i I;obtain⟨a,b⟩:=VZ e (by rw[z];exact o.1);have O:AW p.decls (-1)=false:=rfl;refine⟨g,w,λi y u f=>(h.told i y u f).imp (λ⟨j,c,d⟩=>⟨j,c,(a j y).2 (.inl d)⟩) (λM=>?_),λj y f=>?_,λj y f=>?_⟩
   ·rw[b,O];split<;>exact M
   ·rcases(a j y).1 f with n|⟨_,n⟩
    ·exact h.qi j y n
    ·exact .inl n
   ·rcases(a j y).1 f with n|⟨n,_⟩
    ·exact h.mJ j y n
    ·have D:((q.toNat:Nat):Int)=q:=by have:=o.1.1;omega
     rw[n,D];exact o.2
 |shift q t tl=>
  simp only[bG]at e;split at e
  ·cases e
  ·rename_i E;obtain⟨l,H,n,C,F,N,_⟩:=Sb (by rw[z];exact o.1) E;have D:((q.toNat:Nat):Int)=q:=by have:=o.1.1;omega
   have Q:((t.toNat:Nat):Int)=t:=by have:=o.2.1.1;omega
   rw[F,N]at e;have B:(r.s.out q.toNat (l.length-1)).q.length=r.s.q.length:=by simp[St.out]
   obtain⟨a,b⟩:=VZ e (by show Ix (r.s.out q.toNat (l.length-1)).q.length t;rw[B,z];exact o.2.1);refine h.move n C g w (λj y f=>((a j y).1 f).imp id (λh=>⟨h.2,by rw[h.1];rw[Q];exact o.2.2⟩)) (λj y f=>(a j y).2 (.inl f)) (λy f=>?_) ?_
   ·rw[b];split
    ·exact f
    ·split
     ·exact CE _ f
     ·exact f
   ·cases u:AW p.decls t with
    |true=>exact .inl ⟨t.toNat,by rw[Q];exact u,(a _ _).2 (.inr ⟨rfl,rfl⟩)⟩
    |false=>exact .inr (λJ=>by rw[D]at J;rw[b,u,J];simp)
theorem lO (d:Ej p) {A:Am}{c:List (List Nat)}{s:St}(f:CD A c s.q) (g:GY p s) {b:Az}(k:∀(j:Nat) x,Np s j x->(Aq p.decls (j:Int)).kind≠2) (l:Mz p.decls b) (e:exec p key b ⟨s,[]⟩= .ok r'):Zi p key s r':=
 Hg (Zi p key s) (λx r r' a h e=>h.step d x a e) b ⟨s,[]⟩ r' l ⟨⟨A,c,f⟩,g,λi x m a=>.inl ⟨i,m,a⟩,λj x a=>.inr ⟨j,a⟩,k⟩ e
end
theorem Akk {c:UInt8}(h:low c=true):blank c=false:=by unfold low at h;unfold blank;simp only[Ee,Eu,DW]at h;rw[Bool.or_eq_false_iff,BH,BH];exact⟨by rintro rfl;simp at h,by rintro rfl;simp at h⟩
theorem ML {n:Nat}(h:n<10):EP n=[UInt8.ofNat (48+n)]:=by rw[EP,Al h]
theorem O7 {n:Nat}(h:¬n<10):EP n=EP (n/10)++[UInt8.ofNat (48+n%10)]:=by rw[EP,Ai h]
theorem Lx {n:Nat}(h:n<10):Gn (UInt8.ofNat (48+n))=true/\(UInt8.ofNat (48+n)).toNat=48+n:=by
 have e:(UInt8.ofNat (48+n)).toNat=48+n:=by simp;omega
 refine⟨?_,e⟩;unfold Gn;simp only[Ee,Eu,DW,e];exact⟨by simp,by simp;omega⟩
theorem YX:∀(k n:Nat),n<10^(k+1)->EP n≠ []/\(EP n).length<=k+1/\(∀c∈EP n,Gn c=true)/\atoi (EP n)=n:=by
 intro k
 induction k with
 |zero=>
  intro n h;have j:n<10:=by simpa using h
  rw[ML j];refine⟨by simp,by simp,λc i=>?_,?_⟩
  ·simp only[D8]at i;subst i;exact(Lx j).1
  ·unfold atoi;simp only[Uz,wS,(Lx j).2];omega
 |succ k m=>
  intro n h;by_cases f:n<10
  ·rw[ML f];refine⟨by simp,by simp,λc i=>?_,?_⟩
   ·simp only[D8]at i;subst i;exact(Lx f).1
   ·unfold atoi;simp only[Uz,wS,(Lx f).2];omega
  ·have o:n/10<10^(k+1):=by rw[Nat.div_lt_iff_lt_mul (by omega)];have e:10^(k+1+1)=10^(k+1)*10:=Nat.pow_succ _ _;omega
   obtain⟨a,b,c,d⟩:=m (n/10) o;have l:n%10<10:=Nat.mod_lt _ (by omega);rw[O7 f];refine⟨by simp,by simp;omega,λx g=>?_,?_⟩
   ·rcases CC.1 g with g|g
    ·exact c x g
    ·simp only[D8]at g;subst g;exact(Lx l).1
   ·unfold atoi at d ⊢;rw[List.foldl_append,d];simp only[Uz,wS,(Lx l).2];omega
theorem FM {n:Int}(e:0<=n) (h:n<=999):Ci n≠ []/\(Ci n).length<=3/\(∀c∈Ci n,Gn c=true)/\atoi (Ci n)=n:=by obtain⟨a,b,c,d⟩:=YX 2 n.toNat (by omega);exact⟨a,b,c,by unfold Ci;rw[d];omega⟩
abbrev T2:=Ah×Ah
def tk (w:Ah):T2:=(w,w)
section
variable {l:List Bi}(hl:J8 l)
include hl
end
def xB (c:C3):C3:=⟨c.k,c.bI%2⟩
def XE:Az->Az
 | .nil=>.nil
 | .bG p r=>.bG p (XE r)
 | .ite c t o e r=>.ite (xB c) (XE t) o (XE e) (XE r)
 | .rep n c b r=>.rep n (xB c) (XE b) (XE r)
def kx:Az->Nat
 | .nil=>1
 | .bG _ r=>2+kx r
 | .ite _ t _ e r=>3+kx t+kx e+kx r
 | .rep _ _ b r=>3+kx b+kx r
section
variable {s:Ah}{st:PS}{t2:T2}{ts:List T2}{d:Ah}
theorem v7 {l:List Bi}(f:(l.map (·.name)).Nodup) {k:Nat}{x:Bi}(a:l[k]?=some x):find l x.name=(k:Int):=by
 have:∀(l:List Bi) (j k:Nat),(l.map (·.name)).Nodup->l[k]?=some x->Df x.name l j=((j+k:Nat):Int):=by
  intro l
  induction l with
  |nil=>intro j k _ h;simp at h
  |cons y l i=>
   intro j k f a;have b:=By.1 f;cases k with
   |zero=>simp at a;subst a;rw[Df,Al rfl];rfl
   |succ k=>
    have c:l[k]?=some x:=by simpa using a
    have g:y.name≠x.name:=by intro e;refine b.1 ?_;show y.name∈_;rw[e];exact AD.2 ⟨x,Aw c,rfl⟩
    rw[Df,Ai g,i (j+1) k b.2 c];congr 1;omega
 have:=this l 0 k f a;unfold find;rw[this];simp
end
def Agk (c:UInt8):Bool:=low c||Gn c
def Yc (k last w:Ah) (q:List Ah):List Ah:=if last=k then q++[w]else q
def nm:Ah->Ah->Ah->List Ah->List Ah->List Ah×List Ah
 | [],a,last,q,g=>if a=[]then(q,g)else(Yc EK last a q,Yc Ge last a g)
 |c::r,a,last,q,g=>
  if Agk c then nm r (a++[c]) last q g
  else if a=[]then nm r [] last q g
  else if a=TF then(Yc EK last a q,Yc Ge last a g)
  else nm r [] a (Yc EK last a q) (Yc Ge last a g)
def P8 (l:List Bi) (k:Nat):List Ah:=(l.filter (λd=>d.kind==k)).map (·.name)
structure SF (p:Ax) (s:St):Prop where
 si:GY p s
 mJ:∀(j:Nat) x,Np s j x->(Aq p.decls (j:Int)).kind≠2
 inv:∃A ns,CD A ns s.q
def NQ (e:EX) (l:List Ah):List Int:=l.flatMap λn=>(e.keys n).getD []
theorem Mv {l:List Bi}{i:Nat}{d:Bi}(h:l[i]?=some d):Aq l (i:Int)=d:=by unfold Aq;rw[As,h];rfl
section
variable {p:Ax}{s:St}{c:J9}
theorem SF.lr (j:Ej p) (h:SF p s) {i:Nat}{d:Bi}(f:p.decls[i]?=some d) (k:d.kind≠2):
  (⟨p,s,c⟩:EX).keys d.name=some ((s.queue (i:Int)).map (·.key))/\(s.queue (i:Int)).length<=50:=by
 have n:=v7 j.decls.nodup f;refine⟨?_,?_⟩
 ·unfold EX.keys;simp only[n];rw[Ai];rintro(b|b)
  ·omega
  ·rw[Mv f]at b;exact k b
 ·obtain⟨A,o,g⟩:=h.inv;unfold St.queue;rw[As];cases a:s.q[i]? with
  |none=>simp
  |some l=>
   simp only[Ic];rw[g.mX,At]at a;cases e:o[i]? with
   |none=>rw[e]at a;cases a
   |some m=>
    rw[e]at a;injection a with a;rw[←a,Fo];exact g.iQ i m e
theorem XG {l:List Bi}{k:Nat}{n:Ah}:n∈P8 l k↔∃(i:Nat) (d:Bi),l[i]?=some d/\d.kind=k/\d.name=n:=by
 unfold P8;constructor
 ·intro h;obtain⟨d,a,b⟩:=AD.1 h;obtain⟨e,f⟩:=D1.1 a;obtain⟨i,g⟩:=JQ e;exact⟨i,d,g,by simpa using f,b⟩
 ·rintro⟨i,d,a,b,e⟩;exact AD.2 ⟨d,D1.2 ⟨Aw a,by simpa using b⟩,e⟩
theorem Yb {i:Nat}{x:Int}:Np s i x↔x∈(s.queue (i:Int)).map (·.key):=by
 unfold Np St.queue;rw[As];constructor
 ·rintro⟨l,b,d⟩;rw[b];exact d
 ·intro h;cases a:s.q[i]? with
  |none=>rw[a]at h;simp at h
  |some l=>rw[a]at h;exact⟨l,rfl,h⟩
theorem Na (f:Ej p) (h:SF p s) {k:Nat}(g:k≠2) (x:Int):x∈NQ ⟨p,s,c⟩ (P8 p.decls k)↔∃(i:Nat) (d:Bi),p.decls[i]?=some d/\d.kind=k/\Np s i x:=by
 unfold NQ;rw[mz];constructor
 ·rintro⟨n,j,e⟩;obtain⟨i,d,a,b,rfl⟩:=XG.1 j;rw[(h.lr f a (by rw[b];exact g)).1]at e;exact⟨i,d,a,b,Yb.2 e⟩
 ·rintro⟨i,d,a,b,e⟩;refine⟨d.name,XG.2 ⟨i,d,a,b,rfl⟩,?_⟩;rw[(h.lr f a (by rw[b];exact g)).1];exact Yb.1 e
theorem jb {α:Type}{l:List α}(h:l.Nodup) {i j:Nat}{x:α}(a:l[i]?=some x) (b:l[j]?=some x):i=j:=by obtain⟨e,e1⟩:=Aj.1 a;obtain⟨f,d⟩:=Aj.1 b;exact(List.getElem_inj h).1 (e1.trans d.symm)
theorem SF.once (h:SF p s):Ag4 s:=by obtain⟨A,b,a⟩:=h.inv;exact a.once
def UK (e:EX):List Int:=NQ e (P8 e.p.decls 0)++NQ e (P8 e.p.decls 1)
theorem iB {l:List Bi}{i:Nat}{d:Bi}(a:l[i]?=some d):AW l (i:Int)=true↔d.kind=0:=by unfold AW;rw[Mv a];simp
theorem Np.decl (h:SF p s) {i:Nat}{x:Int}(a:Np s i x):∃d,p.decls[i]?=some d:=by obtain⟨l,b,_⟩:=a;have:=(Aj.1 b).1;rw[h.si.q]at this;exact⟨_,Ae this⟩
theorem SW (e:Ej p) (h:SF p s) (x:Int):x∈UK ⟨p,s,c⟩↔∃i,Np s i x:=by
 unfold UK;rw[CC,Na e h (by decide),Na e h (by decide)];constructor
 ·rintro(⟨i,_,_,_,a⟩|⟨i,_,_,_,a⟩)<;>exact⟨i,a⟩
 ·rintro⟨i,a⟩;obtain⟨d,b⟩:=a.decl h;have j:=(e.decls.each d (Aw b)).kind;have g:=h.mJ i x a;rw[Mv b]at g;have:d.kind=0\/d.kind=1:=by omega
  rcases this with f|f
  ·exact .inl ⟨i,d,b,f,a⟩
  ·exact .inr ⟨i,d,b,f,a⟩
theorem oD (a:Ej p) (k:Int):Mz p.decls (CZ p k):=by
 unfold CZ;cases h:Bj p.rules k with
 |none=>exact trivial
 |some b=>exact iw a h
theorem cM (e:Ej p) (h:SF p s) {key:Int}{hit:Bool}{gone:List Int}{e':EX}(f:(⟨p,s,c⟩:EX).access key= .ok hit gone e'):
  e'.p=p/\SF p e'.s/\hit=AW p.decls (Ek s key)/\e'.n=P9 c hit gone.length/\
  (∀k∈NQ ⟨p,s,c⟩ (P8 p.decls 0),k∈NQ e' (P8 p.decls 0)\/k∈gone)/\
  (∀k∈NQ e' (P8 p.decls 0),k∈NQ ⟨p,s,c⟩ (P8 p.decls 0)\/k=key\/k∈NQ ⟨p,s,c⟩ (P8 p.decls 1)):=by
 unfold EX.access at f;simp only at f;split at f
 ·cases f
 ·rename_i r y;injection f with u v z;obtain⟨A,G,B⟩:=h.inv;have g:=lO e B h.si h.mJ (oD e _) y;have m:SF p r.s:=⟨g.si,g.mJ,g.inv⟩;subst z;refine⟨rfl,m,u.symm,?_,?_,?_⟩
  ·rw[←u,←v];rfl
  ·intro k o;obtain⟨i,d,C,D,E⟩:=(Na e h (by decide) k).1 o;rcases g.told i k ((iB C).2 D) E with⟨j,w,q⟩|b
   ·left;obtain⟨x,l⟩:=q.decl m;exact(Na e m (by decide) k).2 ⟨j,x,l,(iB l).1 w,q⟩
   ·right;rw[←v];exact b
  ·intro k o;obtain⟨j,x,w,q,F⟩:=(Na e m (by decide) k).1 o;rcases g.qi j k F with rfl|⟨i,a⟩
   ·exact .inr (.inl rfl)
   ·have:=(SW (c:=c) e h k).2 ⟨i,a⟩;rcases CC.1 this with t|t
    ·exact .inl t
    ·exact .inr (.inr t)
theorem au (C:Ej p) (h:SF p s) (key:Int):
  ((⟨p,s,c⟩:EX).remove key).1=decide (key∈UK ⟨p,s,c⟩)/\((⟨p,s,c⟩:EX).remove key).2.p=p/\((⟨p,s,c⟩:EX).remove key).2.n=c/\SF p ((⟨p,s,c⟩:EX).remove key).2.s/\(((⟨p,s,c⟩:EX).remove key).2.remove key).1=false:=by
 obtain⟨A,R,G⟩:=h.inv;unfold EX.remove;simp only;cases d:s.find key with
 |none=>
  simp only;refine⟨?_,(by first|rfl|trivial),(by first|rfl|trivial),h,by rw[d]⟩;have:¬key∈UK ⟨p,s,c⟩:=by rw[SW C h];rintro⟨i,H⟩;exact vZ d i H
  exact(Ck this).symm
 |some x=>
  obtain⟨k,i⟩:=x;simp only;obtain⟨l,S,g,o,I,_,_⟩:=Ld d;have D:=VP d;have e:key∈UK ⟨p,s,c⟩:=(SW C h key).2 ⟨k,D⟩;have r:=Qh G key;obtain⟨_,_,_,b⟩:=r;rw[d]at b;obtain⟨⟨J,K⟩,_⟩:=b;have f:∀j,¬Np (s.out k i) j key:=by
   intro j E;have t:=((Vg g o j key).1 E);have:=h.once.one j k key t D;subst this;obtain⟨m,F,L⟩:=E;have M:s.out j i={s with q:=s.q.set j (l.eraseIdx i)}:=by unfold St.out;rw[g];rfl
   rw[M]at F;rcases iX F with⟨_,_,rfl⟩|⟨u,_⟩
   ·have v:=h.once.nd j l g;obtain⟨y,N,O⟩:=AD.1 L;obtain⟨a,w,z⟩:=mB.1 N;have:=jb v (i:=a) (j:=i) (x:=key) (by rw[At,z];exact AG some O) (by rw[At,o];exact AG some I);exact w this
   ·exact u rfl
  refine⟨(DX e).symm,(by first|rfl|trivial),(by first|rfl|trivial),⟨h.si.out k i,λj x P=>h.mJ j x ((Vg g o j x).1 P),_,_,K⟩,?_⟩;cases B:(s.out k i).find key with
  |none=>rfl
  |some y=>
   obtain⟨Q,T⟩:=y;exact absurd (VP B) (f Q)
end
def Am.iT (A:Am) (a:List Int):Am:={A with at_:=a.map λk=>(k,(A.idx k).getD 0)}
theorem NM (f:Int->Nat) (key:Int):∀(a:List Int),((a.map λk=>(k,f k)).find? (λy=>y.1==key)).map (·.2)=if key∈a then some (f key)else none
 | []=>rfl
 |k::a=>by
  by_cases h:k=key
  ·subst h;simp
  ·have b:(k==key)=false:=by simpa using h
   have c:¬key=k:=λe=>h e.symm;rw[BR,KM];simp only[b];rw[NM f key a];simp[c]
theorem j6 {A:Am}{a:List Int}(h:∀k,k∈a↔(A.idx k).isSome=true) (key:Int):(A.iT a).idx key=A.idx key:=by
 show((a.map λk=>(k,(A.idx k).getD 0)).find? (λy=>y.1==key)).map (·.2)=_;rw[NM];cases b:A.idx key with
 |none=>
  rw[Ai];intro c;have:=(h key).1 c;rw[b]at this;cases this
 |some n=>
  rw[Al ((h key).2 (by rw[b];rfl))];rfl
theorem CD.iT {A:Am}{b:List (List Nat)}{c:List (List Gm)}(h:CD A b c) {a:List Int}(d:∀k,k∈a↔(A.idx k).isSome=true) (e:a.Nodup):CD (A.iT a) b c:=by
 have f:(A.iT a).Bd:=⟨h.bd.node,h.bd.ends⟩;refine⟨f,h.len,h.q8,h.ends,h.ot,h.mem,h.nodup,h.iQ,h.mX,λkey n=>?_,?_,h.free,h.mY,h.qK,h.lb⟩
 ·rw[j6 d];exact h.idx key n
 ·show((a.map λk=>(k,(A.idx k).getD 0)).map (·.1)).Nodup;rw[Iz];have:((λx:Int×Nat=>x.1)∘λk=>(k,(A.idx k).getD 0))=id:=by funext k;rfl
  rw[this,List.map_id];exact e
end Go.Proofs.YtepoejiigmhlbaaGreatDoor.Ev
