/- Lemmas for a law's walk. Conditions: none. -/
import Derived.Test.YtodkkholbjeioaaGreatDoorZu06
set_option linter.all false
set_option maxRecDepth 100000
set_option maxHeartbeats 8000000
namespace Go.Proofs.YtodkkholbjeioaaGreatDoor.Ev
open _root_.Go.Proofs.Tryz
open Go Go.RowKit
section
variable {B:Nat}{ea:Nat->Addr}{w:World}{x:RV}{SA:Nat->Prop}{p:Ax}{key:Int}{A:Am}{v:VS}
def iX (tl:Bool):Int:=if tl then 1 else 0
theorem Aaz (h:Cr B w x SA p key A v) (he:TU B ea w) (hp:p.decls.length<=8) (hg:v.r.gone.length<Do) {t:Int}(tl:Bool) (ht:Ix p.decls.length t) (dd:(Aq p.decls t).kind≠2) (hm:Rf p A key):
  Calls prog 64 #[.pointer (some ⟨x.gr,0,none⟩),.agg #[.int .u8 (iX tl),.int .i64 t,.int .i64 0]] w (Qy B ea w x p key v (JM p key (.put t tl) ⟨A,v.r.s.vars,v.r.gone⟩)):=by
 have bZ:iX tl=0/\tl=false\/iX tl=1/\tl=true:=by cases tl;exact .inl ⟨rfl,rfl⟩;exact .inr ⟨rfl,rfl⟩
 generalize iX tl=so at*;have bP:JM p key (.put t tl) ⟨A,v.r.s.vars,v.r.gone⟩=if Md p.decls (A.out key) t then .error Ul
  else .ok ⟨(A.out key).lQ key (A.bW key) t.toNat tl,v.r.s.vars,if AY p.decls (A.cz key)&&!AY p.decls t then v.r.gone++[key]else v.r.gone⟩:=rfl
 rw[bP];clear bP;have ha:=h.grown ((Ac.refl _ w).alloc (Ab _) (.cells #[.int .u8 so,.int .i64 t,.int .i64 0] 172)) h.base;have dG:=he.kept ((Ac.refl (λb=>B<=b) w).alloc h.base (.cells #[.int .u8 so,.int .i64 t,.int .i64 0] 172)) (λb hb=>hb);obtain⟨ji,jj,jk,jl,bQ⟩:=ha.ar;have hw:=PI bQ hm.ok key;have E:=Gf ha hp hm.wh;obtain⟨vl,vf,vq,bm,dH⟩:=ha.fy;have ho:=PO dH (Cr.up _ SA) hm.ok (by have:=hm.q8;omega) key hm.un;obtain⟨c1,c2,s0,r1,r2⟩:=zp5 (h.row.cell 1) (h.row.cell 2) (h.bS.cell 0) h.row.lt h.bS.lt;have q1:¬x.gr=w.heap.size:=by omega
 have q2:¬x.gs=w.heap.size:=by omega
 have hR:AF (w.alloc (.cells #[.int .u8 so,.int .i64 t,.int .i64 0] 172)) w.heap.size 172 [.int .u8 so,.int .i64 t,.int .i64 0]:=AF.new w _ _;have dJ:¬(SA w.heap.size\/(w.alloc (.cells #[.int .u8 so,.int .i64 t,.int .i64 0] 172)).heap.size<=w.heap.size):=by
  rintro(h0|h0)
  ·have:=(h.sa _ h0).2;omega
  ·simp at h0;omega
 obtain⟨i0,fF,fG,fH,fJ⟩:=Bg Se;have q4:v.r.gone.length+1<=maxLen:=by unfold Do at hg;unfold maxLen;omega
 have q5:(v.r.gone.length+1)*8<=140737488355328:=by unfold Do at hg;omega
 have dL:((t.toNat:Nat):Int)=t:=by have:=ht.1;omega
 obtain⟨HA,HE,HW,bR,HO,HB,R,HR⟩:=zq8 ha dG hw E ho h.base hm hR;obtain⟨dN,HT,fO,fP⟩:=zq4 dJ ht dd dL;clear h he dG ha dH bQ hw E ho hm hR dJ ht dd hg dL;simp at c1 c2 s0;have V:∀(w1:World) q u y,Ac (λb=>SA b\/(w.alloc (.cells #[.int .u8 so,.int .i64 t,.int .i64 0] 172)).heap.size<=b) (w.alloc (.cells #[.int .u8 so,.int .i64 t,.int .i64 0] 172)) w1->
   BL (λb=>SA b\/(w.alloc (.cells #[.int .u8 so,.int .i64 t,.int .i64 0] 172)).heap.size<=b) w1 x.ga (A.out key) q u y bm->
   ∃n,Cr B w1 x n p key (A.out key) v/\AF w1 w.heap.size 172 [.int .u8 so,.int .i64 t,.int .i64 0]/\Ac (λb=>B<=b) w w1/\TU B ea w1/\¬n w.heap.size:=by
  intro w1 q u y S f;exact⟨_,HA.out.dI S ⟨q,u,y,bm,f⟩,HR.out.kept S dN.out,((Ac.refl (λb=>B<=b) w).alloc HB.out _).trans (HA.out.fL S),HE.out.kept (HA.out.fL S) (λb hb=>hb),λh=>dN.out h.1⟩
 have HS:=Aa V;clear V;have fS:∃F,AY p.decls (A.cz key)=F:=⟨_,rfl⟩;obtain⟨F,E⟩:=fS;have J:=bR.out;rw[E]at J ⊢;have K:=Aa J;clear bR E J;cases X:Md p.decls (A.out key) t with
 |true=>
  have bN:=Aa X;clear X;rcases bZ with⟨rfl,_⟩|⟨rfl,_⟩
  all_goals
   go_enter Iw,GM;go_wp2_with (first|(go_at_call 35;refine HW.out.mono ?_;rintro e w' ⟨rfl,rfl⟩)|(go_at_call 100;refine K.out.mono ?_;rintro e w' ⟨rfl,rfl⟩));refine HO.out.mono ?_;rintro e w1 ⟨rfl,S,q,u,y,f⟩;obtain⟨n,z,g,G,T,Y⟩:=HS.out w1 q u y S f;have d:=Pt z R.out.qB hp (R.out.len.trans R.out.ql) HT.out;rw[bN.out]at d;have l:=Aa d;have b1:=g.cell 1;have ef:=T.full;have U:=Aa G;clear S f z g G T Y d;simp at b1;go_wp2_with (go_at_call 98;refine l.out.mono ?_;rintro e w2 ⟨rfl,Z,rfl⟩);go_ret;exact⟨U.out.drewN _,rfl⟩
 |false=>
  have bN:=Aa X;have bU:=R.out.cin t HT.out fO.out X;have dP:=Aa bU;clear X bU;have dQ:∀(w3:World) (x3:RV) (v3:VS) n,Cr B w3 x3 n p key (A.out key) v3->Calls prog 101 #[.pointer (some ⟨x3.ga,0,none⟩),.int .u64 key,.int .i64 (A.bW key),.int .i64 t,.bool tl] w3 λe w'=>
    e= .returned (.tuple #[])/\Ac (λb=>B<=b) w3 w'/\∃be,Cr B w' x3 be p key ((A.out key).lQ key (A.bW key) t.toNat tl) v3:=by
   intro w3 x3 v3 n z;obtain⟨jF,jG,jM,fU,dR⟩:=z.fy;have h1:=Zf dR (Cr.up _ n) R.out.qB (by have:=R.out.q8;rw[R.out.len];omega) key (A.bW key) t.toNat tl dP.out;rw[fP.out]at h1;refine h1.mono ?_;rintro e w' ⟨rfl,H,gH,gI,ik,dS⟩;exact⟨rfl,z.fL H,_,z.dI H ⟨gH,gI,ik,fU,dS⟩⟩
  have dU:=Aa dQ;clear dQ;cases L:(F&&!AY p.decls t)with
  |false=>
   have M:F=false\/F=true/\AY p.decls t=true:=by
    cases F
    ·exact .inl rfl
    ·right;cases z:AY p.decls t with
     |true=>exact⟨rfl,rfl⟩
     |false=>rw[z]at L;cases L
   clear L;rcases bZ with⟨rfl,rfl⟩|⟨rfl,rfl⟩
   all_goals
    rcases M with rfl|⟨rfl,bO⟩
    all_goals
     go_enter Iw,GM;go_wp2_with (first|(go_at_call 35;refine HW.out.mono ?_;rintro e w' ⟨rfl,rfl⟩)|(go_at_call 100;refine K.out.mono ?_;rintro e w' ⟨rfl,rfl⟩));refine HO.out.mono ?_;rintro e w1 ⟨rfl,S,q,u,y,f⟩;obtain⟨n,z,g,G,T,Y⟩:=HS.out w1 q u y S f;have d:=Pt z R.out.qB hp (R.out.len.trans R.out.ql) HT.out;rw[bN.out]at d;have l:=Aa d;obtain⟨b0,b1,x2⟩:=zp3 (g.cell 0) (g.cell 1) (z.row.cell 2);obtain⟨U,I⟩:=zq2 G z;clear S f z g G T Y d;simp at b0 b1 x2;go_wp2_with (go_at_call 98;refine l.out.mono ?_;rintro e w2 ⟨rfl,Z,rfl⟩)
     first
      |(refine G9 11 (by kernel_rfl) (by kernel_rfl) ?_)
      |(have i:=Gf (I.out.grown (w':=w1.drewN Z) (zAr.drewN _) I.out.base) hp (.inr HT.out)
        rw[bO]at i;have C:=Aa i;clear i;go_wp2_with (go_at_call 100;refine C.out.mono ?_;rintro e w' ⟨rfl,rfl⟩);refine G9 11 (by kernel_rfl) (by kernel_rfl) ?_)
     simp only[Au,AI,Av,AK]
     repeat (go_big_quiet_step (fail))
     refine It ?_;intro nq;have hi:=λk=>dU.out (w1.drewN k) x v n (I.out.grown (zAr.drewN k) I.out.base);have HI:=Aa hi;clear hi;go_wp2_with (go_at_call 101;refine(HI.out _).mono ?_;rintro e w' ⟨rfl,H,D⟩;have cj:=Aa D;have cu:=Aa H;clear H D);go_ret;obtain⟨be,D⟩:=cj.out;exact⟨(U.out.drewN _).trans cu.out,rfl,be,x.iT,D⟩
  |true=>
   have M:F=true/\AY p.decls t=false:=by
    cases F
    ·cases L
    ·cases z:AY p.decls t with
     |true=>rw[z]at L;cases L
     |false=>exact⟨rfl,rfl⟩
   obtain⟨rfl,bO⟩:=M;have iz:=Aa bO;clear L bO;rcases bZ with⟨rfl,rfl⟩|⟨rfl,rfl⟩
   all_goals
    go_enter Iw,GM;go_wp2_with (first|(go_at_call 35;refine HW.out.mono ?_;rintro e w' ⟨rfl,rfl⟩)|(go_at_call 100;refine K.out.mono ?_;rintro e w' ⟨rfl,rfl⟩));refine HO.out.mono ?_;rintro e w1 ⟨rfl,S,q,u,y,f⟩;obtain⟨n,z,g,G,T,Y⟩:=HS.out w1 q u y S f;have d:=Pt z R.out.qB hp (R.out.len.trans R.out.ql) HT.out;rw[bN.out]at d;have l:=Aa d;have b1:=g.cell 1;obtain⟨U,I,bV⟩:=zq3 G z g;clear S f z g G T Y d;simp at b1;go_wp2_with (go_at_call 98;refine l.out.mono ?_;rintro e w2 ⟨rfl,Z,rfl⟩);have N:=I.out.grown (w':=w1.drewN Z) (zAr.drewN _) I.out.base;have i:=Gf N hp (.inr HT.out);rw[iz.out]at i;have C:=Aa i;have dW:=N.qQ key;have d2:(w1.drewN Z).cell? ⟨x.gr,2,none⟩=some (.int .u64 key):=N.row.cell 2;have d6:(w1.drewN Z).cell? ⟨x.gr,6,none⟩=some x.iT:=N.row.cell 6;have df:∀j,(w1.drewN Z).frozen? ⟨x.gr,j,none⟩=false:=λj=>N.row.frozen j;have dl:x.gr<(w1.drewN Z).heap.size:=N.row.lt;have O:=U.out.drewN Z;have bI:=bV.out.drewN Z;obtain⟨m,iA,bJ⟩:=zq3 dW O bI;clear N i dW U I bV l O bI;go_wp2_with (go_at_call 100;refine C.out.mono ?_;rintro e w' ⟨rfl,rfl⟩);clear C b1;generalize w1.drewN Z=W at*;have dn:¬x.gr=W.heap.size:=by omega
    obtain⟨gr,gg,gp,gs,ga,vd,jR,kG,lp,lm,lP,iy,lR⟩:=x;obtain⟨av,cv,rfl⟩:∃a c,iy= .slice a v.r.gone.length c:=m.out.run.out.shape;have b4:((W.alloc (.cells #[.int .u64 key] 25)).drew).cell? ⟨gr,6,none⟩=some (.slice av v.r.gone.length cv):=m.out.run.row.cell 6;have fz:((W.alloc (.cells #[.int .u64 key] 25)).drew).frozen? ⟨gr,6,none⟩=false:=m.out.run.row.frozen 6;have cw:AF ((W.alloc (.cells #[.int .u64 key] 25)).drew) w.heap.size 172 [.int .u8 _,.int .i64 t,.int .i64 0]:=(bJ.out.alloc (.cells #[.int .u64 key] 25)).drew;have dX:¬((Value.slice av v.r.gone.length cv).ownBlock=some w.heap.size\/((W.alloc (.cells #[.int .u64 key] 25)).drew).heap.size<=w.heap.size):=by
     rintro(h0|h0)
     ·exact m.out.run.out.bK cw (by decide) h0
     ·have:=bJ.out.lt;simp at h0;omega
    obtain⟨B4,FZ,iB,iC⟩:=zq4 b4 fz cw dX;clear b4 fz cw dX;simp only at*
    go_region_law (first
     |(refine EL Ez fF fG fH fJ rfl (by decide) m.out.run.out m.out.base rfl _ _ (by rfl) (by rfl) ⟨W.heap.size,0,none⟩ 1 1 [.int .u64 key] (by rfl) (by rfl) m.out.cells m.out.one q4 q5 (by omega) ?_;intro g2 bL w2 fc O bX;have e1:=(O.cell (p:=⟨gr,6,none⟩) m.out.gr).trans B4.out;have e2:=(O.frozen (p:=⟨gr,6,none⟩) m.out.gr).trans FZ.out;have iD:=Aa fc;have cy:=Aa O;have iE:=Aa bX;clear fc O bX))
    all_goals
     have o:=m.out.done w2 g2 bL iD.out cy.out iE.out;have P:=iB.out.kept cy.out iC.out;have fd:¬w.heap.size=gr:=P.cZ (m.out.run.row.kept cy.out m.out.gr) (by decide);have Q:=P.dK (p:=⟨gr,6,none⟩) fd (.slice (some ⟨g2,0,none⟩) (v.r.gone.length+1) bL);obtain⟨b0,b1,x1,x2⟩:=zp4 (Q.cell 0) (Q.cell 1) (o.2.row.cell 1) (o.2.row.cell 2);have hi:=λk=>dU.out _ _ _ _ (o.2.grown (w':=(w2.setCell ⟨gr,6,none⟩ (.slice (some ⟨g2,0,none⟩) (v.r.gone.length+1) bL)).drewN k) (zAr.drewN k) o.2.base);obtain⟨HI,fx⟩:=zq2 hi o.1;clear o P Q hi e1 e2;simp at x1 x2 b0 b1;go_wp2;refine G9 11 (by kernel_rfl) (by kernel_rfl) ?_;simp only[Au,AI,Av,AK]
     repeat (go_big_quiet_step (fail))
     refine It ?_;intro nq;go_wp2_with (go_at_call 101;refine(HI.out _).mono ?_;rintro e w' ⟨rfl,H,D⟩;have cj:=Aa D;have cu:=Aa H;clear H D);go_ret;obtain⟨be,D⟩:=cj.out;exact⟨((iA.out.trans fx.out).drewN _).trans cu.out,rfl,be,_,D⟩
end
def Nb (B:Nat) (w:World) (x:RV) (SA:Nat->Prop) (p:Ax) (key:Int) (A:Am) (a:VS) (e:Ending) (w':World):Prop:=
 e= .returned (.tuple #[])/\Ac (λb=>B<=b) w w'/\∃u,Cr B w' {x with nw:=u} SA p key A a
section
variable {B:Nat}{w:World}{x:RV}{SA:Nat->Prop}{p:Ax}{key:Int}{A:Am}{v:VS}
theorem xj (h:Cr B w x SA p key A v) (a:v.stack.length<=1) (n:Int):
  Calls prog 63 #[.pointer (some ⟨x.gr,0,none⟩),.agg #[.int .u8 9,.int .i64 n,.int .i64 0]] w (Nb B w x SA p key A {v with stack:=n::v.stack}):=by
 have b:=h.grown ((Ac.refl _ w).alloc (Ab _) (.cells #[.int .u8 9,.int .i64 n,.int .i64 0] 172)) h.base;have c:=RR b a n;obtain⟨d,f⟩:=zq2 c h.base;clear h b c a;go_enter JY,IF;go_wp2_with fail;refine d.out.mono ?_;rintro e w' ⟨rfl,g,u,i⟩;go_wp2;go_end0;exact⟨rfl,((Ac.refl _ w).alloc f.out _).trans g,u,i⟩
theorem xi (h:Cr B w x SA p key A v) (d:v.stack.length<=1) (o:v.r.s.vars.length<=8) {n:Int}(a:Ix v.r.s.vars.length n):
  Calls prog 63 #[.pointer (some ⟨x.gr,0,none⟩),.agg #[.int .u8 10,.int .i64 n,.int .i64 0]] w (Nb B w x SA p key A {v with stack:=v.r.s.var n::v.stack}):=by
 have b:=h.grown ((Ac.refl _ w).alloc (Ab _) (.cells #[.int .u8 10,.int .i64 n,.int .i64 0] 172)) h.base;have f:=RR (w:=(w.alloc (.cells #[.int .u8 10,.int .i64 n,.int .i64 0] 172)).drew) (b.grown zAr.drew b.base) d (v.r.s.var n);obtain⟨m,rfl⟩:∃m:Nat,n=(m:Int):=⟨n.toNat,by unfold Ix at a;omega⟩;have i:m<v.r.s.vars.length:=by unfold Ix at a;omega
 obtain⟨g,q,e,_,j,c,t⟩:=h.vars.form (by omega);have H:w.cell? ⟨g,m,none⟩=some (.int .i64 (v.r.s.var m)):=by have k:=h.vars;rw[e]at k;have y:=k.1.cellAt m (by simpa using i);refine y.trans ?_;unfold St.var;rw[As,At,Ae i];rfl
 obtain⟨z,l,r1,I⟩:=zp4 (h.row.cell 1) (h.bS.cell 1) h.row.lt h.bS.lt;rw[e]at l;have J:¬x.gr=w.heap.size:=by omega
 have K:¬x.gs=w.heap.size:=by omega
 have L:¬g=w.heap.size:=by omega
 obtain⟨C,E⟩:=zq2 f h.base;generalize v.r.s.var m=V at*;generalize v.r.s.vars.length=D at*;unfold maxLen at c;clear h b f d e a;simp at z l;go_enter JY,IF;go_wp2_with fail
 (refine Du 12 (by kernel_rfl) (by kernel_rfl) ?_;simp only[Au,AI,Av,AK];repeat still_step)
 refine BT ?_;go_wp2_with fail;refine C.out.mono ?_;rintro e w' ⟨rfl,F,u,G⟩;go_wp2;go_end0;exact⟨rfl,(((Ac.refl _ w).alloc E.out _).drew).trans F,u,G⟩
theorem xr (h:Cr B w x SA p key A v) (i:v.stack.length<=1) (j:A.Ok) (k:A.qs.length<=8) {n:Int}(d:Ix A.qs.length n):
  Calls prog 63 #[.pointer (some ⟨x.gr,0,none⟩),.agg #[.int .u8 11,.int .i64 n,.int .i64 0]] w (Nb B w x SA p key A {v with stack:=(M7 A n:Int)::v.stack}):=by
 have f:=h.grown ((Ac.refl _ w).alloc (Ab _) (.cells #[.int .u8 11,.int .i64 n,.int .i64 0] 172)) h.base;have a:=f.grown (w':=(w.alloc (.cells #[.int .u8 11,.int .i64 n,.int .i64 0] 172)).drew) zAr.drew f.base;have g:=RR a i (M7 A n:Int);obtain⟨m,rfl⟩:∃m:Nat,n=(m:Int):=⟨n.toNat,by unfold Ix at d;omega⟩;obtain⟨z,C,D,E,b⟩:=a.ar;have c:=Sb b j m (by unfold Ix at d;omega) (by omega);obtain⟨l,o,r1,F⟩:=zp4 (h.row.cell 1) (h.bS.cell 0) h.row.lt h.bS.lt;have G:¬x.gr=w.heap.size:=by omega
 have H:¬x.gs=w.heap.size:=by omega
 have e:M7 A (m:Int)=A.len m:=by unfold M7;rw[As]
 rw[e]at g ⊢;obtain⟨q,r,s⟩:=zq3 g c h.base;clear h f a g i e d b c j k;simp at l o;go_enter JY,IF;go_wp2_with fail
 go_region_with (first|(go_at_call 95;refine r.out.mono ?_;rintro e w' ⟨rfl,rfl⟩)|(go_at_call 94;refine q.out.mono ?_;rintro e w' ⟨rfl,t,u,y⟩))
 all_goals
  go_wp2;go_end0;exact⟨rfl,(((Ac.refl _ w).alloc s.out _).drew).trans t,u,y⟩
theorem sh (h:Cr B w x SA p key A v) (f:v.stack.length<=1) (g:A.Ok):
  Calls prog 63 #[.pointer (some ⟨x.gr,0,none⟩),.agg #[.int .u8 12,.int .i64 0,.int .i64 0]] w (Nb B w x SA p key A {v with stack:=A.dW key::v.stack}):=by
 have d:=h.grown ((Ac.refl _ w).alloc (Ab _) (.cells #[.int .u8 12,.int .i64 0,.int .i64 0] 172)) h.base;have a:=d.grown (w':=(w.alloc (.cells #[.int .u8 12,.int .i64 0,.int .i64 0] 172)).drew) zAr.drew d.base;have i:=RR a f (A.dW key);obtain⟨r,s,t,y,b⟩:=a.ar;obtain⟨c,j,c2,k,r1,z⟩:=zp6 (cC b g key) (h.row.cell 1) (h.row.cell 2) (h.bS.cell 0) h.row.lt h.bS.lt;have C:¬x.gr=w.heap.size:=by omega
 have D:¬x.gs=w.heap.size:=by omega
 obtain⟨l,m,n⟩:=zq3 i c h.base;clear h d a i f b c g;simp at j c2 k;go_enter JY,IF;go_wp2_with fail
 go_region_with (first|(go_at_call 96;refine m.out.mono ?_;rintro e w' ⟨rfl,rfl⟩)|(go_at_call 94;refine l.out.mono ?_;rintro e w' ⟨rfl,o,u,q⟩))
 all_goals
  go_wp2;go_end0;exact⟨rfl,(((Ac.refl _ w).alloc n.out _).drew).trans o,u,q⟩
theorem xo (h:Cr B w x SA p key A v):
  Calls prog 63 #[.pointer (some ⟨x.gr,0,none⟩),.agg #[.int .u8 16,.int .i64 0,.int .i64 0]] w (Nb B w x SA p key A {v with yes:=!v.yes}):=by
 have c:=h.grown ((Ac.refl _ w).alloc (Ab _) (.cells #[.int .u8 16,.int .i64 0,.int .i64 0] 172)) h.base;have a:=h.jC (!v.yes);have b:=a.grown (zAr.alloc (Ab _) (.cells #[.int .u8 16,.int .i64 0,.int .i64 0] 172)) a.base;have c4:=h.row.cell 4;have f:=λj=>h.row.frozen j;have r1:=h.row.lt;have i:¬x.gr=w.heap.size:=by omega
 obtain⟨d,e,g⟩:=zq3 b h.iI h.base;clear h c b a;simp at c4;go_enter JY,IF;go_wp2;go_end0;exact⟨rfl,((Ac.refl _ w).setCell (p:=⟨x.gr,4,none⟩) e.out _).alloc (Ad g.out (by simp[World.setCell])) _,_,d.out⟩
theorem sf (h:Cr B w x SA p key A v) (b:A.Ok) (c:p.decls.length<=8) (d:A.qs.length=p.decls.length) {q:Int}(g:Ix p.decls.length q):
  Calls prog 63 #[.pointer (some ⟨x.gr,0,none⟩),.agg #[.int .u8 14,.int .i64 q,.int .i64 0]] w (Nb B w x SA p key A {v with yes:=Md p.decls A q}):=by
 have a:=h.grown ((Ac.refl _ w).alloc (Ab _) (.cells #[.int .u8 14,.int .i64 q,.int .i64 0] 172)) h.base;have i:=Pt a b c d g;have c4:=h.row.cell 4;have f:=λj=>h.row.frozen j;have r1:=h.row.lt;have o:¬x.gr=w.heap.size:=by omega
 obtain⟨k,l,m,n⟩:=zq4 a i h.iI h.base;clear h a i b c d g;simp at c4;go_enter JY,IF;go_wp2_with fail;refine l.out.mono ?_;rintro e w' ⟨rfl,nq,rfl⟩;go_wp2;go_end0;exact⟨rfl,(((Ac.refl _ w).alloc n.out _).drewN _).setCell (p:=⟨x.gr,4,none⟩) m.out _,_,(k.out.grown (w':=(w.alloc (.cells #[.int .u8 14,.int .i64 q,.int .i64 0] 172)).drewN nq) (zAr.drewN _) k.out.base).jC _⟩
theorem rZ (h:Cr B w x SA p key A v) {b a:Int}{st:List Int}(m:v.stack=b::a::st) (r:v.stack.length<=2):
  Calls prog 63 #[.pointer (some ⟨x.gr,0,none⟩),.agg #[.int .u8 13,.int .i64 0,.int .i64 0]] w (Nb B w x SA p key A {v with stack:=st,yes:=decide (a<b)}):=by
 have s:=h.grown ((Ac.refl _ w).alloc (Ab _) (.cells #[.int .u8 13,.int .i64 0,.int .i64 0] 172)) h.base;have t:=iY s m r;obtain⟨u,y⟩:=zq2 t h.base;have d:(a::st).length<=2:=by have:=AH List.length m;simp only[Af]at this ⊢;omega
 obtain⟨z,C⟩:=zq2 d h.iI;clear h s t m r d;go_enter JY,IF;go_wp2_with fail;refine u.out.mono ?_;rintro e w1 ⟨rfl,g,F,i⟩;have k:=iY i rfl z.out;obtain⟨n,o⟩:=zq2 k g;clear k g i;go_wp2_with fail;refine n.out.mono ?_;rintro e D ⟨rfl,l,G,c⟩;have c4:=c.row.cell 4;have f:∀j,D.frozen? ⟨x.gr,j,none⟩=false:=λj=>c.row.frozen j;obtain⟨E,q⟩:=zq2 c l;clear c l;simp at c4;go_wp2;go_end0;exact⟨rfl,((((Ac.refl _ w).alloc y.out _).trans o.out).trans q.out).setCell (p:=⟨x.gr,4,none⟩) C.out _,_,E.out.jC _⟩
end
section
variable {B:Nat}{w:World}{x:RV}{SA:Nat->Prop}{p:Ax}{key:Int}{A:Am}{v:VS}
theorem mP (h:Cr B w x SA p key A v) (l:A.Ok) (q:A.qs.length<=8) {n:Int}(g:Ix A.qs.length n) (o:M7 A n=0):
  Calls prog 63 #[.pointer (some ⟨x.gr,0,none⟩),.agg #[.int .u8 15,.int .i64 n,.int .i64 0]] w (Nb B w x SA p key A {v with yes:=false}):=by
 have a:=h.grown ((Ac.refl _ w).alloc (Ab _) (.cells #[.int .u8 15,.int .i64 n,.int .i64 0] 172)) h.base;have i:=a.grown (w':=(w.alloc (.cells #[.int .u8 15,.int .i64 n,.int .i64 0] 172)).drew) zAr.drew a.base;obtain⟨m,rfl⟩:∃m:Nat,n=(m:Int):=⟨n.toNat,by unfold Ix at g;omega⟩;have e:A.len m=0:=by have:=o;unfold M7 at this;rw[As]at this;exact this
 obtain⟨C,D,E,F,b⟩:=a.ar;have c:=λk=>(Sb (b.drewN k) l m (by unfold Ix at g;omega) (by omega)).mono λe' w' h=>(⟨by rw[h.1,e];rfl,h.2.symm⟩:e'= .returned (.int .i64 0)/\w'=(w.alloc (.cells #[.int .u8 15,.int .i64 m,.int .i64 0] 172)).drewN k);have r:=h.row.cell 1;have c4:=h.row.cell 4;have f:=λj=>h.row.frozen j;obtain⟨s,r1,G⟩:=zp3 (h.bS.cell 0) h.row.lt h.bS.lt;have H:¬x.gr=w.heap.size:=by omega
 have I:¬x.gs=w.heap.size:=by omega
 have d:=λk=>(a.grown (w':=(w.alloc (.cells #[.int .u8 15,.int .i64 m,.int .i64 0] 172)).drewN k) (zAr.drewN k) a.base).jC false;obtain⟨t,u,y,z⟩:=zq4 c h.base h.iI d;clear h a i e g b c l q o d;simp at r s c4;go_enter JY,IF;go_wp2_with fail;refine G9 33 (by kernel_rfl) (by kernel_rfl) ?_;simp only[Au,AI,Av,AK]
 repeat (go_big_quiet_step ((go_at_call 95;exact EF (t.out _))))
 refine It ?_;intro nq;go_wp2;go_end0;exact⟨rfl,(((Ac.refl _ w).alloc u.out _).drewN _).setCell (p:=⟨x.gr,4,none⟩) y.out _,_,z.out _⟩
theorem mO (h:Cr B w x SA p key A v) (o:A.Ok) (t:A.qs.length<=8) {n:Int}(q:Ix A.qs.length n) (s:0<M7 A n):
  Calls prog 63 #[.pointer (some ⟨x.gr,0,none⟩),.agg #[.int .u8 15,.int .i64 n,.int .i64 0]] w (Nb B w x SA p key A {v with yes:=decide (0<A.dW (A.tail n.toNat))}):=by
 have c:=h.grown ((Ac.refl _ w).alloc (Ab _) (.cells #[.int .u8 15,.int .i64 n,.int .i64 0] 172)) h.base;have r:=c.grown (w':=(w.alloc (.cells #[.int .u8 15,.int .i64 n,.int .i64 0] 172)).drew) zAr.drew c.base;obtain⟨m,rfl⟩:∃m:Nat,n=(m:Int):=⟨n.toNat,by unfold Ix at q;omega⟩;rw[As];have e:0<A.len m:=by have:=s;unfold M7 at this;rw[As]at this;exact this
 have b:m<A.qs.length:=by unfold Ix at q;omega
 obtain⟨I,J,K,M,a⟩:=c.ar;have d:=λk=>(Sb (a.drewN k) o m b (by omega)).mono λe' w' h=>(⟨h.1,h.2.symm⟩:e'= .returned (.int .i64 (A.len m))/\w'=(w.alloc (.cells #[.int .u8 15,.int .i64 m,.int .i64 0] 172)).drewN k);have g:=λk=>ax (a.drewN k) o m b (by omega);have i:=λk=>(cC (a.drewN k) o (A.tail m)).mono λe' w' h=>(⟨h.1,h.2.symm⟩:e'= .returned (.int .i64 (A.dW (A.tail m)))/\w'=(w.alloc (.cells #[.int .u8 15,.int .i64 m,.int .i64 0] 172)).drewN k);have u:=h.row.cell 1;have c4:=h.row.cell 4;have f:=λj=>h.row.frozen j;obtain⟨y,r1,N⟩:=zp3 (h.bS.cell 0) h.row.lt h.bS.lt;have O:¬x.gr=w.heap.size:=by omega
 have P:¬x.gs=w.heap.size:=by omega
 have l:=λk=>(c.grown (w':=(w.alloc (.cells #[.int .u8 15,.int .i64 m,.int .i64 0] 172)).drewN k) (zAr.drewN k) c.base).jC (decide (0<A.dW (A.tail m)));generalize A.dW (A.tail m)=F at*;generalize A.tail m=T at*;have Q:decide ((A.len m:Int)>0)=true:=by simp;omega
 generalize A.len m=L at*;obtain⟨z,C,D,E,G,H⟩:=zq6 d g i h.base h.iI l;clear h c r q a d g i o t s l b;simp at u y c4;have R:(0:Int)<L:=by omega
 go_enter JY,IF;go_wp2_with fail;refine G9 33 (by kernel_rfl) (by kernel_rfl) ?_;simp only[Au,AI,Av,AK]
 repeat (go_big_quiet_step (first|(go_at_call 95;exact EF (z.out _))|(go_at_call 99;exact xZ (C.out _))|(go_at_call 96;exact EF (D.out _))))
 refine It ?_;intro nq;go_wp2;go_end0;exact⟨rfl,(((Ac.refl _ w).alloc E.out _).drewN _).setCell (p:=⟨x.gr,4,none⟩) G.out _,_,H.out _⟩
end
section
variable {B:Nat}{ea:Nat->Addr}{w:World}{x:RV}{SA:Nat->Prop}{p:Ax}{key:Int}{A:Am}{ns:List (List Nat)}{v:VS}
theorem Cr.at_ (h:Cr B w x SA p key A v) (n:Nat):Cr B w x SA p key A {v with pc:=n}:=
 ⟨h.ro,h.row,h.bS,h.stack,h.loops,h.out,h.vars,h.ar,h.iI,h.nJ,h.sa,h.sr,h.ss,h.s1,h.s2,h.s3,h.s4,h.a1,h.a2,h.a3⟩
theorem rP (h:Cr B w x SA p key A v) (i:TU B ea w) (b:Em p) (c:CE A ns v.r.s.q) (d:G4 p v.r.s) (f:v.r.gone.length<Do) {y:D4}(a:Ki p.decls y):
  Calls prog 64 #[.pointer (some ⟨x.gr,0,none⟩),.agg (Cz (.bN y)).toArray] w (Qy B ea w x p key v (JM p key y ⟨A,v.r.s.vars,v.r.gone⟩)):=by
 have e:A.qs.length=p.decls.length:=by rw[←c.jg,d.q]
 have j:=b.decls.len;cases y with
 |put q tl=>
  have:=Aaz h i j f tl a.1 a.2 (Sa c d b key);cases tl<;>exact this
 |cu q=>exact Zp h i b f (y:=.cu q) a rfl a c.ok e (λ_=>Sa c d b _)
 |dV q=>exact Zp h i b f (y:=.dV q) a rfl a c.ok e (λ_=>Sa c d b _)
 |shift q t tl=>
  have:=Zp h i b f (y:=.shift q t tl) a rfl a.1 c.ok e (λ_=>Sa c d b _);cases tl<;>exact this
 |inc n=>
  obtain⟨z,o,g,k,u⟩:=Ry d a;have l:0<=v.r.s.var n:=by rw[g];exact k
  have m:v.r.s.var n<=99:=by have:=(VT b a).2.1;rw[g];omega
  exact rO (by_:=1) (n:=n) h j d.v a (.inl rfl) l m (VT b a).2.1
 |dec n=>
  obtain⟨z,o,g,k,u⟩:=Ry d a;have l:0<=v.r.s.var n:=by rw[g];exact k
  have m:v.r.s.var n<=99:=by have:=(VT b a).2.1;rw[g];omega
  exact rO (by_:= -1) (n:=n) h j d.v a (.inr rfl) l m (VT b a).2.1
 |drop=>exact wT h j f (Sa c d b key)
 |bump=>exact wU h b c.ok
def Aoi (B:Nat) (ea:Nat->Addr) (w:World) (x:RV) (p:Ax) (key:Int) (v:VS) (a:Except Nat DQ) (e:Ending) (w':World):Prop:=
 Ac (λb=>B<=b) w w'/\match a with
  | .error k=>e= .returned (Ds ea k)
  | .ok r'=>e= .returned .nilIface/\∃c u f d,Cr B w' {x with iT:=u} c p key f {v with r:=r'}/\CE f d r'.s.q/\G4 p r'.s
theorem wS (h:Cr B w x SA p key A v) (o:TU B ea w) (i:Em p) (j:CE A ns v.r.s.q) (l:G4 p v.r.s) (t:v.r.gone.length<Do) {y:D4}(m:Ki p.decls y):
  Calls prog 64 #[.pointer (some ⟨x.gr,0,none⟩),.agg (Cz (.bN y)).toArray] w (Aoi B ea w x p key v (bN p key y v.r)):=by
 have b:=Y4 j l i key y m v.r.gone;refine(rP h o i j l t m).mono ?_;rintro e w' ⟨z,c⟩;refine⟨z,?_⟩;have C:(⟨v.r.s,v.r.gone⟩:DQ)=v.r:=rfl;rw[C]at b;cases n:bN p key y v.r with
 |error k=>
  rw[n]at b;simp only at b;rw[b]at c;exact c
 |ok r'=>
  rw[n]at b;obtain⟨D,d,E,F,G⟩:=b;rw[E]at c;obtain⟨f,g,u,a⟩:=c;refine⟨f,g,u,D,d,?_,F,G⟩;exact⟨a.ro,a.row,a.bS,a.stack,a.loops,a.out,a.vars,a.ar,a.iI,a.nJ,a.sa,a.sr,a.ss,a.s1,a.s2,a.s3,a.s4,a.a1,a.a2,a.a3⟩
def Yi:Gm->Bool
 | .num _=>true
 | .var _=>true
 | .len _=>true
 | .bI=>true
 | .less=>true
 | .full _=>true
 | .fC _=>true
 | .not=>true
 |_=>false
theorem xt (h:Cr B w x SA p key A v) (J:Em p) (f:CE A ns v.r.s.q) (m:G4 p v.r.s) (o:v.stack.length<=2) {i:Gm}(K:Yi i=true) {l:VS}(c:EB p key v i=some (.inl l)):
  Calls prog 63 #[.pointer (some ⟨x.gr,0,none⟩),.agg (Cz i).toArray] w (Nb B w x SA p key A l)/\l.pc=v.pc+1/\l.r=v.r/\l.loops=v.loops/\l.stack.length<=2:=by
 have j:A.qs.length=p.decls.length:=by rw[←f.jg,m.q]
 have L:=J.decls.len;have g:(⟨v.r.s.q,v.r.s.vars⟩:St)=v.r.s:=rfl;cases i with
 |num n=>
  simp only[EB]at c;split at c
  ·injection c with c;injection c with c;subst c;rename_i d;exact⟨xj (h.at_ (v.pc+1)) d n,rfl,rfl,rfl,by simp;omega⟩
  ·cases c
 |var n=>
  simp only[EB]at c;split at c
  ·injection c with c;injection c with c;subst c;rename_i d;have C:v.r.s.vars.length=p.decls.length:=m.v;exact⟨xi (h.at_ (v.pc+1)) d.2 (by show v.r.s.vars.length<=8;omega) (by show Ix v.r.s.vars.length n;rw[C];exact d.1),rfl,rfl,rfl,by have:=d.2;simp;omega⟩
  ·cases c
 |len n=>
  simp only[EB]at c;split at c
  ·injection c with c;injection c with c;subst c;rename_i d;have t:Ix v.r.s.q.length n:=by rw[m.q];exact d.1
   have e:=Ol (s:=v.r.s) f t;have:=xr (h.at_ (v.pc+1)) d.2 f.ok (by omega) (n:=n) (by rw[j];exact d.1);rw[e]at this;exact⟨this,rfl,rfl,rfl,by have:=d.2;simp;omega⟩
  ·cases c
 |bI=>
  simp only[EB]at c;split at c
  ·injection c with c;injection c with c;subst c;rename_i d;have e:=f.jd v.r.s.vars key;rw[g]at e;have:=sh (h.at_ (v.pc+1)) d f.ok;rw[e]at this;exact⟨this,rfl,rfl,rfl,by simp;omega⟩
  ·cases c
 |less=>
  simp only[EB]at c;split at c
  ·injection c with c;injection c with c;subst c;rename_i b a st F;have M:v.stack.length=st.length+2:=by rw[F];rfl
   exact⟨rZ (h.at_ (v.pc+1)) F o,rfl,rfl,rfl,by simp;omega⟩
  ·cases c
 |full n=>
  simp only[EB]at c;split at c
  ·injection c with c;injection c with c;subst c;rename_i d;have t:Ix v.r.s.q.length n:=by rw[m.q];exact d
   have e:=Ol (s:=v.r.s) f t;have:=sf (h.at_ (v.pc+1)) f.ok L j d;unfold Md at this;rw[e]at this;exact⟨this,rfl,rfl,rfl,o⟩
  ·cases c
 |fC n=>
  simp only[EB]at c;split at c
  ·injection c with c;injection c with c;subst c;rename_i d;have t:Ix v.r.s.q.length n:=by rw[m.q];exact d
   have k:Ix A.qs.length n:=by rw[j];exact d
   have e:=Ol (s:=v.r.s) f t;by_cases D:M7 A n=0
   ·have:=mP (h.at_ (v.pc+1)) f.ok (by omega) k D;have E:(decide (0<(v.r.s.queue n).length)&&decide (0<(Bs (v.r.s.queue n)).bI))=false:=by rw[←e,D];rfl
    rw[E];exact⟨this,rfl,rfl,rfl,o⟩
   ·have:=mO (h.at_ (v.pc+1)) f.ok (by omega) k (by omega);have u:v.r.s.queue n≠ []:=by intro N;rw[N]at e;exact D e
    have G:n.toNat<A.qs.length:=by unfold Ix at k;omega
    have y:((n.toNat:Nat):Int)=n:=by have:=d.1;omega
    have H:=f.lT v.r.s.vars G (by rw[g,y];exact u);rw[g,y]at H;have I:=f.jd v.r.s.vars (A.tail n.toNat);rw[g]at I;have z:=f.iA v.r.s.vars G (by rw[g,y];exact u);rw[g,y,←H]at z;have E:dW v.r.s (A.tail n.toNat)=(Bs (v.r.s.queue n)).bI:=by unfold dW;rw[z];simp only;rw[y];rfl
    rw[I,E]at this;have O:(decide (0<(v.r.s.queue n).length)&&decide (0<(Bs (v.r.s.queue n)).bI))=decide (0<(Bs (v.r.s.queue n)).bI):=by rw[←e,D0 (by omega)];rfl
    rw[O];exact⟨this,rfl,rfl,rfl,o⟩
  ·cases c
 |not=>
  simp only[EB]at c;injection c with c;injection c with c;subst c;exact⟨xo (h.at_ (v.pc+1)),rfl,rfl,rfl,o⟩
 |_=>cases K
end
end Go.Proofs.YtodkkholbjeioaaGreatDoor.Ev
namespace Go.Proofs.YtodkkholbjeioaaGreatDoor.Ev
open _root_.Go.Proofs.Tryz
open Go
theorem OR {P:Program}{a:Act}{w:World}{Q:Exit->Act->World->Prop}{c X:Code}(l:Nat) (J:Nat->Act->World->Prop) (B:findLabel c l=some (Code.skip.seq X))
  (first:(∀k a w,J k a w->X.wp P (Exit.jump l (λp w'=>∃f,J f p w') Q) a w)->c.wp P (Exit.jump l (λp w'=>∃f,J f p w') Q) a w)
  (i:∀k a w,J k a w->X.wp P (Exit.jump l (λp w'=>∃f,f<k/\J f p w') Q) a w):(Code.scope c).wp P Q a w:=by
 have first:=first λk a w s=>Code.wp_mono (λe a w h=>by
  cases e with
  |goto l'=>obtain⟨C,f,_,D⟩:=h;exact⟨C,f,D⟩
  |_=>exact h) (i k a w s)
 have i:∀k a w,J k a w->(Code.skip.seq X).wp P (Exit.jump l (λp w'=>∃f,f<k/\J f p w') Q) a w:=λk a w h=>wp_seq (wp_skip (i k a w h));intro b k cs;have A:gotoIn l (.inScope c::k)=some (.code (Code.skip.seq X):: .inScope c::k):=by simp[gotoIn,B]
 have key:∀n a w,J n a w->∃e p w',Q e p w'/\Arrives P (lone (b.at a (.code (Code.skip.seq X):: .inScope c::k)) cs w) b k cs e p w':=by
  intro n
  induction n using Nat.strongRecOn with
  |_ n E=>
   intro a w s;obtain⟨e,j,m,o,d⟩:=i n a w s b (.inScope c::k) cs;cases e with
   |normal=>exact⟨.normal,j,m,o,Steps.trans d (.one step_inScope)⟩
   |exit id=>exact⟨.exit id,j,m,o,λf t=>d f (by simp[exitTo,t])⟩
   |goto l'=>
    obtain⟨rfl,u,v,q⟩:=o;obtain⟨x,y,z,r,g⟩:=E u v j m q;exact⟨x,y,z,r,.of_steps (d _ A) g⟩
   |ret=>exact⟨_,j,m,o,d⟩
   |panic ch=>exact⟨_,j,m,o,d⟩
   |outgrown=>exact⟨_,j,m,o,d⟩
 obtain⟨e,j,m,o,d⟩:=first b (.inScope c::k) cs
 cases e with
 |normal=>exact⟨.normal,j,m,o,.head Us (Steps.trans d (.one step_inScope))⟩
 |exit id=>exact⟨.exit id,j,m,o,λf t=>.head Us (d f (by simp[exitTo,t]))⟩
 |goto l'=>
  obtain⟨rfl,u,q⟩:=o;obtain⟨x,y,z,r,g⟩:=key u j m q;exact⟨x,y,z,r,.of_steps (.head Us (d _ A)) g⟩
 |ret=>exact⟨_,j,m,o,.of_steps (.one Us) d⟩
 |panic ch=>exact⟨_,j,m,o,.of_steps (.one Us) d⟩
 |outgrown=>exact⟨_,j,m,o,.of_steps (.one Us) d⟩
theorem Ln (a:Act) (F:(Nat->Value)->Act) (h:a=F (λi=>a.tmps.getD i undef)):∃u,a=F u:=⟨_,h⟩
end Go.Proofs.YtodkkholbjeioaaGreatDoor.Ev
namespace Go.Proofs.YtodkkholbjeioaaGreatDoor.Ev
open _root_.Go.Proofs.Tryz
open Go Go.RowKit
structure zB (B:Nat) (w:World) (gs ga:Nat) (mu:Value) (SA:Nat->Prop) (A:Am) (vars:List Int):Prop where
 bS:AF w gs 92 [.pointer (some ⟨ga,0,none⟩),mu]
 vars:Sl (λb=>B<=b) w 3 1 mu vars.length (vars.map JF)
 ar:∃vl vf vq bm,BL SA w ga A vl vf vq bm
 nJ:B<=gs
 sa:∀b,SA b->B<=b/\b<w.heap.size
 ss:¬SA gs
 s4:∀b,mu.ownBlock=some b->¬SA b
section
variable {B:Nat}{ea:Nat->Addr}{w:World}{x:RV}{SA:Nat->Prop}{p:Ax}{key:Int}{A:Am}{ns:List (List Nat)}{v:VS}
theorem Cr.state (h:Cr B w x SA p key A v):zB B w x.gs x.ga x.mu SA A v.r.s.vars:=⟨h.bS,h.vars,h.ar,h.nJ,h.sa,h.ss,h.s4⟩
theorem Cr.lX (h:Cr B w x SA p key A v) {g j:Nat}(e:x.lV= .slice (some ⟨g,0,none⟩) v.loops.length j) (c:Nat) (n:Int):
  Cr B (w.setCell ⟨g,c,none⟩ (.int .i64 n)) x SA p key A {v with loops:=v.loops.set c n}:=by
 have l:=h.loops.py JF (i:=c) e n;have f:Ac (λb=>b=g) w (w.setCell ⟨g,c,none⟩ (.int .i64 n)):=Ac.one _ ⟨g,c,none⟩ _;have a:x.lV.ownBlock=some g:=by rw[e];rfl
 obtain⟨m,o,q,r,k⟩:=h.ar;exact⟨h.ro.kept f (λb d=>d▸h.loops.2 g a),h.row.kept f (λe=>h.loops.bK h.row (by decide) (e▸a)),h.bS.kept f (λe=>h.loops.bK h.bS (by decide) (e▸a)),h.stack.kept f (λb d e=>h.a1 b d (e▸a)),l,
  h.out.kept f (λb d e=>h.loops.fH h.out (by decide) b (e▸a) d),h.vars.kept f (λb d e=>h.a3 b (e▸a) d),⟨m,o,q,r,k.kept f (λb d e=>h.s2 b (e▸a) d)⟩,h.iI,h.nJ,
  λb d=>⟨(h.sa b d).1,An (h.sa b d).2 f.size⟩,h.sr,h.ss,h.s1,h.s2,h.s3,h.s4,h.a1,h.a2,h.a3⟩
def io (B:Nat) (ea:Nat->Addr) (w0:World) (gs:Nat) (p:Ax) (d:Except Nat DQ) (e:Ending) (w':World):Prop:=
 Ac (λb=>B<=b) w0 w'/\match d with
  | .error k=>e= .returned (.tuple #[.slice none 0 0,Ds ea k])
  | .ok r=>∃a f c SA A ns,e= .returned (.tuple #[a,.nilIface])/\zB B w' gs f c SA A r.s.vars/\CE A ns r.s.q/\G4 p r.s/\
    Sl (λb=>B<=b) w' 25 1 a r.gone.length (r.gone.map KE)/\(∀b,a.ownBlock=some b->¬SA b/\b≠gs/\c.ownBlock≠some b)
def Vw (b gs gr c n a pc:Nat) (d key:Int) (u:Nat->Value):Act:=
 {tmps:=#[.pointer (some ⟨b,0,none⟩),.pointer (some ⟨gs,0,none⟩),.int .i64 d,.int .u64 key,u 4,u 5,u 6,u 7,.slice none 0 0,.nilIface,.slice (some ⟨c,0,none⟩) n a,.bool true,.pointer (some ⟨gr,0,none⟩),.int .i64 pc,u 14,u 15,u 16,u 17,u 18,u 19,u 20,u 21,u 22,u 23,u 24,u 25,u 26,u 27,u 28,u 29,u 30,u 31,u 32,u 33,u 34,u 35,u 36,u 37,u 38,u 39,u 40,u 41,u 42,u 43,u 44,u 45,u 46,u 47,u 48,u 49,u 50,u 51,u 52,u 53,u 54,u 55,u 56,u 57,u 58,u 59,u 60,u 61,u 62,u 63,u 64,u 65,u 66,u 67,u 68,u 69,u 70,u 71,u 72,u 73,u 74,u 75,u 76,u 77,u 78,u 79,u 80,u 81,u 82,u 83,u 84,u 85,u 86,u 87,u 88,u 89,u 90,u 91,u 92,u 93,u 94,u 95,u 96,u 97,u 98,u 99,u 100,u 101,u 102,u 103,u 104,u 105,u 106,u 107,u 108,u 109],defers:=[]}
def Aof (B:Nat) (ea:Nat->Addr) (w0:World) (x:RV) (p:Ax) (e key:Int) (code:List Gm) (f c:Nat) (d:Except Nat DQ) (k:Nat) (a:Act) (w:World):Prop:=
 ∃(v:VS) (st g:Value) (SA:Nat->Prop) (A:Am) (ns:List (List Nat)),(∃u,a=Vw x.gg x.gs x.gr f code.length c v.pc e key u)/\Ve p key code k v=some d/\
  Cr B w {x with nw:=st,iT:=g} SA p key A v/\CE A ns v.r.s.q/\G4 p v.r.s/\v.stack.length<=2/\(∀n∈v.loops,0<=n/\n<=50)/\Ac (λb=>B<=b) w0 w
end
end Go.Proofs.YtodkkholbjeioaaGreatDoor.Ev
namespace Go.Proofs.YtodkkholbjeioaaGreatDoor.Ev
open _root_.Go.Proofs.Tryz
theorem Hm {p:Ax}{key:Int}(P:DQ->Prop) (a:∀x r r',Ki p.decls x->P r->bN p key x r= .ok r'->P r'):∀(b:Az) (r r':DQ),MN p.decls b->P r->exec p key b r= .ok r'->P r'
 | .nil,r,r',_,h,e=>by rw[exec]at e;injection e with e;rw[←e];exact h
 | .bN x b,r,r',g,h,e=>by
  rw[exec]at e;split at e
  ·rename_i r1 e1;exact Hm P a b r1 r' g.2 (a x r r1 g.1 h e1) e
  ·cases e
 | .ite c t o j b,r,r',⟨_,d,f,k,_⟩,h,e=>by
  rw[exec]at e;split at e
  ·rename_i r1 e1;refine Hm P a b r1 r' k ?_ e;split at e1
   ·exact Hm P a t r r1 d h e1
   ·split at e1
    ·exact Hm P a j r r1 f h e1
    ·injection e1 with e1;rw[←e1];exact h
  ·cases e
 | .rep n c x b,r,r',⟨_,d,f,_⟩,h,e=>by
  rw[exec]at e;split at e
  ·rename_i r1 e1;refine Hm P a b r1 r' f ?_ e;have l:∀(m:Nat) (r r1:DQ),P r->Gt (λs=>BF p.decls key s c) (exec p key x) m r= .ok r1->P r1:=by
    intro m
    induction m with
    |zero=>intro r r1 h e;rw[Gt]at e;injection e with e;rw[←e];exact h
    |succ m q=>
     intro r r1 h e;rw[Gt]at e;split at e
     ·split at e
      ·rename_i i u;exact q i r1 (Hm P a x r i d h u) e
      ·cases e
     ·injection e with e;rw[←e];exact h
   exact l _ _ _ h e1
  ·cases e
def NK (s:St) (i:Nat) (x:Int):Prop:=∃l,s.q[i]?=some l/\x∈l.map (·.key)
structure Ahv (s:St):Prop where
 nd:∀(i:Nat) l,s.q[i]?=some l->(l.map (·.key)).Nodup
 one:∀i j x,NK s i x->NK s j x->i=j
theorem CE.once {A:Am}{g:List (List Nat)}{s:St}(h:CE A g s.q):Ahv s:=by
 have at_:∀i x,NK s i x->∃l n,g[i]?=some l/\n∈l/\(A.node n).key=x:=by
  rintro i x ⟨l,c,z⟩;rw[h.nH,At]at c;cases d:g[i]? with
  |none=>rw[d]at c;cases c
  |some m=>
   rw[d]at c;simp only[Ca,Co]at c;subst c;rw[IK]at z;obtain⟨n,o,t⟩:=AE.1 z;exact⟨m,n,rfl,o,t⟩
 constructor
 ·intro i l c;rw[h.nH,At]at c;cases d:g[i]? with
  |none=>rw[d]at c;cases c
  |some m=>
   rw[d]at c;simp only[Ca,Co]at c;subst c;rw[IK];have u:=h.nodup i m d;have v:∀a∈m,∀b∈m,(A.node a).key=(A.node b).key->a=b:=λa w b f e=>(h.uniq d w d f e).1;have:∀(m':List Nat),m'.Nodup->(∀a∈m',a∈m)->(m'.map ((λe:Gp=>e.key)∘CW A)).Nodup:=by
    intro m'
    induction m' with
    |nil=>intro _ _;exact XE
    |cons a m' B=>
     intro C y;have k:=BC.1 C;rw[BS,BC];refine⟨λD=>?_,B k.2 (λb f=>y b (GS _ f))⟩;obtain⟨b,f,e⟩:=AE.1 D;have:=v b (y b (GS _ f)) a (y a (Ly ..)) e;exact k.1 (this▸f)
   exact this m u (λa w=>w)
 ·intro i j x E F;obtain⟨l,n,k,G,H⟩:=at_ i x E;obtain⟨l',L,I,J,K⟩:=at_ j x F;exact(h.uniq k G I J (H.trans K.symm)).2
theorem RU {key:Int}:∀{L:List Gp}{i j:Nat},C7 key L i=some j->i<=j/\∃e,L[j-i]?=some e/\e.key=key
 | [],_,_,h=>by cases h
 |e::L,i,j,h=>by
  unfold C7 at h;split at h
  ·rename_i a;injection h with h;subst h;exact⟨Ab _,e,by simp,a⟩
  ·obtain⟨d,x,b,c⟩:=RU h;refine⟨by omega,x,?_,c⟩;have:j-i=(j-(i+1))+1:=by omega
   rw[this];exact b
theorem RS {key:Int}:∀{L:List Gp}{i:Nat},C7 key L i=none->∀e∈L,e.key≠key
 | [],_,_,_,h=>by cases h
 |e::L,i,h,x,a=>by
  unfold C7 at h;split at h
  ·cases h
  ·rename_i b;rcases AA.1 a with rfl|a
   ·exact b
   ·exact RS h x a
theorem Rx {key:Int}:∀{q:List (List Gp)}{a k i:Nat},DY key q a=some (k,i)->a<=k/\∃l e,q[k-a]?=some l/\l[i]?=some e/\e.key=key
 | [],_,_,_,h=>by cases h
 |l::q,a,k,i,h=>by
  unfold DY at h;split at h
  ·rename_i j f;injection h with h;injection h with d b;subst d b;obtain⟨_,e,c,g⟩:=RU f;exact⟨Ab _,l,e,by simp,c,g⟩
  ·obtain⟨d,l',e,b,c⟩:=Rx h;refine⟨by omega,l',e,?_,c⟩;have:k-a=(k-(a+1))+1:=by omega
   rw[this];exact b
theorem Rw {key:Int}:∀{q:List (List Gp)}{a:Nat},DY key q a=none->∀l∈q,∀e∈l,e.key≠key
 | [],_,_,_,h=>by cases h
 |l::q,a,h,m,b=>by
  unfold DY at h;split at h
  ·cases h
  ·rename_i c;rcases AA.1 b with rfl|b
   ·exact RS c
   ·exact Rw h m b
theorem Lo {s:St}{key:Int}{k i:Nat}(h:s.find key=some (k,i)):∃l e,s.q[k]?=some l/\l[i]?=some e/\e.key=key/\s.queue (k:Int)=l/\Bm (s.queue (k:Int)) i=e:=by
 obtain⟨_,l,e,a,b,d⟩:=Rx h;rw[Nat.sub_zero]at a;have c:s.queue (k:Int)=l:=by unfold St.queue;simp[a]
 exact⟨l,e,a,b,d,c,by unfold Bm;rw[c,b];rfl⟩
theorem Wl {s:St}{key:Int}{k i:Nat}(h:s.find key=some (k,i)):NK s k key:=by obtain⟨l,e,a,b,c,_⟩:=Lo h;exact⟨l,a,AE.2 ⟨e,Aw b,c⟩⟩
theorem wM {s:St}{key:Int}(h:s.find key=none) (i:Nat):¬NK s i key:=by rintro⟨l,a,b⟩;obtain⟨e,c,d⟩:=AE.1 b;exact Rw h l (Aw a) e c d
theorem jp {α:Type}{l:List α}{k j:Nat}{x y:α}(h:(l.set k x)[j]?=some y):(j=k/\k<l.length/\y=x)\/(j≠k/\l[j]?=some y):=by
 rw[Bk]at h;split at h
 ·rename_i e;split at h
  ·injection h with h;exact .inl ⟨e.symm,by assumption,h.symm⟩
  ·cases h
 ·rename_i e;exact .inr ⟨λe'=>e e'.symm,h⟩
theorem Wv {s:St}{k:Nat}{l l':List Gp}(d:s.q[k]?=some l) (j:Nat) (x:Int):
  NK {s with q:=s.q.set k l'} j x↔(j=k/\x∈l'.map (·.key))\/(j≠k/\NK s j x):=by
 have b:=(Aj.1 d).1;constructor
 ·rintro⟨m,c,a⟩;rcases jp c with⟨e,_,rfl⟩|⟨e,f⟩
  ·exact .inl ⟨e,a⟩
  ·exact .inr ⟨e,m,f,a⟩
 ·rintro(⟨rfl,h⟩|⟨e,m,c,a⟩)
  ·exact⟨l',by rw[Bk,Al rfl,Al b],h⟩
  ·exact⟨m,by rw[BU (λe'=>e e'.symm)];exact c,a⟩
structure ZI (p:Ax) (key:Int) (s0:St) (r:DQ):Prop where
 inv:∃A ns,CE A ns r.s.q
 si:G4 p r.s
 told:∀(i:Nat) x,AY p.decls (i:Int)=true->NK s0 i x->(∃j:Nat,AY p.decls (j:Int)=true/\NK r.s j x)\/x∈r.gone
 qY:∀j x,NK r.s j x->x=key\/∃i,NK s0 i x
 mi:∀(j:Nat) x,NK r.s j x->(Aq p.decls (j:Int)).kind≠2
theorem VQ {l:List Gp}{i:Nat}{x:Int}(h:x∈(l.eraseIdx i).map (·.key)):x∈l.map (·.key):=by obtain⟨e,a,b⟩:=AE.1 h;exact AE.2 ⟨e,S4 a,b⟩
theorem Uv {l:List Gp}{i:Nat}{e:Gp}{x:Int}(d:l[i]?=some e) (f:x∈l.map (·.key)):x=e.key\/x∈(l.eraseIdx i).map (·.key):=by
 obtain⟨y,g,c⟩:=AE.1 f;obtain⟨j,a⟩:=J0 g;by_cases b:j=i
 ·subst b;rw[d]at a;injection a with a;left;rw[←c,←a]
 ·right;refine AE.2 ⟨y,?_,c⟩;rw[nj];exact⟨j,b,a⟩
theorem VL {s:St}{k i:Nat}{l:List Gp}{e:Gp}(b:s.q[k]?=some l) (f:l[i]?=some e) (j:Nat) (x:Int):
  (NK (s.out k i) j x->NK s j x)/\(NK s j x->NK (s.out k i) j x\/(j=k/\x=e.key)):=by
 have g:s.out k i={s with q:=s.q.set k (l.eraseIdx i)}:=by unfold St.out;rw[b];rfl
 rw[g];constructor
 ·intro h;rcases(Wv b j x).1 h with⟨rfl,a⟩|⟨_,a⟩
  ·exact⟨l,b,VQ a⟩
  ·exact a
 ·intro h;by_cases d:j=k
  ·subst d;obtain⟨m,a,n⟩:=h;rw[b]at a;injection a with a;subst a;rcases Uv f n with c|c
   ·exact .inr ⟨rfl,c⟩
   ·exact .inl ((Wv b j x).2 (.inl ⟨rfl,c⟩))
  ·exact .inl ((Wv b j x).2 (.inr ⟨d,h⟩))
theorem Wu {l:List Bi}{e:Gp}{f t:Int}{tl:Bool}{r r':DQ}(h:JK l e f t tl r= .ok r') (k:Ix r.s.q.length t):
  (∀(j:Nat) x,NK r'.s j x↔NK r.s j x\/(j=t.toNat/\x=e.key))/\r'.gone=(if AY l t then r.gone else if AY l f then r.gone++[e.key]else r.gone):=by
 obtain⟨v,w⟩:=k;have d:t.toNat<r.s.q.length:=by omega
 have g:r.s.q[t.toNat]?=some (r.s.queue t):=by unfold St.queue;rw[Ae d];rfl
 unfold JK at h;split at h
 ·cases h
 ·injection h with h;have n:r'.s={r.s with q:=r.s.q.set t.toNat (if tl then r.s.queue t++[e]else e::r.s.queue t)}:=by
   rw[←h];split
   ·rfl
   ·unfold DQ.leaves;split<;>rfl
  refine⟨λj x=>?_,?_⟩
  ·rw[n,Wv g];have o:x∈(if tl then r.s.queue t++[e]else e::r.s.queue t).map (·.key)↔x∈(r.s.queue t).map (·.key)\/x=e.key:=by
    split
    ·simp
    ·simp only[BS,AA];exact or_comm
   rw[o];constructor
   ·rintro(⟨a,b|b⟩|⟨a,b⟩)
    ·exact .inl ⟨_,a▸g,b⟩
    ·exact .inr ⟨a,b⟩
    ·exact .inl b
   ·rintro(a|⟨a,b⟩)
    ·by_cases i:j=t.toNat
     ·obtain⟨m,c,u⟩:=a;rw[i,g]at c;injection c with c;subst c;exact .inl ⟨i,.inl u⟩
     ·exact .inr ⟨i,a⟩
    ·exact .inl ⟨a,.inr b⟩
  ·rw[←h];split
   ·rfl
   ·unfold DQ.leaves;split<;>rfl
theorem YX (l:List Gp) (i:Nat) (f:Int):(gI l i f).map (·.key)=l.map (·.key):=by
 unfold gI;rw[PE];refine Fj λj=>?_;rw[Bk];split
 ·rename_i e;subst e;rw[At];split
  ·rename_i h;rw[Ft]at h;rw[Ae h];simp[Bm,Ae h]
  ·rename_i h;rw[Ft]at h;rw[Bl (by omega)];rfl
 ·rfl
section
variable {p:Ax}{key:Int}{s0:St}{r r':DQ}
theorem jq {s:St}{k:Int}(i:Nat) (f:Int) (j:Nat) (x:Int):NK (s.bR k (gI (s.queue k) i f)) j x↔NK s j x:=by
 unfold St.bR;by_cases b:k.toNat<s.q.length
 ·have c:s.q[k.toNat]?=some (s.queue k):=by unfold St.queue;rw[Ae b];rfl
  rw[Wv c,YX];constructor
  ·rintro(⟨rfl,h⟩|⟨_,h⟩)
   ·exact⟨_,c,h⟩
   ·exact h
  ·intro h;by_cases d:j=k.toNat
   ·obtain⟨m,a,e⟩:=h;rw[d,c]at a;injection a with a;subst a;exact .inl ⟨d,e⟩
   ·exact .inr ⟨d,h⟩
 ·rw[List.set_eq_of_length_le (by omega)]
theorem ZI.move (h:ZI p key s0 r) {k i:Nat}{l:List Gp}{e:Gp}(f:r.s.q[k]?=some l) (g:l[i]?=some e)
  (y:∃A u,CE A u r'.s.q) (z:G4 p r'.s) (c:∀(j:Nat) x,NK r'.s j x->NK (r.s.out k i) j x\/(x=e.key/\(Aq p.decls (j:Int)).kind≠2)) (d:∀(j:Nat) x,NK (r.s.out k i) j x->NK r'.s j x)
  (B:∀x∈r.gone,x∈r'.gone) (m:(∃t:Nat,AY p.decls (t:Int)=true/\NK r'.s t e.key)\/(AY p.decls (k:Int)=true->e.key∈r'.gone)):ZI p key s0 r':=by
 have n:NK r.s k e.key:=⟨l,f,AE.2 ⟨e,Aw g,rfl⟩⟩;obtain⟨A,u,F⟩:=h.inv;refine⟨y,z,λC x D b=>?_,λj x b=>?_,λj x b=>(c j x b).elim (λa=>h.mi j x ((VL f g j x).1 a)) (λa=>a.2)⟩
 ·rcases h.told C x D b with⟨j,v,b⟩|b
  ·rcases(VL f g j x).2 b with a|⟨a,w⟩
   ·exact .inl ⟨j,v,d j x a⟩
   ·rcases m with⟨t,E,o⟩|o
    ·exact .inl ⟨t,E,w▸o⟩
    ·exact .inr (w▸o (a▸v))
  ·exact .inr (B x b)
 ·rcases c j x b with a|a
  ·exact h.qY j x ((VL f g j x).1 a)
  ·rw[a.1];exact h.qY k _ n
theorem SH {s:St}{q:Int}(f:Ix s.q.length q) (a:s.queue q≠ []):
  ∃l e,s.q[q.toNat]?=some l/\l[l.length-1]?=some e/\Bs (s.queue q)=e/\s.bR q (s.queue q).dropLast=s.out q.toNat (l.length-1)/\s.queue q=l:=by
 obtain⟨g,h⟩:=f;have b:q.toNat<s.q.length:=by omega
 have c:s.q[q.toNat]?=some (s.queue q):=by unfold St.queue;rw[Ae b];rfl
 have d:(s.queue q).length-1<(s.queue q).length:=by have:=List.length_pos_iff.2 a;omega
 refine⟨s.queue q,_,c,Ae d,?_,?_,rfl⟩
 ·unfold Bs Bm;rw[Ae d];rfl
 ·unfold St.bR St.out;rw[c];show({s with q:=s.q.set q.toNat (s.queue q).dropLast}:St)={s with q:=s.q.set q.toNat ((s.queue q).eraseIdx ((s.queue q).length-1))};rw[JG]
theorem ZI.step (R:Em p) (h:ZI p key s0 r) (x:D4) (o:Ki p.decls x) (e:bN p key x r= .ok r'):ZI p key s0 r':=by
 obtain⟨A,P,S⟩:=h.inv;have G:=Y4 S h.si R key x o r.gone;have T:(⟨r.s,r.gone⟩:DQ)=r:=rfl;rw[T,e]at G;obtain⟨U,K,_,L,w⟩:=G;have g:∃A P,CE A P r'.s.q:=⟨U,K,L⟩;have z:=h.si.q;have m:(∀j x,NK r'.s j x↔NK r.s j x)->r'.gone=r.gone->ZI p key s0 r':=λn C=>
  ⟨g,w,λi y u f=>(h.told i y u f).imp (λ⟨j,a,b⟩=>⟨j,a,(n j y).2 b⟩) (λM=>C▸M),λj y f=>h.qY j y ((n j y).1 f),λj y f=>h.mi j y ((n j y).1 f)⟩
 cases x with
 |inc v=>
  simp only[bN]at e;injection e with e;refine m (λj y=>?_) ?_
  ·rw[←e];split<;>exact Iff.rfl
  ·rw[←e];split<;>rfl
 |dec v=>
  simp only[bN]at e;injection e with e;refine m (λj y=>?_) ?_
  ·rw[←e];split<;>exact Iff.rfl
  ·rw[←e];split<;>rfl
 |bump=>
  simp only[bN]at e;split at e
  ·injection e with e;refine m (λj y=>?_) ?_
   ·rw[←e];split
    ·exact jq _ _ _ _
    ·exact Iff.rfl
   ·rw[←e];split<;>rfl
  ·injection e with e;exact m (λj y=>by rw[←e]) (by rw[←e])
 |dV q=>
  simp only[bN]at e;split at e
  ·cases e
  ·injection e with e;refine m (λj y=>?_) ?_
   ·rw[←e];split
    ·exact jq _ _ _ _
    ·exact Iff.rfl
   ·rw[←e];split<;>rfl
 |cu q=>
  simp only[bN]at e;split at e
  ·cases e
  ·rename_i E;injection e with e;obtain⟨l,H,n,C,F,N,_⟩:=SH (by rw[z];exact o) E;have D:((q.toNat:Nat):Int)=q:=by have:=o.1;omega
   rw[F,N,I8]at e;refine h.move n C g w (λj y f=>.inl (by rw[←e]at f;exact f)) (λj y f=>by rw[←e];exact f) (λy f=>?_) (.inr (λu=>?_))
   ·rw[←e];show y∈(if _ then _ else _);split
    ·exact CF _ f
    ·exact f
   ·rw[←e];show H.key∈(if _ then _ else _);rw[D]at u;rw[Al u];simp
 |drop=>
  simp only[bN]at e;split at e
  ·rename_i k i I;injection e with e;obtain⟨l,H,n,C,F,_,_⟩:=Lo I;rw[I8]at e;refine h.move n C g w (λj y f=>.inl (by rw[←e]at f;exact f)) (λj y f=>by rw[←e];exact f) (λy f=>?_) (.inr (λu=>?_))
   ·rw[←e];show y∈(if _ then _ else _);split
    ·exact CF _ f
    ·exact f
   ·rw[←e,F];show key∈(if _ then _ else _);rw[Al u];simp
  ·injection e with e;exact m (λj y=>by rw[←e]) (by rw[←e])
 |put q tl=>
  simp only[bN]at e;split at e
  ·rename_i k i I;obtain⟨l,H,n,C,F,_,V⟩:=Lo I;rw[V]at e;have B:(r.s.out k i).q.length=r.s.q.length:=by simp[St.out]
   obtain⟨a,b⟩:=Wu e (by show Ix (r.s.out k i).q.length q;rw[B,z];exact o.1);have D:((q.toNat:Nat):Int)=q:=by have:=o.1.1;omega
   refine h.move n C g w (λj y f=>((a j y).1 f).imp id (λh=>⟨h.2,by rw[h.1];rw[D];exact o.2⟩)) (λj y f=>(a j y).2 (.inl f)) (λy f=>?_) ?_
   ·rw[b];split
    ·exact f
    ·split
     ·exact CF _ f
     ·exact f
   ·cases u:AY p.decls q with
    |true=>exact .inl ⟨q.toNat,by rw[D];exact u,(a _ _).2 (.inr ⟨rfl,rfl⟩)⟩
    |false=>exact .inr (λJ=>by rw[b,u,J];simp)
  ·rename_i I;obtain⟨a,b⟩:=Wu e (by rw[z];exact o.1);have O:AY p.decls (-1)=false:=rfl;refine⟨g,w,λi y u f=>(h.told i y u f).imp (λ⟨j,c,d⟩=>⟨j,c,(a j y).2 (.inl d)⟩) (λM=>?_),λj y f=>?_,λj y f=>?_⟩
   ·rw[b,O];split<;>exact M
   ·rcases(a j y).1 f with n|⟨_,n⟩
    ·exact h.qY j y n
    ·exact .inl n
   ·rcases(a j y).1 f with n|⟨n,_⟩
    ·exact h.mi j y n
    ·have D:((q.toNat:Nat):Int)=q:=by have:=o.1.1;omega
     rw[n,D];exact o.2
 |shift q t tl=>
  simp only[bN]at e;split at e
  ·cases e
  ·rename_i E;obtain⟨l,H,n,C,F,N,_⟩:=SH (by rw[z];exact o.1) E;have D:((q.toNat:Nat):Int)=q:=by have:=o.1.1;omega
   have Q:((t.toNat:Nat):Int)=t:=by have:=o.2.1.1;omega
   rw[F,N]at e;have B:(r.s.out q.toNat (l.length-1)).q.length=r.s.q.length:=by simp[St.out]
   obtain⟨a,b⟩:=Wu e (by show Ix (r.s.out q.toNat (l.length-1)).q.length t;rw[B,z];exact o.2.1);refine h.move n C g w (λj y f=>((a j y).1 f).imp id (λh=>⟨h.2,by rw[h.1];rw[Q];exact o.2.2⟩)) (λj y f=>(a j y).2 (.inl f)) (λy f=>?_) ?_
   ·rw[b];split
    ·exact f
    ·split
     ·exact CF _ f
     ·exact f
   ·cases u:AY p.decls t with
    |true=>exact .inl ⟨t.toNat,by rw[Q];exact u,(a _ _).2 (.inr ⟨rfl,rfl⟩)⟩
    |false=>exact .inr (λJ=>by rw[D]at J;rw[b,u,J];simp)
theorem mo (d:Em p) {A:Am}{c:List (List Nat)}{s:St}(f:CE A c s.q) (g:G4 p s) {b:Az}(k:∀(j:Nat) x,NK s j x->(Aq p.decls (j:Int)).kind≠2) (l:MN p.decls b) (e:exec p key b ⟨s,[]⟩= .ok r'):ZI p key s r':=
 Hm (ZI p key s) (λx r r' a h e=>h.step d x a e) b ⟨s,[]⟩ r' l ⟨⟨A,c,f⟩,g,λi x m a=>.inl ⟨i,m,a⟩,λj x a=>.inr ⟨j,a⟩,k⟩ e
end
theorem Ak9 {c:UInt8}(h:low c=true):blank c=false:=by unfold low at h;unfold blank;simp only[Eh,Ey,DZ]at h;rw[Bool.or_eq_false_iff,BJ,BJ];exact⟨by rintro rfl;simp at h,by rintro rfl;simp at h⟩
theorem M0 {n:Nat}(h:n<10):EU n=[UInt8.ofNat (48+n)]:=by rw[EU,Al h]
theorem Pw {n:Nat}(h:¬n<10):EU n=EU (n/10)++[UInt8.ofNat (48+n%10)]:=by rw[EU,Ai h]
theorem LI {n:Nat}(h:n<10):Gq (UInt8.ofNat (48+n))=true/\(UInt8.ofNat (48+n)).toNat=48+n:=by
 have e:(UInt8.ofNat (48+n)).toNat=48+n:=by simp;omega
 refine⟨?_,e⟩;unfold Gq;simp only[Eh,Ey,DZ,e];exact⟨by simp,by simp;omega⟩
theorem Zq:∀(k n:Nat),n<10^(k+1)->EU n≠ []/\(EU n).length<=k+1/\(∀c∈EU n,Gq c=true)/\atoi (EU n)=n:=by
 intro k
 induction k with
 |zero=>
  intro n h;have j:n<10:=by simpa using h
  rw[M0 j];refine⟨by simp,by simp,λc i=>?_,?_⟩
  ·simp only[Ec]at i;subst i;exact(LI j).1
  ·unfold atoi;simp only[U0,xG,(LI j).2];omega
 |succ k m=>
  intro n h;by_cases f:n<10
  ·rw[M0 f];refine⟨by simp,by simp,λc i=>?_,?_⟩
   ·simp only[Ec]at i;subst i;exact(LI f).1
   ·unfold atoi;simp only[U0,xG,(LI f).2];omega
  ·have o:n/10<10^(k+1):=by rw[Nat.div_lt_iff_lt_mul (by omega)];have e:10^(k+1+1)=10^(k+1)*10:=Nat.pow_succ _ _;omega
   obtain⟨a,b,c,d⟩:=m (n/10) o;have l:n%10<10:=Nat.mod_lt _ (by omega);rw[Pw f];refine⟨by simp,by simp;omega,λx g=>?_,?_⟩
   ·rcases CD.1 g with g|g
    ·exact c x g
    ·simp only[Ec]at g;subst g;exact(LI l).1
   ·unfold atoi at d ⊢;rw[List.foldl_append,d];simp only[U0,xG,(LI l).2];omega
theorem FP {n:Int}(e:0<=n) (h:n<=999):Ck n≠ []/\(Ck n).length<=3/\(∀c∈Ck n,Gq c=true)/\atoi (Ck n)=n:=by obtain⟨a,b,c,d⟩:=Zq 2 n.toNat (by omega);exact⟨a,b,c,by unfold Ck;rw[d];omega⟩
abbrev T2:=Ah×Ah
def tk (w:Ah):T2:=(w,w)
section
variable {l:List Bi}(hl:Kl l)
include hl
end
def yk (c:C5):C5:=⟨c.k,c.bP%2⟩
def Yb:Az->Az
 | .nil=>.nil
 | .bN p r=>.bN p (Yb r)
 | .ite c t o e r=>.ite (yk c) (Yb t) o (Yb e) (Yb r)
 | .rep n c b r=>.rep n (yk c) (Yb b) (Yb r)
def ll:Az->Nat
 | .nil=>1
 | .bN _ r=>2+ll r
 | .ite _ t _ e r=>3+ll t+ll e+ll r
 | .rep _ _ b r=>3+ll b+ll r
section
variable {s:Ah}{st:PS}{t2:T2}{ts:List T2}{d:Ah}
theorem wN {l:List Bi}(f:(l.map (·.name)).Nodup) {k:Nat}{x:Bi}(a:l[k]?=some x):find l x.name=(k:Int):=by
 have:∀(l:List Bi) (j k:Nat),(l.map (·.name)).Nodup->l[k]?=some x->Dh x.name l j=((j+k:Nat):Int):=by
  intro l
  induction l with
  |nil=>intro j k _ h;simp at h
  |cons y l i=>
   intro j k f a;have b:=BC.1 f;cases k with
   |zero=>simp at a;subst a;rw[Dh,Al rfl];rfl
   |succ k=>
    have c:l[k]?=some x:=by simpa using a
    have g:y.name≠x.name:=by intro e;refine b.1 ?_;show y.name∈_;rw[e];exact AE.2 ⟨x,Aw c,rfl⟩
    rw[Dh,Ai g,i (j+1) k b.2 c];congr 1;omega
 have:=this l 0 k f a;unfold find;rw[this];simp
end
def Ahb (c:UInt8):Bool:=low c||Gq c
def YF (k last w:Ah) (q:List Ah):List Ah:=if last=k then q++[w]else q
def nm:Ah->Ah->Ah->List Ah->List Ah->List Ah×List Ah
 | [],a,last,q,g=>if a=[]then(q,g)else(YF EO last a q,YF Gg last a g)
 |c::r,a,last,q,g=>
  if Ahb c then nm r (a++[c]) last q g
  else if a=[]then nm r [] last q g
  else if a=T9 then(YF EO last a q,YF Gg last a g)
  else nm r [] a (YF EO last a q) (YF Gg last a g)
def Qv (l:List Bi) (k:Nat):List Ah:=(l.filter (λd=>d.kind==k)).map (·.name)
structure Td (p:Ax) (s:St):Prop where
 si:G4 p s
 mi:∀(j:Nat) x,NK s j x->(Aq p.decls (j:Int)).kind≠2
 inv:∃A ns,CE A ns s.q
def Ob (e:EX) (l:List Ah):List Int:=l.flatMap λn=>(e.keys n).getD []
theorem MJ {l:List Bi}{i:Nat}{d:Bi}(h:l[i]?=some d):Aq l (i:Int)=d:=by unfold Aq;rw[As,h];rfl
section
variable {p:Ax}{s:St}{c:Km}
theorem Td.lY (j:Em p) (h:Td p s) {i:Nat}{d:Bi}(f:p.decls[i]?=some d) (k:d.kind≠2):
  (⟨p,s,c⟩:EX).keys d.name=some ((s.queue (i:Int)).map (·.key))/\(s.queue (i:Int)).length<=50:=by
 have n:=wN j.decls.nodup f;refine⟨?_,?_⟩
 ·unfold EX.keys;simp only[n];rw[Ai];rintro(b|b)
  ·omega
  ·rw[MJ f]at b;exact k b
 ·obtain⟨A,o,g⟩:=h.inv;unfold St.queue;rw[As];cases a:s.q[i]? with
  |none=>simp
  |some l=>
   simp only[Ih];rw[g.nH,At]at a;cases e:o[i]? with
   |none=>rw[e]at a;cases a
   |some m=>
    rw[e]at a;injection a with a;rw[←a,Ft];exact g.iy i m e
theorem Yd {l:List Bi}{k:Nat}{n:Ah}:n∈Qv l k↔∃(i:Nat) (d:Bi),l[i]?=some d/\d.kind=k/\d.name=n:=by
 unfold Qv;constructor
 ·intro h;obtain⟨d,a,b⟩:=AE.1 h;obtain⟨e,f⟩:=D5.1 a;obtain⟨i,g⟩:=J0 e;exact⟨i,d,g,by simpa using f,b⟩
 ·rintro⟨i,d,a,b,e⟩;exact AE.2 ⟨d,D5.2 ⟨Aw a,by simpa using b⟩,e⟩
theorem YE {i:Nat}{x:Int}:NK s i x↔x∈(s.queue (i:Int)).map (·.key):=by
 unfold NK St.queue;rw[As];constructor
 ·rintro⟨l,b,d⟩;rw[b];exact d
 ·intro h;cases a:s.q[i]? with
  |none=>rw[a]at h;simp at h
  |some l=>rw[a]at h;exact⟨l,rfl,h⟩
theorem Nt (f:Em p) (h:Td p s) {k:Nat}(g:k≠2) (x:Int):x∈Ob ⟨p,s,c⟩ (Qv p.decls k)↔∃(i:Nat) (d:Bi),p.decls[i]?=some d/\d.kind=k/\NK s i x:=by
 unfold Ob;rw[ni];constructor
 ·rintro⟨n,j,e⟩;obtain⟨i,d,a,b,rfl⟩:=Yd.1 j;rw[(h.lY f a (by rw[b];exact g)).1]at e;exact⟨i,d,a,b,YE.2 e⟩
 ·rintro⟨i,d,a,b,e⟩;refine⟨d.name,Yd.2 ⟨i,d,a,b,rfl⟩,?_⟩;rw[(h.lY f a (by rw[b];exact g)).1];exact YE.1 e
theorem jw {α:Type}{l:List α}(h:l.Nodup) {i j:Nat}{x:α}(a:l[i]?=some x) (b:l[j]?=some x):i=j:=by obtain⟨e,e1⟩:=Aj.1 a;obtain⟨f,d⟩:=Aj.1 b;exact(List.getElem_inj h).1 (e1.trans d.symm)
theorem Td.once (h:Td p s):Ahv s:=by obtain⟨A,b,a⟩:=h.inv;exact a.once
def Vb (e:EX):List Int:=Ob e (Qv e.p.decls 0)++Ob e (Qv e.p.decls 1)
theorem iW {l:List Bi}{i:Nat}{d:Bi}(a:l[i]?=some d):AY l (i:Int)=true↔d.kind=0:=by unfold AY;rw[MJ a];simp
theorem NK.decl (h:Td p s) {i:Nat}{x:Int}(a:NK s i x):∃d,p.decls[i]?=some d:=by obtain⟨l,b,_⟩:=a;have:=(Aj.1 b).1;rw[h.si.q]at this;exact⟨_,Ae this⟩
theorem Tr (e:Em p) (h:Td p s) (x:Int):x∈Vb ⟨p,s,c⟩↔∃i,NK s i x:=by
 unfold Vb;rw[CD,Nt e h (by decide),Nt e h (by decide)];constructor
 ·rintro(⟨i,_,_,_,a⟩|⟨i,_,_,_,a⟩)<;>exact⟨i,a⟩
 ·rintro⟨i,a⟩;obtain⟨d,b⟩:=a.decl h;have j:=(e.decls.each d (Aw b)).kind;have g:=h.mi i x a;rw[MJ b]at g;have:d.kind=0\/d.kind=1:=by omega
  rcases this with f|f
  ·exact .inl ⟨i,d,b,f,a⟩
  ·exact .inr ⟨i,d,b,f,a⟩
theorem pg (a:Em p) (k:Int):MN p.decls (C0 p k):=by
 unfold C0;cases h:Bj p.rules k with
 |none=>exact trivial
 |some b=>exact iS a h
theorem du (e:Em p) (h:Td p s) {key:Int}{hit:Bool}{gone:List Int}{e':EX}(f:(⟨p,s,c⟩:EX).access key= .ok hit gone e'):
  e'.p=p/\Td p e'.s/\hit=AY p.decls (En s key)/\e'.n=Qw c hit gone.length/\
  (∀k∈Ob ⟨p,s,c⟩ (Qv p.decls 0),k∈Ob e' (Qv p.decls 0)\/k∈gone)/\
  (∀k∈Ob e' (Qv p.decls 0),k∈Ob ⟨p,s,c⟩ (Qv p.decls 0)\/k=key\/k∈Ob ⟨p,s,c⟩ (Qv p.decls 1)):=by
 unfold EX.access at f;simp only at f;split at f
 ·cases f
 ·rename_i r y;injection f with u v z;obtain⟨A,G,B⟩:=h.inv;have g:=mo e B h.si h.mi (pg e _) y;have m:Td p r.s:=⟨g.si,g.mi,g.inv⟩;subst z;refine⟨rfl,m,u.symm,?_,?_,?_⟩
  ·rw[←u,←v];rfl
  ·intro k o;obtain⟨i,d,C,D,E⟩:=(Nt e h (by decide) k).1 o;rcases g.told i k ((iW C).2 D) E with⟨j,w,q⟩|b
   ·left;obtain⟨x,l⟩:=q.decl m;exact(Nt e m (by decide) k).2 ⟨j,x,l,(iW l).1 w,q⟩
   ·right;rw[←v];exact b
  ·intro k o;obtain⟨j,x,w,q,F⟩:=(Nt e m (by decide) k).1 o;rcases g.qY j k F with rfl|⟨i,a⟩
   ·exact .inr (.inl rfl)
   ·have:=(Tr (c:=c) e h k).2 ⟨i,a⟩;rcases CD.1 this with t|t
    ·exact .inl t
    ·exact .inr (.inr t)
theorem aT (C:Em p) (h:Td p s) (key:Int):
  ((⟨p,s,c⟩:EX).remove key).1=decide (key∈Vb ⟨p,s,c⟩)/\((⟨p,s,c⟩:EX).remove key).2.p=p/\((⟨p,s,c⟩:EX).remove key).2.n=c/\Td p ((⟨p,s,c⟩:EX).remove key).2.s/\(((⟨p,s,c⟩:EX).remove key).2.remove key).1=false:=by
 obtain⟨A,R,G⟩:=h.inv;unfold EX.remove;simp only;cases d:s.find key with
 |none=>
  simp only;refine⟨?_,(by first|rfl|trivial),(by first|rfl|trivial),h,by rw[d]⟩;have:¬key∈Vb ⟨p,s,c⟩:=by rw[Tr C h];rintro⟨i,H⟩;exact wM d i H
  exact(B9 this).symm
 |some x=>
  obtain⟨k,i⟩:=x;simp only;obtain⟨l,S,g,o,I,_,_⟩:=Lo d;have D:=Wl d;have e:key∈Vb ⟨p,s,c⟩:=(Tr C h key).2 ⟨k,D⟩;have r:=QI G key;obtain⟨_,_,_,b⟩:=r;rw[d]at b;obtain⟨⟨J,K⟩,_⟩:=b;have f:∀j,¬NK (s.out k i) j key:=by
   intro j E;have t:=((VL g o j key).1 E);have:=h.once.one j k key t D;subst this;obtain⟨m,F,L⟩:=E;have M:s.out j i={s with q:=s.q.set j (l.eraseIdx i)}:=by unfold St.out;rw[g];rfl
   rw[M]at F;rcases jp F with⟨_,_,rfl⟩|⟨u,_⟩
   ·have v:=h.once.nd j l g;obtain⟨y,N,O⟩:=AE.1 L;obtain⟨a,w,z⟩:=nj.1 N;have:=jw v (i:=a) (j:=i) (x:=key) (by rw[At,z];exact AH some O) (by rw[At,o];exact AH some I);exact w this
   ·exact u rfl
  refine⟨(D0 e).symm,(by first|rfl|trivial),(by first|rfl|trivial),⟨h.si.out k i,λj x P=>h.mi j x ((VL g o j x).1 P),_,_,K⟩,?_⟩;cases B:(s.out k i).find key with
  |none=>rfl
  |some y=>
   obtain⟨Q,T⟩:=y;exact absurd (Wl B) (f Q)
end
def Am.jD (A:Am) (a:List Int):Am:={A with at_:=a.map λk=>(k,(A.idx k).getD 0)}
theorem N7 (f:Int->Nat) (key:Int):∀(a:List Int),((a.map λk=>(k,f k)).find? (λy=>y.1==key)).map (·.2)=if key∈a then some (f key)else none
 | []=>rfl
 |k::a=>by
  by_cases h:k=key
  ·subst h;simp
  ·have b:(k==key)=false:=by simpa using h
   have c:¬key=k:=λe=>h e.symm;rw[BS,La];simp only[b];rw[N7 f key a];simp[c]
theorem kK {A:Am}{a:List Int}(h:∀k,k∈a↔(A.idx k).isSome=true) (key:Int):(A.jD a).idx key=A.idx key:=by
 show((a.map λk=>(k,(A.idx k).getD 0)).find? (λy=>y.1==key)).map (·.2)=_;rw[N7];cases b:A.idx key with
 |none=>
  rw[Ai];intro c;have:=(h key).1 c;rw[b]at this;cases this
 |some n=>
  rw[Al ((h key).2 (by rw[b];rfl))];rfl
theorem CE.jD {A:Am}{b:List (List Nat)}{c:List (List Gp)}(h:CE A b c) {a:List Int}(d:∀k,k∈a↔(A.idx k).isSome=true) (e:a.Nodup):CE (A.jD a) b c:=by
 have f:(A.jD a).Bd:=⟨h.bd.node,h.bd.ends⟩;refine⟨f,h.len,h.q8,h.ends,h.oh,h.mem,h.nodup,h.iy,h.nH,λkey n=>?_,?_,h.free,h.nI,h.qN,h.lb⟩
 ·rw[kK d];exact h.idx key n
 ·show((a.map λk=>(k,(A.idx k).getD 0)).map (·.1)).Nodup;rw[IK];have:((λx:Int×Nat=>x.1)∘λk=>(k,(A.idx k).getD 0))=id:=by funext k;rfl
  rw[this,List.map_id];exact e
end Go.Proofs.YtodkkholbjeioaaGreatDoor.Ev
