/- Parts of a proof that a law's walk returns true. Conditions: none. -/
import Derived.Test.YtemppijblfflgaaGreatDoorZa00
import Derived.Test.YtemppijblfflgaaGreatDoorZa08
set_option linter.all false
set_option maxRecDepth 100000
set_option maxHeartbeats 8000000
namespace Go.Proofs.YtemppijblfflgaaGreatDoor.Ev
open Go Go.RowKit
theorem NW:(Tryz.prog.info? 3).map (fun i=>(i.zero,i.size,i.bytes))=some (some (.int .i64 0),1,8):=by kernel_rfl
section
variable {B:Nat} {w:World} {x:RV} {SA:Nat→Prop} {p:AF} {key:Int} {A:Am} {v:VS}
theorem Qh (h:Ci B w x SA p key A v) (hl:v.stack.length≤1) (n:Int):
  Calls Tryz.prog 98 #[.pointer (some ⟨x.gr,0,none⟩),.int .i64 n] w fun e w'=>
   e= .returned (.tuple #[])∧Af (fun b=>B≤b) w w'∧∃u,Ci B w' {x with vst:=u} SA p key A {v with stack:=n::v.stack}:=by
 obtain⟨gr,gg,gp,gs,ga,vd,bmv,bcv,lp,vst,vlo,vou,vva⟩:=x
 obtain⟨av,cv,rfl⟩:∃a c,vst= .slice a v.stack.length c:=h.stack.shape
 have c3:=h.row.cell 3
 have f:=fun j=>h.row.frozen j
 have r1:=h.row.lt
 have hB:=h.base
 simp only at c3 f r1 ⊢
 have Cu:¬gr=w.heap.size:=by omega
 have ha:=h.grown ((Af.refl _ w).alloc (Ab _) (.cells #[.int .i64 n] 3)) hB
 obtain⟨i0,Lt,KX,Ls,Lr⟩:=Cj NW
 have q1:B≤(w.alloc (.cells #[.int .i64 n] 3)).heap.size:=Ai hB (by simp)
 have q2:=FN w [.int .i64 n] 3
 have q3:∀u∈ [Value.int .i64 n],u.oneCell'=true:=by intro u hu;simp at hu;subst hu;rfl
 have q4:v.stack.length+1≤maxLen:=by unfold maxLen;omega
 have q5:(v.stack.length+1)*8≤140737488355328:=by omega
 have q6:¬((Value.slice av v.stack.length cv).ownBlock=some gr∨(w.alloc (.cells #[.int .i64 n] 3)).heap.size≤gr):=by
  rintro(h0|h0)
  ·exact h.stack.ne_row h.row (by decide) h0
  ·simp at h0;omega
 have H:=Aa h
 have HA:=Aa ha
 have Q1:=Aa q1
 have Q2:=Aa q2
 have Q3:=Aa q3
 have Q6:=Aa q6
 clear h ha q1 q2 q3 q6
 simp at c3
 go_enter Tryz.func98,Tryz.ntmps98
 go_wp2_with (at_builtin;go_must (refine Fq IN Lt KX Ls Lr rfl (by decide) HA.out.stack Q1.out rfl _ _ rfl rfl ⟨w.heap.size,0,none⟩ 1 1 [.int .i64 n] rfl rfl Q2.out Q3.out q4 q5 (E0 _) ?_;intro g2 Er w2 Cp A4 EE;have e1:=(HA.out.row.kept A4 Q6.out).cell 3;have e5:∀j,w2.frozen? ⟨gr,j,none⟩=false:=fun j=>(HA.out.row.kept A4 Q6.out).frozen j;have U3:=Aa Cp;have Rp:=Aa A4;have HL:=Aa EE;clear Cp A4 EE;simp at e1))
 go_end0
 have CP:=HA.out.setStack (st:=n::v.stack) Rp.out (fun b hb=>hb) (by simpa[L6]using U3.out) (fun b hb=>by
  injection hb with hb
  simp only at hb
  subst hb
  exact HL.out.imp id (fun e=>by rw[e];exact Ab _))
 refine⟨rfl,?_,_,CP⟩
 exact(((Af.refl _ w).alloc hB _).trans (Rp.out.mono (fun b hb=>hb.elim (fun e=>H.out.stack.2 b e) (fun e=>Ai hB (Ai (by simp) e))))).setCell (p:=⟨gr,3,none⟩) H.out.gr0 _
theorem eA (h:Ci B w x SA p key A v) {n:Int} {st:List Int} (hs:v.stack=n::st) (hl:v.stack.length≤2):
  Calls Tryz.prog 101 #[.pointer (some ⟨x.gr,0,none⟩)] w fun e w'=>
   e= .returned (.int .i64 n)∧Af (fun b=>B≤b) w w'∧∃u,Ci B w' {x with vst:=u} SA p key A {v with stack:=st}:=by
 obtain⟨gr,gg,gp,gs,ga,vd,bmv,bcv,lp,vst,vlo,vou,vva⟩:=x
 have hlen:v.stack.length=st.length+1:=by rw[hs];rfl
 obtain⟨g1,cap,rfl,_,qG,RI,hg1⟩:∃g cap,vst= .slice (some ⟨g,0,none⟩) v.stack.length cap∧B≤g∧v.stack.length≤cap∧cap≤maxLen∧g<w.heap.size:=h.stack.form (by omega)
 have hc:=h.stack.1.cellAt st.length (by simp[hlen])
 have ec:(v.stack.reverse.map L6)[st.length]?=some (.int .i64 n):=by
  rw[hs]
  simp[L6]
 rw[ec]at hc
 have aB:Sl (fun b=>B≤b) w 3 1 (.slice (some ⟨g1,0,none⟩) st.length cap) st.length (st.reverse.map L6):=by
  have h1:Sl (fun b=>B≤b) w 3 1 (.slice (some ⟨g1,0,none⟩) v.stack.length cap) v.stack.length (v.stack.reverse.map L6):=h.stack
  have h2:=h1.take st.length (by omega)
  rw[Jm]at h2
  have e:(v.stack.reverse.map L6).take st.length=st.reverse.map L6:=by
   rw[hs,dD,CJ,List.take_left' (by simp)]
  rw[e]at h2
  exact h2
 have c3:=h.row.cell 3
 have f:∀j,w.frozen? ⟨gr,j,none⟩=false:=fun j=>h.row.frozen j
 have r1:gr<w.heap.size:=h.row.lt
 rw[hlen]at c3 hl qG
 have hc':w.cell? ⟨g1,st.length,none⟩=some (.int .i64 n):=by simpa using hc
 unfold maxLen at RI
 have H:=Aa h
 have HS:=Aa aB
 clear h aB hs hc ec hlen
 simp at c3
 go_enter Tryz.func101,Tryz.ntmps101
 go_wp2
 go_quiet (fail)
 go_wp2
 go_region
 go_wp2
 go_ret
 have CP:=(H.out.grown ((Af.refl _ w).drewN _ |>.drew) H.out.base).setStack (w':=(w.drewN nq).drew) (T:=fun _=>False) (st:=st) (Af.refl _ _) (fun b hb=>hb.elim) (HS.out.of_heap rfl) (fun b hb=>.inl hb)
 refine⟨rfl,?_,_,CP⟩
 exact(((Af.refl _ w).drewN _).drew).setCell (p:=⟨gr,3,none⟩) H.out.gr0 _
end
theorem UP {l:List Bf} {q:Int} (h:Ix l.length q):l[q.toNat]?=some (Au l q):=by
 obtain⟨h1,h2⟩:=h
 have Cy:q.toNat<l.length:=by omega
 unfold Au
 rw[Ah Cy];rfl
section
variable {B:Nat} {w:World} {x:RV} {SA:Nat→Prop} {p:AF} {key:Int} {A:Am} {v:VS}
theorem oS.decl {gg gp:Nat} {vd bmv bcv:Value} {lp:Nat} (h:oS B w gg gp vd bmv bcv lp p) {q:Int} (hq:Ix p.decls.length q):
  ∃g cap,vd= .slice (some ⟨g,0,none⟩) p.decls.length cap∧p.decls.length≤cap∧cap≤maxLen∧w.cell? ⟨g,q.toNat*3,none⟩=some (.int .i64 (Au p.decls q).kind)∧w.cell? ⟨g,q.toNat*3+2,none⟩=some (.int .i64 (Au p.decls q).max):=by
 obtain⟨g,cap,rfl,_,h1,h2,_⟩:=h.decls.form (by unfold Ix at hq;omega)
 have c:=fun j hj=>h.decls.at_ (f:=D0) (fun _=>rfl) (UP hq) (j:=j) hj
 exact⟨g,cap,rfl,h1,h2,c 0 (by omega),c 2 (by omega)⟩
theorem N7 (h:Ci B w x SA p key A v) (ok:A.Ok) (hp:p.decls.length≤8) (hA:A.qs.length=p.decls.length) {q:Int} (hq:Ix p.decls.length q):
  Calls Tryz.prog 102 #[.pointer (some ⟨x.gr,0,none⟩),.int .i64 q] w fun e w'=>e= .returned (.bool (Lg p.decls A q))∧∃n,w'=w.drewN n:=by
 obtain⟨gr,gg,gp,gs,ga,vd,bmv,bcv,lp,vst,vlo,vou,vva⟩:=x
 have c0:=h.row.cell 0
 have c1:=h.row.cell 1
 have s0:=h.srow.cell 0
 have g0:=h.ro.prog.cell 0
 have p0:=h.ro.pol.cell 0
 obtain⟨gd,cd,e1,Rn,RI,_,d2⟩:=h.ro.decl hq
 simp only at e1
 subst e1
 obtain⟨vl,vf,vq,bm,JK⟩:=h.ar
 have KY:q.toNat<A.qs.length:=by unfold Ix at hq;omega
 have hlen:=fun n=>(Qp (JK.drewN n) ok q.toNat KY (by omega)).mono fun e w' h=>(⟨h.1,h.2.symm⟩:e= .returned (.int .i64 (A.len q.toNat))∧w'=w.drewN n)
 have qo:((q.toNat:Nat):Int)=q:=by unfold Ix at hq;omega
 obtain⟨m,rfl⟩:∃m:Nat,q=(m:Int):=⟨q.toNat,qo.symm⟩
 rw[A3]at*
 have hm:m<p.decls.length:=by unfold Ix at hq;omega
 unfold Lg Mb
 rw[A3]
 generalize A.len m=L at*
 generalize (Au p.decls (m:Int)).max=M at*
 generalize p.decls.length=D at*
 have HL:=Aa hlen
 unfold maxLen at RI
 clear h JK hlen qo hq ok hA KY
 simp at c0 c1 s0 g0 p0
 have d2':w.cell? ⟨gd,m*3+2,none⟩=some (.int .i64 M):=d2
 go_enter Tryz.func102,Tryz.ntmps102
 go_wp2
 go_quiet ((go_at_call 99;exact Ep (HL.out _)))
 go_wp2
 go_ret
 exact⟨rfl,_,rfl⟩
theorem Gd (h:Ci B w x SA p key A v) (hp:p.decls.length≤8) {q:Int} (hq:q= -1∨Ix p.decls.length q):
  Calls Tryz.prog 104 #[.pointer (some ⟨x.gr,0,none⟩),.int .i64 q] w fun e w'=>e= .returned (.bool (Bl p.decls q))∧w'=w:=by
 obtain⟨gr,gg,gp,gs,ga,vd,bmv,bcv,lp,vst,vlo,vou,vva⟩:=x
 rcases hq with rfl|hq
 ·have e:Bl p.decls (-1)=false:=rfl
  rw[e]
  clear h
  go_enter Tryz.func104,Tryz.ntmps104
  go_wp2
  go_ret
  exact⟨rfl,rfl⟩
 ·have c0:=h.row.cell 0
  have g0:=h.ro.prog.cell 0
  have p0:=h.ro.pol.cell 0
  obtain⟨gd,cd,e1,Rn,RI,d0,_⟩:=h.ro.decl hq
  simp only at e1
  subst e1
  have qo:((q.toNat:Nat):Int)=q:=by unfold Ix at hq;omega
  obtain⟨m,rfl⟩:∃m:Nat,q=(m:Int):=⟨q.toNat,qo.symm⟩
  rw[A3]at*
  have hm:m<p.decls.length:=by unfold Ix at hq;omega
  have e:Bl p.decls (m:Int)=((Au p.decls (m:Int)).kind==0):=by unfold Bl;simp
  rw[e]
  generalize (Au p.decls (m:Int)).kind=K at*
  generalize p.decls.length=D at*
  unfold maxLen at RI
  have hK:(K==0)=decide ((K:Int)=0):=by
   rw[Ka];simp
  rw[hK]
  clear h qo hq e hK
  simp at c0 g0 p0
  go_enter Tryz.func104,Tryz.ntmps104
  go_wp2
  go_ret
  exact⟨rfl,rfl⟩
end
end Go.Proofs.YtemppijblfflgaaGreatDoor.Ev
namespace Go.Proofs.YtemppijblfflgaaGreatDoor.Ev
structure PL (p:AF) (A:Am) (key:Int):Prop where
 ok:A.Ok
 un:∀n,A.idx key=some n→∃q,A.CanUnlink n q
 ok':(A.out key).Ok
 len:(A.out key).qs.length=A.qs.length
 frq:0≤A.outFreq key∧A.outFreq key≤99
 cin:∀q,Ix p.decls.length q→(Au p.decls q).kind≠2→Lg p.decls (A.out key) q=false→(A.out key).CanIn key (A.outFreq key) q.toNat
 wh:A.where_ key= -1∨Ix p.decls.length (A.where_ key)
 q8:A.qs.length≤8
 ql:A.qs.length=p.decls.length
theorem Qo {A:Am} {ns:List (List Nat)} {p:AF} {s:St} (h:CM A ns s.q) (hs:Hc p s) (hp:EO p) (key:Int):PL p A key:=by
 obtain⟨o1,o2,o3,o4⟩:=Ub h key
 have KY:A.qs.length=p.decls.length:=by rw[←h.qlen,hs.q]
 have Xo:=hp.freq
 cases eQ:s.find key with
 |none=>
  rw[eQ]at o4
  obtain⟨e1,e2,e3⟩:=o4
  refine⟨h.ok,o1,by rw[e1];exact h.ok,o3,by rw[e2];omega,fun q hq hk hf=>?_,.inl e3,h.q8,KY⟩
  rw[e1]at o2 hf ⊢
  rw[e2]
  obtain⟨_,c⟩:=Og (from_:= -1) h hs hp false [] o2 hq hk ⟨Int.le_refl 0,Xo.1⟩
  rcases c with⟨_,c2⟩|⟨_,_,_,_,_,c5,_⟩
  ·rw[hf]at c2;cases c2
  ·exact c5
 |some ki=>
  obtain⟨k,i⟩:=ki
  rw[eQ]at o4
  obtain⟨⟨xx,e0⟩,e2,e3,e4,l,e5,e6⟩:=o4
  have hm:Ey (s.queue (k:Int)) i∈s.queue (k:Int):=My (by rw[Mo,e5];exact e6)
  have Zx:=hs.queue (k:Int) _ hm
  rw[←e2]at Zx
  have aD:k<s.q.length:=(Ap.1 e5).1
  refine⟨h.ok,o1,e0.ok,o3,⟨Zx.1,by omega⟩,fun q hq hk hf=>?_,.inr (by rw[e4];unfold Ix;rw[hs.q]at aD;omega),h.q8,KY⟩
  obtain⟨_,c⟩:=Og (s:=s.out k i) (from_:=k) e0 (hs.out k i) hp false [] o2 hq hk Zx
  rcases c with⟨_,c2⟩|⟨_,_,_,_,_,c5,_⟩
  ·rw[hf]at c2;cases c2
  ·exact c5
end Go.Proofs.YtemppijblfflgaaGreatDoor.Ev
namespace Go.Proofs.YtemppijblfflgaaGreatDoor.Ev
open Go Go.RowKit
section
variable {P:Program} {ops:Array Oper} {md:Region.Mode} {C:World→Prop}
def TA (P:Program) (md:Region.Mode) (ops:Array Oper) (C:World→Prop) (n:Nat) (L:Array Bool→Act→Prop):Nat→Array Bool→Act→Prop
 |0,listed,a=>L listed a
 |f+1,listed,a=>
  Region.ready md ops listed≠ []∧∀i∈Region.ready md ops listed,i<n∧qOp P ops C i (TA P md ops C n L f (listed.setIfInBounds i true)) a
theorem NF {n g:Nat} {L:Array Bool→Act→Prop} {Q':Exit→Act→World→Prop} (hL:∀listed a w,C w→L listed a→wpAny P md ops Q' g listed a w):
  ∀(f:Nat) (listed:Array Bool) (a:Act) (w:World),C w→TA P md ops C n L f listed a→wpAny P md ops Q' (f+g) listed a w
 |0,listed,a,w,hw,h=>by rw[FA];exact hL _ _ _ hw h
 |f+1,listed,a,w,hw,h=>by
  rw[show f+1+g=(f+g)+1 by omega]
  exact⟨fun h0=>absurd h0 h.1,fun i hi=>wpOp_of_qOp hw (fun a' w' bO h'=>NF hL f _ a' w' bO h') (h.2 i hi).2⟩
theorem WO {n i:Nat} {oi:Oper} {v:Value} {L:Array Bool→Act→Prop} (hi:ops[i]?=some oi) (bQ:∀(j:Nat) (o:Oper) cs b,ops[j]?=some o→o.op≠.select cs b)
  (hs:Region.sinkB md ops n=true) (hc:Region.chainB md ops n=true) (hn:n<ops.size) (OG:i<n)
  (Ph:∀listed a,L listed a→∀j∈Region.ready md ops listed,n≤j):
  ∀(f:Nat) (listed:Array Bool) (a:Act),HeadInv md ops n listed→
   (∀j oj,ops[j]?=some oj→j≠i→listed.getD j true=false→(∀e∈oj.after,Region.binds md e=true→e.on≠i)→oi.apart ops oj=true)→
   i∈Region.ready md ops listed→YieldsIn P ops C oi v a→
   TA P md ops C n L f (listed.setIfInBounds i true) (a.put oi.dst v)→TA P md ops C n L (f+1) listed a:=by
 intro f
 induction f with
 |zero=>
  intro listed a inv _ hr hy H
  have vj:=(mem_ready.1 hr).1
  refine⟨fun h=>(by rw[h]at hr;cases hr),fun j hj=>?_⟩
  have hjn:j<n:=by
   rcases BP j n with h|h
   ·exact h
   ·exact absurd hj (tail_waits hs hc hn inv _ i rfl OG vj j h)
  refine⟨hjn,?_⟩
  by_cases sQ:j=i
  ·subst sQ;exact hy.qOp hi H
  ·have:=Ph _ _ H j (ready_mono hj sQ)
   omega
 |succ f ih=>
  intro listed a inv sU hr hy H
  have vj:=(mem_ready.1 hr).1
  refine⟨fun h=>(by rw[h]at hr;cases hr),fun j hj=>?_⟩
  have hjn:j<n:=by
   rcases BP j n with h|h
   ·exact h
   ·exact absurd hj (tail_waits hs hc hn inv _ i rfl OG vj j h)
  refine⟨hjn,?_⟩
  by_cases sQ:j=i
  ·subst sQ;exact hy.qOp hi H
  ·have h1:=(H.2 j (ready_mono hj sQ)).2
   obtain⟨zI,oj,hoj,N3⟩:=mem_ready.1 hj
   have Adm:∀e∈oj.after,Region.binds md e=true→e.on≠i:=fun e he hb heq=>by
    have h1:=N3 e he hb
    rw[heq,getD_both vj]at h1
    cases h1
   have h2:=qOp_put hoj (sU j oj hoj sQ zI Adm) (fun cs b=>bQ i oi cs b hi) (fun cs b=>bQ j oj cs b hoj) hy h1
   have vS:∀k ok,ops[k]?=some ok→k≠i→(listed.setIfInBounds j true).getD k true=false→
     (∀e∈ok.after,Region.binds md e=true→e.on≠i)→oi.apart ops ok=true:=fun k ok hk hki vj Vv=>by
    refine sU k ok hk hki ?_ Vv
    by_cases Rl:j=k
    ·subst Rl;exact zI
    ·rw[getD_set_ne true Rl]at vj;exact vj
   refine qOp_mono (fun a' h3=>ih (listed.setIfInBounds j true) a' (inv.set hj hjn) vS (ready_mono hr (Ne.symm sQ)) h3.1 ?_) h2
   rw[Array.setIfInBounds_comm _ _ sQ]
   exact h3.2
theorem Tz {n g:Nat} {Lq:Act→Prop} (bQ:Region.noSelect ops=true) (hs:Region.sinkB md ops n=true) (hc:Region.chainB md ops n=true) (hn:n<ops.size):
  ∀(l:List Oper) (k:Nat) (listed:Array Bool) (a:Act),(∀j,j<l.length→l[j]?=ops[k+j]?)→k+l.length=n→HeadInv md ops n listed→
  Region.lexHead md ops g l.length k listed=true→wpQuiet P ops C Lq l a→
  TA P md ops C n (fun eD a'=>Region.seqB md ops g n eD=true∧Lq a') l.length listed a
 | [],k,listed,a,_,hk,_,hB,h=>by
  have:k=n:=by simpa using hk
  subst this
  exact⟨by simpa[Region.lexHead]using hB,h⟩
 |o::l,k,listed,a,hl,hk,inv,hB,h=>by
  have h0:ops[k]?=some o:=by simpa using(hl 0 (by simp)).symm
  simp only[Ac,Region.lexHead,C3]at hB
  obtain⟨⟨hr,hf⟩,hB'⟩:=hB
  have bU:k<n:=by simp only[Ac]at hk;omega
  have Mj:k∈Region.ready md ops listed:=by simpa using hr
  have CP:qOp P ops C k (wpQuiet P ops C Lq l) a:=by unfold qOp;simp only[h0];exact h
  obtain⟨v,hy,hK⟩:=yieldsIn_of_qOp h0 CP
  exact WO h0 (Region.noSelect_spec bQ) hs hc hn bU (fun eD a' hL=>seqB_ready hL.1) l.length listed a inv (Region.free_spec h0 hf) Mj hy
   (Tz bQ hs hc hn l (k+1) _ _ (fun j hj=>by have:=hl (j+1) (by simp;omega);simpa[E3,FC 1 j]using this) (by simp only[Ac]at hk;omega) (inv.set Mj bU) hB' hK)
theorem GQ {id:Nat} {Q:Exit→Act→World→Prop} {a:Act} {w:World} {l:List Oper} (n:Nat) (hm:P.follows .mixedOrders=true) (hB:Region.lexTailB .any l.toArray n=true)
  (h:wpQuiet P l.toArray (fun w'=>∃k,w'=w.drewN k) (fun a'=>∀k,wpList P l.toArray Q (l.drop n) a' (w.drewN k)) (l.take n) a):(Code.region id l.toArray true).wp P Q a w:=by
 simp only[Region.lexTailB,C3,Dc]at hB
 obtain⟨⟨⟨⟨bQ,hn⟩,hs⟩,hc⟩,Adv⟩:=hB
 have Zs:n<l.length:=by simpa using hn
 have Kv:(l.take n).length=n:=by simp;omega
 have LW:(l.drop n).length=l.toArray.size-n:=by simp
 have Aco:HeadInv .any l.toArray n (Array.replicate l.toArray.size false):=
  ⟨by simp,fun j oj _ hl=>(by rw[getD_replicate_false]at hl;cases hl),fun t _ ht=>getD_in (by simpa using ht) (getD_replicate_false _ _)⟩
 have H:=Tz (md:=.any) (g:=l.toArray.size-n) bQ hs hc hn (l.take n) 0 _ a (fun j hj=>by
  have Mx:j<n:=by rw[Kv]at hj;exact hj
  simp[Mx]) (by simpa using Kv) Aco (by rw[Kv];exact Adv) h
 refine wp_region_any hm ?_
 have:=NF (Q':=Q) (g:=l.toArray.size-n) (fun listed a' w' bO hL=>by
  obtain⟨k,rfl⟩:=bO
  have:=wpAny_of_seq (md:=.any) (Q':=Q) (l.drop n) n listed a' (w.drewN k) (fun j=>by simp[ai]) (by rw[LW];exact hL.1) (hL.2 k)
  rwa [LW]at this) _ _ _ {w with drawn:=w.drawn+1} ⟨1,rfl⟩ H
 rw[Kv,show n+(l.toArray.size-n)=l.toArray.size by omega]at this
 exact this
end
structure Se (B:Nat) (ea:Nat→Addr) (w:World):Prop where
 full:w.cell? ⟨4,0,none⟩=some (Dn ea 11)
 emp:w.cell? ⟨5,0,none⟩=some (Dn ea 12)
 lf:4<B
 le:5<B
theorem Se.kept {B:Nat} {ea:Nat→Addr} {w w':World} (h:Se B ea w) {S:Nat→Prop} (hk:Af S w w') (hS:∀b,S b→B≤b):Se B ea w':=
 ⟨(hk.cell (p:=⟨4,0,none⟩) (fun hs=>by have:=hS _ hs;have:=h.lf;simp at*;omega)).trans h.full,(hk.cell (p:=⟨5,0,none⟩) (fun hs=>by have:=hS _ hs;have:=h.le;simp at*;omega)).trans h.emp,h.lf,h.le⟩
def Pp (B:Nat) (ea:Nat→Addr) (w:World) (x:RV) (p:AF) (key:Int) (v:VS) (res:Except Nat AR) (e:Ending) (w':World):Prop:=
 Af (fun b=>B≤b) w w'∧match res with
  | .error k=>e= .returned (Dn ea k)
  | .ok r'=>e= .returned .nilIface∧∃PJ u,Ci B w' {x with vou:=u} PJ p key r'.A {v with r:=⟨⟨v.r.s.q,r'.vars⟩,r'.out⟩}
section
variable {B:Nat} {ea:Nat→Addr} {w:World} {x:RV} {SA:Nat→Prop} {p:AF} {key:Int} {A:Am} {v:VS}
theorem Ci.arena (h:Ci B w x SA p key A v):∃vl vf vq bm,BL (fun b=>SA b∨w.heap.size≤b) w x.ga A vl vf vq bm:=by
 obtain⟨vl,vf,vq,bm,ha⟩:=h.ar
 exact⟨vl,vf,vq,bm,ha.mono (fun b hb=>.inl hb)⟩
theorem Ci.up (w:World) (SA:Nat→Prop):Up (fun b=>SA b∨w.heap.size≤b) w:=fun _ hb=>.inr hb
theorem Ci.keptB (h:Ci B w x SA p key A v) {w':World} (hk:Af (fun b=>SA b∨w.heap.size≤b) w w'):Af (fun b=>B≤b) w w':=
 hk.mono (fun b hb=>hb.elim (fun e=>(h.sa b e).1) (fun e=>Ai h.base e))
theorem ik (h:Ci B w x SA p key A v) (hp:EO p) (ok:A.Ok) (q kt:Int):
  Calls Tryz.prog 106 #[.pointer (some ⟨x.gr,0,none⟩),.agg #[.int .u8 8,.int .i64 q,.int .i64 0],.int .u64 kt] w (Pp B ea w x p key v (GJ p kt (.cool q) ⟨A,v.r.s.vars,v.r.gone⟩)):=by
 have ha:=h.grown ((Af.refl _ w).alloc (Ab _) (.cells #[.int .u8 8,.int .i64 q,.int .i64 0] 147)) h.base
 obtain⟨vl,vf,vq,bm,JK⟩:=ha.arena
 have Xo:=hp.freq
 have ht:=Yp JK ok kt (-1) p.freq (by omega) (by omega)
 have c0:=h.row.cell 0
 have c1:=h.row.cell 1
 have s0:=h.srow.cell 0
 have g0:=h.ro.prog.cell 0
 have p1:=h.ro.pol.cell 1
 have r1:=h.row.lt
 have r2:=h.srow.lt
 have r3:=h.ro.prog.lt
 have r4:=h.ro.pol.lt
 have q1:¬x.gr=w.heap.size:=by omega
 have q2:¬x.gs=w.heap.size:=by omega
 have q3:¬x.gg=w.heap.size:=by omega
 have q4:¬x.gp=w.heap.size:=by omega
 have HA:=Aa ha
 have HT:=Aa ht
 have HB:=Aa h.base
 clear h ha JK ht ok hp Xo
 simp at c0 c1 s0 g0 p1
 go_enter Tryz.func106,Tryz.ntmps106
 go_wp2_with fail
 refine HT.out.mono ?_
 rintro e w' ⟨rfl,hk,V1,LY⟩
 have hr:=HA.out.setArena hk ⟨V1,vf,vq,bm,LY⟩
 have HR:=Aa hr
 have HK:=Aa hk
 clear hk LY hr
 go_wp2
 go_ret
 exact⟨((Af.refl _ w).alloc HB.out _).trans (HA.out.keptB HK.out),rfl,_,x.vou,HR.out⟩
theorem Qr:(Tryz.prog.info? 27).map (fun i=>(i.zero,i.size,i.bytes))=some (some (.int .u64 0),1,8):=by kernel_rfl
structure oF (B:Nat) (w:World) (x:RV) (SA:Nat→Prop) (p:AF) (key:Int) (A:Am) (v:VS) (n:Int):Prop where
 run:Ci B (w.alloc (.cells #[.int .u64 n] 27)) x SA p key A v
 base:B≤(w.alloc (.cells #[.int .u64 n] 27)).heap.size
 cells:∀j u,[Value.int .u64 n][j]?=some u→(w.alloc (.cells #[.int .u64 n] 27)).cell? ((⟨w.heap.size,0,none⟩:Addr).add j)=some u
 one:∀u∈ [Value.int .u64 n],u.oneCell'=true
 gr:¬(x.vou.ownBlock=some x.gr∨(w.alloc (.cells #[.int .u64 n] 27)).heap.size≤x.gr)
 gs:¬(x.vou.ownBlock=some x.gs∨(w.alloc (.cells #[.int .u64 n] 27)).heap.size≤x.gs)
 gg:¬(x.vou.ownBlock=some x.gg∨(w.alloc (.cells #[.int .u64 n] 27)).heap.size≤x.gg)
 gp:¬(x.vou.ownBlock=some x.gp∨(w.alloc (.cells #[.int .u64 n] 27)).heap.size≤x.gp)
 old:w.heap.size+1=(w.alloc (.cells #[.int .u64 n] 27)).heap.size
theorem Ci.appOk (h:Ci B w x SA p key A v) (n:Int):oF B w x SA p key A v n:=by
 have r1:=h.row.lt
 have r2:=h.srow.lt
 have r3:=h.ro.prog.lt
 have r4:=h.ro.pol.lt
 refine⟨h.grown ((Af.refl _ w).alloc (Ab _) _) h.base,Ai h.base (by simp),FN w [.int .u64 n] 27,by intro u hu;simp at hu;subst hu;rfl,?_,?_,?_,?_,by simp⟩
 ·rintro(h0|h0)
  ·exact h.out.ne_row h.row (by decide) h0
  ·simp at h0;omega
 ·rintro(h0|h0)
  ·exact h.out.ne_row h.srow (by decide) h0
  ·simp at h0;omega
 ·rintro(h0|h0)
  ·exact h.out.ne_row h.ro.prog (by decide) h0
  ·simp at h0;omega
 ·rintro(h0|h0)
  ·exact h.out.ne_row h.ro.pol (by decide) h0
  ·simp at h0;omega
theorem oF.done {n:Int} (h:oF B w x SA p key A v n) {w2:World} {g2 Er:Nat}
  (hs:Sl (fun b=>B≤b) w2 27 1 (.slice (some ⟨g2,0,none⟩) (v.r.gone.length+1) Er) (v.r.gone.length+1) (v.r.gone.map UJ++[.int .u64 n]))
  (hk:Af (fun b=>x.vou.ownBlock=some b∨(w.alloc (.cells #[.int .u64 n] 27)).heap.size≤b) (w.alloc (.cells #[.int .u64 n] 27)) w2)
  (hl:x.vou.ownBlock=some g2∨g2=(w.alloc (.cells #[.int .u64 n] 27)).heap.size) (hB:B≤w.heap.size):
  Af (fun b=>B≤b) w (w2.setCell ⟨x.gr,6,none⟩ (.slice (some ⟨g2,0,none⟩) (v.r.gone.length+1) Er))∧
  Ci B (w2.setCell ⟨x.gr,6,none⟩ (.slice (some ⟨g2,0,none⟩) (v.r.gone.length+1) Er)) {x with vou:=.slice (some ⟨g2,0,none⟩) (v.r.gone.length+1) Er} SA p key A {v with r:={v.r with gone:=v.r.gone++[n]}}:=by
 have CP:=h.run.setOut (l:=v.r.gone++[n]) hk (fun b hb=>hb) (by simpa[UJ]using hs) (fun b hb=>by
  injection hb with hb
  simp only at hb
  subst hb
  exact hl.imp id (fun e=>by rw[e];exact Ab _))
 have e:(v.r.gone++[n]).length=v.r.gone.length+1:=by simp
 refine⟨?_,CP⟩
 exact(((Af.refl _ w).alloc hB _).trans (hk.mono (fun b hb=>hb.elim (fun e=>h.run.out.2 b e) (fun e=>Ai h.base e)))).setCell (p:=⟨x.gr,6,none⟩) h.run.gr0 _
theorem bJ (h:Ci B w x SA p key A v) (hp:p.decls.length≤8) (hg:v.r.gone.length<Df) {q kt:Int} (hq:Ix p.decls.length q) (hm:PL p A kt):
  Calls Tryz.prog 106 #[.pointer (some ⟨x.gr,0,none⟩),.agg #[.int .u8 2,.int .i64 q,.int .i64 0],.int .u64 kt] w (Pp B ea w x p key v (GJ p kt (.evict q) ⟨A,v.r.s.vars,v.r.gone⟩)):=by
 have ha:=h.grown ((Af.refl _ w).alloc (Ab _) (.cells #[.int .u8 2,.int .i64 q,.int .i64 0] 147)) h.base
 obtain⟨vl,vf,vq,bm,JK⟩:=ha.arena
 have ho:=Qj JK (Ci.up _ SA) hm.ok (by have:=hm.q8;omega) kt hm.un
 have c1:=h.row.cell 1
 have s0:=h.srow.cell 0
 have r1:=h.row.lt
 have r2:=h.srow.lt
 have q1:¬x.gr=w.heap.size:=by omega
 have q2:¬x.gs=w.heap.size:=by omega
 have hR:AM (w.alloc (.cells #[.int .u8 2,.int .i64 q,.int .i64 0] 147)) w.heap.size 147 [.int .u8 2,.int .i64 q,.int .i64 0]:=AM.new w _ _
 have tq:¬(SA w.heap.size∨(w.alloc (.cells #[.int .u8 2,.int .i64 q,.int .i64 0] 147)).heap.size≤w.heap.size):=by
  rintro(h0|h0)
  ·have:=(h.sa _ h0).2;omega
  ·simp at h0;omega
 obtain⟨i0,Lt,KX,Ls,Lr⟩:=Cj Qr
 have HA:=Aa ha
 have HO:=Aa ho
 have HB:=Aa h.base
 have HM:=Aa hm
 have HR:=Aa hR
 have wQ:=Aa tq
 have HQ:=Aa hq
 have q4:v.r.gone.length+1≤maxLen:=by unfold Df at hg;unfold maxLen;omega
 have q5:(v.r.gone.length+1)*8≤140737488355328:=by unfold Df at hg;omega
 clear h ha JK ho hm hR tq hq hg
 simp at c1 s0
 go_enter Tryz.func106,Tryz.ntmps106
 go_wp2_with fail
 refine HO.out.mono ?_
 rintro e w1 ⟨rfl,hk,V1,aA,az,LY⟩
 have hr:=HA.out.setArena hk ⟨V1,aA,az,bm,LY⟩
 have oP:=HR.out.kept hk wQ.out
 have b0:=oP.cell 0
 have b1:=oP.cell 1
 have MW:=Gd hr hp (.inr HQ.out)
 have Bi:=((Af.refl (fun b=>B≤b) w).alloc HB.out (.cells #[.int .u8 2,.int .i64 q,.int .i64 0] 147)).trans (HA.out.keptB hk)
 have Yd:=Aa hr
 have Lv:=Aa Bi
 have jt:=Aa MW
 clear hk LY hr oP MW Bi
 simp at b0 b1
 cases hd:Bl p.decls q with
 |false=>
  have Us:=jt.out
  rw[hd]at Us
  have oo:=Aa Us
  have HD:=Aa hd
  clear Us hd
  go_wp2_with (go_at_call 104;refine oo.out.mono ?_;rintro e w' ⟨rfl,rfl⟩)
  go_ret
  have e:GJ p kt (.evict q) ⟨A,v.r.s.vars,v.r.gone⟩= .ok ⟨A.out kt,v.r.s.vars,v.r.gone⟩:=by simp[GJ,HD.out]
  rw[e]
  exact⟨Lv.out,rfl,_,x.vou,Yd.out⟩
 |true=>
  have Us:=jt.out
  rw[hd]at Us
  have oo:=Aa Us
  have HD:=Aa hd
  have XY:=Yd.out.appOk kt
  have c6:=Yd.out.row.cell 6
  have f:∀j,w1.frozen? ⟨x.gr,j,none⟩=false:=fun j=>Yd.out.row.frozen j
  have r1':=Yd.out.row.lt
  have q1':¬x.gr=w1.heap.size:=by omega
  obtain⟨gr,gg,gp,gs,ga,vd,bmv,bcv,lp,vst,vlo,vou,vva⟩:=x
  obtain⟨av,cv,rfl⟩:∃a c,vou= .slice a v.r.gone.length c:=XY.run.out.shape
  have Lm:=Aa XY
  have fp:=Aa Yd.out.base
  clear Us hd XY
  simp at c6
  simp only at*
  go_wp2_with (first|(go_at_call 104;refine oo.out.mono ?_;rintro e w' ⟨rfl,rfl⟩)|(at_builtin;go_must (refine Fq Lx Lt KX Ls Lr rfl (by decide) Lm.out.run.out Lm.out.base rfl _ _ rfl rfl ⟨w'.heap.size,0,none⟩ 1 1 [.int .u64 kt] rfl rfl Lm.out.cells Lm.out.one q4 q5 (E0 _) ?_;intro g2 Er w2 Cp A4 EE;have e1:=(Lm.out.run.row.kept A4 Lm.out.gr).cell 6;have e5:∀j,w2.frozen? ⟨gr,j,none⟩=false:=fun j=>(Lm.out.run.row.kept A4 Lm.out.gr).frozen j;have U3:=Aa Cp;have Rp:=Aa A4;have HL:=Aa EE;clear Cp A4 EE;simp at e1)))
  go_ret
  have A6:=Lm.out.done U3.out Rp.out HL.out fp.out
  have e:GJ p kt (.evict q) ⟨A,v.r.s.vars,v.r.gone⟩= .ok ⟨A.out kt,v.r.s.vars,v.r.gone++[kt]⟩:=by simp[GJ,HD.out]
  rw[e]
  exact⟨Lv.out.trans A6.1,rfl,_,_,A6.2⟩
end
section
variable {B:Nat} {ea:Nat→Addr} {w:World} {x:RV} {SA:Nat→Prop} {p:AF} {key:Int} {A:Am} {v:VS}
def WW (tl:Bool):Int:=if tl then 4 else 3
theorem bI (h:Ci B w x SA p key A v) (he:Se B ea w) (hp:p.decls.length≤8) (hg:v.r.gone.length<Df) {q t kt:Int} (tl:Bool) (hq:Ix p.decls.length q) (ht:Ix p.decls.length t) (GM:(Au p.decls t).kind≠2) (hm:PL p A kt):
  Calls Tryz.prog 106 #[.pointer (some ⟨x.gr,0,none⟩),.agg #[.int .u8 (WW tl),.int .i64 q,.int .i64 t],.int .u64 kt] w (Pp B ea w x p key v (GJ p kt (.shift q t tl) ⟨A,v.r.s.vars,v.r.gone⟩)):=by
 obtain⟨so,vx⟩:∃so,so=WW tl:=⟨_,rfl⟩
 rw[←vx]
 have ha:=h.grown ((Af.refl _ w).alloc (Ab _) (.cells #[.int .u8 so,.int .i64 q,.int .i64 t] 147)) h.base
 have bZ:=he.kept ((Af.refl (fun b=>B≤b) w).alloc h.base (.cells #[.int .u8 so,.int .i64 q,.int .i64 t] 147)) (fun b hb=>hb)
 obtain⟨vl,vf,vq,bm,JK⟩:=ha.arena
 have ho:=Qj JK (Ci.up _ SA) hm.ok (by have:=hm.q8;omega) kt hm.un
 have c1:=h.row.cell 1
 have s0:=h.srow.cell 0
 have r1:=h.row.lt
 have r2:=h.srow.lt
 have q1:¬x.gr=w.heap.size:=by omega
 have q2:¬x.gs=w.heap.size:=by omega
 have hR:AM (w.alloc (.cells #[.int .u8 so,.int .i64 q,.int .i64 t] 147)) w.heap.size 147 [.int .u8 so,.int .i64 q,.int .i64 t]:=AM.new w _ _
 have tq:¬(SA w.heap.size∨(w.alloc (.cells #[.int .u8 so,.int .i64 q,.int .i64 t] 147)).heap.size≤w.heap.size):=by
  rintro(h0|h0)
  ·have:=(h.sa _ h0).2;omega
  ·simp at h0;omega
 obtain⟨i0,Lt,KX,Ls,Lr⟩:=Cj Qr
 have HA:=Aa ha
 have HE:=Aa bZ
 have HO:=Aa ho
 have HB:=Aa h.base
 have HM:=Aa hm
 have HR:=Aa hR
 have wQ:=Aa tq
 have HQ:=Aa hq
 have HT:=Aa ht
 have MG:=Aa GM
 have q4:v.r.gone.length+1≤maxLen:=by unfold Df at hg;unfold maxLen;omega
 have q5:(v.r.gone.length+1)*8≤140737488355328:=by unfold Df at hg;omega
 have vw:decide (so=8)=false∧decide (so=2)=false∧decide (so=4)=tl:=by subst vx;cases tl<;>exact⟨rfl,rfl,rfl⟩
 obtain⟨vw,Ac9,Ac8⟩:=vw
 have Amb:(so==8)=false:=by simpa using vw
 have Amd:(so==2)=false:=by simpa using Ac9
 have Amc:(so==4)=tl:=by rw[←Ac8];rfl
 clear h he bZ ha JK ho hm hR tq hq ht GM hg vx
 simp at c1 s0
 go_enter Tryz.func106,Tryz.ntmps106
 go_wp2_with fail
 refine HO.out.mono ?_
 rintro e w1 ⟨rfl,hk,V1,aA,az,LY⟩
 have hr:=HA.out.setArena hk ⟨V1,aA,az,bm,LY⟩
 have oP:=HR.out.kept hk wQ.out
 have bY:=HE.out.kept (HA.out.keptB hk) (fun b hb=>hb)
 have b0:=oP.cell 0
 have b1:=oP.cell 1
 have b2:=oP.cell 2
 have Bi:=((Af.refl (fun b=>B≤b) w).alloc HB.out (.cells #[.int .u8 so,.int .i64 q,.int .i64 t] 147)).trans (HA.out.keptB hk)
 have Xj:=oP.lt
 have Vc:¬((SA w.heap.size∨(w.alloc (.cells #[.int .u8 so,.int .i64 q,.int .i64 t] 147)).heap.size≤w.heap.size)∧w.heap.size<w1.heap.size):=fun h=>wQ.out h.1
 generalize hsa:(fun b=>(SA b∨(w.alloc (.cells #[.int .u8 so,.int .i64 q,.int .i64 t] 147)).heap.size≤b)∧b<w1.heap.size)=dz at hr
 have zk:¬dz w.heap.size:=by rw[←hsa];exact Vc
 have I5:=N7 hr HM.out.ok' hp (HM.out.len.trans HM.out.ql) HT.out
 have SM:=Aa I5
 have Yd:=Aa hr
 have Lv:=Aa Bi
 have dI:=Aa oP
 have HE2:=Aa bY
 have yh:=Aa zk
 clear hk LY hr oP Bi Vc zk hsa I5 bY
 simp at b0 b1 b2
 go_wp2_with fail
 refine SM.out.mono ?_
 rintro e w2 ⟨rfl,nf,rfl⟩
 cases XV:Lg p.decls (A.out kt) t with
 |true=>
  have dM:=Aa XV
  have ef:=HE2.out.full
  clear XV
  go_wp2
  go_ret
  have e:GJ p kt (.shift q t tl) ⟨A,v.r.s.vars,v.r.gone⟩= .error UK:=by simp[GJ,dM.out]
  rw[e]
  exact⟨Lv.out.drewN _,rfl⟩
 |false=>
  have dM:=Aa XV
  clear XV
  have Ij:=Yd.out.grown (w':=w1.drewN nf) ((Af.refl _ _).drewN _) Yd.out.base
  have sE:=Gd Ij hp (.inr HQ.out)
  have Pf:=Gd Ij hp (.inr HT.out)
  have mH:=HM.out.cin t HT.out MG.out dM.out
  have oA:=Aa mH
  have qj:((t.toNat:Nat):Int)=t:=by have:=HT.out.1;omega
  have tR:=Aa sE
  have U5:=Aa Pf
  have Tc:=Aa Ij
  clear sE Pf Ij mH
  cases xN:Bl p.decls q with
  |false=>
   have h1:=tR.out
   rw[xN]at h1
   have H1:=Aa h1
   have HD:=Aa xN
   obtain⟨uh,vf3,vq3,wv,VB⟩:=Tc.out.arena
   have OG:=Xd VB (Ci.up _ dz) HM.out.ok' (by have:=HM.out.q8;rw[HM.out.len];omega) kt (A.outFreq kt) t.toNat tl oA.out
   rw[qj]at OG
   have j5:=Aa OG
   clear h1 xN VB OG
   go_wp2_with (first|(go_at_call 104;refine H1.out.mono ?_;rintro e w' ⟨rfl,rfl⟩)|(go_at_call 105;refine j5.out.mono ?_;rintro e w' ⟨rfl,CU,jC,kj,jB,OS⟩;have Mw:=Tc.out.setArena CU ⟨jC,kj,jB,wv,OS⟩;have fi:=Aa Mw;have Rq:=Aa (Tc.out.keptB CU);clear CU OS Mw))
   go_ret
   have e:GJ p kt (.shift q t tl) ⟨A,v.r.s.vars,v.r.gone⟩= .ok ⟨(A.out kt).in_ kt (A.outFreq kt) t.toNat tl,v.r.s.vars,v.r.gone⟩:=by simp[GJ,dM.out,HD.out]
   rw[e]
   exact⟨(Lv.out.drewN _).trans Rq.out,rfl,_,x.vou,fi.out⟩
  |true=>
   have h1:=tR.out
   rw[xN]at h1
   have H1:=Aa h1
   have HD:=Aa xN
   clear h1 xN
   cases eR:Bl p.decls t with
   |true=>
    have h2:=U5.out
    rw[eR]at h2
    have H2:=Aa h2
    have HDT:=Aa eR
    obtain⟨uh,vf3,vq3,wv,VB⟩:=Tc.out.arena
    have OG:=Xd VB (Ci.up _ dz) HM.out.ok' (by have:=HM.out.q8;rw[HM.out.len];omega) kt (A.outFreq kt) t.toNat tl oA.out
    rw[qj]at OG
    have j5:=Aa OG
    clear h2 eR VB OG
    have kE:True:=trivial
    go_wp2_with (first|(go_at_call 104;have _t:=kE;refine H1.out.mono ?_;rintro e w' ⟨rfl,rfl⟩;clear kE _t)|(go_at_call 104;refine H2.out.mono ?_;rintro e w' ⟨rfl,rfl⟩)|(go_at_call 105;refine j5.out.mono ?_;rintro e w' ⟨rfl,CU,jC,kj,jB,OS⟩;have Mw:=Tc.out.setArena CU ⟨jC,kj,jB,wv,OS⟩;have fi:=Aa Mw;have Rq:=Aa (Tc.out.keptB CU);clear CU OS Mw))
    go_ret
    have e:GJ p kt (.shift q t tl) ⟨A,v.r.s.vars,v.r.gone⟩= .ok ⟨(A.out kt).in_ kt (A.outFreq kt) t.toNat tl,v.r.s.vars,v.r.gone⟩:=by simp[GJ,dM.out,HD.out,HDT.out]
    rw[e]
    exact⟨(Lv.out.drewN _).trans Rq.out,rfl,_,x.vou,fi.out⟩
   |false=>
    have h2:=U5.out
    rw[eR]at h2
    have H2:=Aa h2
    have HDT:=Aa eR
    have XY:=Tc.out.appOk kt
    have c6:=Tc.out.row.cell 6
    have f:∀j,(w1.drewN nf).frozen? ⟨x.gr,j,none⟩=false:=fun j=>Tc.out.row.frozen j
    have r1':x.gr<w1.heap.size:=Tc.out.row.lt
    have q1':¬x.gr=w1.heap.size:=by omega
    have wg:=dI.out.drewN nf |>.alloc (.cells #[.int .u64 kt] 27)
    have _n:¬(x.vou.ownBlock=some w.heap.size∨((w1.drewN nf).alloc (.cells #[.int .u64 kt] 27)).heap.size≤w.heap.size):=by
     rintro(h0|h0)
     ·exact XY.run.out.ne_row wg (by decide) h0
     ·simp at h0;omega
    obtain⟨gr,gg,gp,gs,ga,vd,bmv,bcv,lp,vst,vlo,vou,vva⟩:=x
    obtain⟨av,cv,rfl⟩:∃a c,vou= .slice a v.r.gone.length c:=XY.run.out.shape
    have Lm:=Aa XY
    have HBO:=Aa wg
    have HBN:=Aa _n
    have fp:=Aa Tc.out.base
    clear h2 eR XY wg _n
    simp at c6
    simp only at*
    have kE:True:=trivial
    go_wp2_with (first|(go_at_call 104;have _t:=kE;refine H1.out.mono ?_;rintro e w' ⟨rfl,rfl⟩;clear kE _t)|(go_at_call 104;refine H2.out.mono ?_;rintro e w' ⟨rfl,rfl⟩)|(at_builtin;go_must (refine Fq Lx Lt KX Ls Lr rfl (by decide) Lm.out.run.out Lm.out.base rfl _ _ rfl rfl ⟨(w1.drewN nf).heap.size,0,none⟩ 1 1 [.int .u64 kt] rfl rfl Lm.out.cells Lm.out.one q4 q5 (E0 _) ?_;intro g2 Er w2 Cp A4 EE;have e1:=(Lm.out.run.row.kept A4 Lm.out.gr).cell 6;have e5:∀j,w2.frozen? ⟨gr,j,none⟩=false:=fun j=>(Lm.out.run.row.kept A4 Lm.out.gr).frozen j;have e6:=(HBO.out.kept A4 HBN.out).cell 0;have e7:=(HBO.out.kept A4 HBN.out).cell 2;have e8:¬w.heap.size=gr:=(HBO.out.kept A4 HBN.out).ne_ (Lm.out.run.row.kept A4 Lm.out.gr) (by decide);have U3:=Aa Cp;have Rp:=Aa A4;have HL:=Aa EE;clear Cp A4 EE;simp at e1 e6 e7)))
    have A6:=Lm.out.done U3.out Rp.out HL.out fp.out
    obtain⟨uh,vf3,vq3,wv,VB⟩:=A6.2.arena
    have OG:=Xd VB (Ci.up _ dz) HM.out.ok' (by have:=HM.out.q8;rw[HM.out.len];omega) kt (A.outFreq kt) t.toNat tl oA.out
    rw[qj]at OG
    have j5:=Aa OG
    have Jo:=Aa A6
    clear VB OG A6
    go_wp2_with (go_at_call 105;refine j5.out.mono ?_;rintro e w' ⟨rfl,CU,jC,kj,jB,OS⟩;have Mw:=Jo.out.2.setArena CU ⟨jC,kj,jB,wv,OS⟩;have fi:=Aa Mw;have Rq:=Aa (Jo.out.2.keptB CU);clear CU OS Mw)
    go_ret
    have e:GJ p kt (.shift q t tl) ⟨A,v.r.s.vars,v.r.gone⟩= .ok ⟨(A.out kt).in_ kt (A.outFreq kt) t.toNat tl,v.r.s.vars,v.r.gone++[kt]⟩:=by simp[GJ,dM.out,HD.out,HDT.out]
    rw[e]
    exact⟨((Lv.out.drewN _).trans Jo.out.1).trans Rq.out,rfl,_,_,fi.out⟩
end
section
variable {B:Nat} {ea:Nat→Addr} {w:World} {x:RV} {SA:Nat→Prop} {p:AF} {key:Int} {A:Am} {v:VS}
def J0:D9→Int
 | .evict _=>2
 | .shift _ _ tl=>WW tl
 |_=>8
def Gr:D9→Int
 | .evict q=>q
 | .shift q _ _=>q
 | .cool q=>q
 |_=>0
def Su:D9→Int
 | .shift _ t _=>t
 |_=>0
def lW:D9→Bool
 | .evict _=>true
 | .shift _ _ _=>true
 | .cool _=>true
 |_=>false
theorem lM (h:Ci B w x SA p key A v) (he:Se B ea w) (hp:EO p) (hg:v.r.gone.length<Df) {y:D9} (hy:J2 p.decls y) (hl:lW y=true) {kt:Int} (hm:PL p A kt):
  Calls Tryz.prog 106 #[.pointer (some ⟨x.gr,0,none⟩),.agg #[.int .u8 (J0 y),.int .i64 (Gr y),.int .i64 (Su y)],.int .u64 kt] w (Pp B ea w x p key v (GJ p kt y ⟨A,v.r.s.vars,v.r.gone⟩)):=by
 cases y with
 |evict q=>exact bJ h hp.decls.len hg hy hm
 |cool q=>exact ik h hp hm.ok q kt
 |shift q t tl=>exact bI h he hp.decls.len hg tl hy.1 hy.2.1 hy.2.2 hm
 |_=>cases hl
theorem Xu (h:Ci B w x SA p key A v) (he:Se B ea w) (hp:EO p) (hg:v.r.gone.length<Df) {y:D9} (hy:J2 p.decls y) (hl:lW y=true) (hq:Ix p.decls.length (Gr y))
  (ok:A.Ok) (KY:A.qs.length=p.decls.length) (hm:0<Mb A (Gr y)→PL p A (A.tail (Gr y).toNat)):
  Calls Tryz.prog 60 #[.pointer (some ⟨x.gr,0,none⟩),.agg #[.int .u8 (J0 y),.int .i64 (Gr y),.int .i64 (Su y)]] w
   (Pp B ea w x p key v (if Mb A (Gr y)=0 then .error Oa else GJ p (A.tail (Gr y).toNat) y ⟨A,v.r.s.vars,v.r.gone⟩)):=by
 have ha:=h.grown ((Af.refl _ w).alloc (Ab _) (.cells #[.int .u8 (J0 y),.int .i64 (Gr y),.int .i64 (Su y)] 147)) h.base
 have bZ:=he.kept ((Af.refl (fun b=>B≤b) w).alloc h.base (.cells #[.int .u8 (J0 y),.int .i64 (Gr y),.int .i64 (Su y)] 147)) (fun b hb=>hb)
 have h8:=hp.decls.len
 obtain⟨vl,vf,vq,bm,JK⟩:=ha.ar
 have vG:(Gr y).toNat<A.qs.length:=by unfold Ix at hq;omega
 have hlen:=Qp JK ok (Gr y).toNat vG (by omega)
 have Kv:=fun k=>Yv (JK.drewN k) ok (Gr y).toNat vG (by omega)
 have qo:(((Gr y).toNat:Nat):Int)=Gr y:=by have:=hq.1;omega
 rw[qo]at hlen
 have Wv:A.len (Gr y).toNat=Mb A (Gr y):=rfl
 rw[Wv]at hlen
 have yQ:∀k,Calls Tryz.prog 103 #[.pointer (some ⟨x.ga,0,none⟩),.int .i64 (Gr y)] ((w.alloc (.cells #[.int .u8 (J0 y),.int .i64 (Gr y),.int .i64 (Su y)] 147)).drewN k) fun e w'=>e= .returned (.int .u64 (A.tail (Gr y).toNat))∧∃n,w'=((w.alloc (.cells #[.int .u8 (J0 y),.int .i64 (Gr y),.int .i64 (Su y)] 147)).drewN k).drewN n:=by
  intro k
  have:=Kv k
  rw[qo]at this
  exact this
 have Ik:=fun(Kf:0<Mb A (Gr y)) k=>lM (ea:=ea) (ha.grown (w':=(w.alloc (.cells #[.int .u8 (J0 y),.int .i64 (Gr y),.int .i64 (Su y)] 147)).drewN k) ((Af.refl _ _).drewN k) ha.base) (bZ.kept ((Af.refl (fun b=>B≤b) _).drewN k) (fun b hb=>hb)) hp hg hy hl (hm Kf)
 have c1:=h.row.cell 1
 have s0:=h.srow.cell 0
 have r1:=h.row.lt
 have r2:=h.srow.lt
 have q1:¬x.gr=w.heap.size:=by omega
 have q2:¬x.gs=w.heap.size:=by omega
 have ef:=bZ.emp
 have qt:J0 y=2∨J0 y=3∨J0 y=4∨J0 y=8:=by
  cases y with
  |evict q=>exact .inl rfl
  |cool q=>exact .inr (.inr (.inr rfl))
  |shift q t tl=>cases tl;exact .inr (.inl rfl);exact .inr (.inr (.inl rfl))
  |_=>cases hl
 clear hy hl hq hm vG qo Wv Kv ok KY hp h8
 generalize MW:GJ p (A.tail (Gr y).toNat) y ⟨A,v.r.s.vars,v.r.gone⟩=RES at*
 generalize mv:A.tail (Gr y).toNat=KT at*
 generalize ho:J0 y=o at*
 generalize Adf:Gr y=QA at*
 generalize Ade:Su y=QB at*
 generalize Mb A QA=L at*
 have HA:=Aa ha
 have HLN:=Aa hlen
 have xZ:=Aa yQ
 have Mk:=Aa Ik
 have HB:=Aa h.base
 clear h he bZ ha hg JK hlen yQ Ik ho mv Adf Ade MW
 simp at c1 s0
 by_cases hz:L=0
 ·subst hz
  rw[show((0:Nat):Int)=0 from rfl]at HLN
  have HZ:=Aa (True.intro)
  rcases qt with rfl|rfl|rfl|rfl
  all_goals
   go_enter Ie,GD
   go_wp2_with (go_at_call 99;refine HLN.out.mono ?_;rintro e w' ⟨rfl,rfl⟩)
   go_ret
   exact⟨(Af.refl _ w).alloc HB.out _,rfl⟩
 ·have Kf:0<L:=Nat.pos_of_ne_zero hz
  have b1:((L:Int)==0)=false:=by simpa using hz
  have b2:decide ((L:Int)=0)=false:=by simpa using hz
  rw[Ad hz]
  cases RES with
  |error k=>
   rcases qt with rfl|rfl|rfl|rfl
   all_goals
    go_enter Ie,GD
    go_wp2_with (go_at_call 99;refine HLN.out.mono ?_;rintro e w' ⟨rfl,rfl⟩)
    refine GQ 6 (by kernel_rfl) (by kernel_rfl) ?_
    simp only[Aw,AO,Ax,AK]
    repeat (go_big_quiet_step ((go_at_call 103;exact rW (xZ.out _))))
    refine Id ?_
    intro nq
    go_wp2_with (go_at_call 106;refine(Mk.out Kf _).mono ?_;rintro e w' ⟨hk,rfl⟩)
    go_ret
    exact⟨((Af.refl (fun b=>B≤b) w).alloc HB.out _).drewN nq |>.trans hk,rfl⟩
  |ok r'=>
   rcases qt with rfl|rfl|rfl|rfl
   all_goals
    go_enter Ie,GD
    go_wp2_with (go_at_call 99;refine HLN.out.mono ?_;rintro e w' ⟨rfl,rfl⟩)
    refine GQ 6 (by kernel_rfl) (by kernel_rfl) ?_
    simp only[Aw,AO,Ax,AK]
    repeat (go_big_quiet_step ((go_at_call 103;exact rW (xZ.out _))))
    refine Id ?_
    intro nq
    go_wp2_with (go_at_call 106;refine(Mk.out Kf _).mono ?_;rintro e w' ⟨hk,rfl,hr⟩;have HR:=Aa hr;clear hr)
    go_ret
    exact⟨((Af.refl (fun b=>B≤b) w).alloc HB.out _).drewN nq |>.trans hk,rfl,HR.out⟩
end
section
variable {B:Nat} {ea:Nat→Addr} {w:World} {x:RV} {SA:Nat→Prop} {p:AF} {key:Int} {A:Am} {v:VS}
theorem qT (h:Ci B w x SA p key A v) (hp:EO p) (ok:A.Ok):
  Calls Tryz.prog 60 #[.pointer (some ⟨x.gr,0,none⟩),.agg #[.int .u8 7,.int .i64 0,.int .i64 0]] w (Pp B ea w x p key v (Jc p key .bump ⟨A,v.r.s.vars,v.r.gone⟩)):=by
 have ha:=h.grown ((Af.refl _ w).alloc (Ab _) (.cells #[.int .u8 7,.int .i64 0,.int .i64 0] 147)) h.base
 have Xo:=hp.freq
 have hT:∀k,Calls Tryz.prog 107 #[.pointer (some ⟨x.ga,0,none⟩),.int .u64 key,.int .i64 1,.int .i64 p.freq] ((w.alloc (.cells #[.int .u8 7,.int .i64 0,.int .i64 0] 147)).drewN k) fun e w'=>
   e= .returned (.tuple #[])∧Af (fun b=>B≤b) ((w.alloc (.cells #[.int .u8 7,.int .i64 0,.int .i64 0] 147)).drewN k) w'∧∃PJ,Ci B w' x PJ p key (A.tune key 1 p.freq) v:=by
  intro k
  have hk:=ha.grown (w':=(w.alloc (.cells #[.int .u8 7,.int .i64 0,.int .i64 0] 147)).drewN k) ((Af.refl _ _).drewN k) ha.base
  obtain⟨vl,vf,vq,bm,JK⟩:=hk.arena
  refine(Yp JK ok key 1 p.freq (by omega) (by omega)).mono ?_
  rintro e w' ⟨rfl,A4,V1,LY⟩
  exact⟨rfl,hk.keptB A4,_,hk.setArena A4 ⟨V1,vf,vq,bm,LY⟩⟩
 have c0:=h.row.cell 0
 have c1:=h.row.cell 1
 have c2:=h.row.cell 2
 have s0:=h.srow.cell 0
 have g0:=h.ro.prog.cell 0
 have p1:=h.ro.pol.cell 1
 have r1:=h.row.lt
 have r2:=h.srow.lt
 have r3:=h.ro.prog.lt
 have r4:=h.ro.pol.lt
 have q1:¬x.gr=w.heap.size:=by omega
 have q2:¬x.gs=w.heap.size:=by omega
 have q3:¬x.gg=w.heap.size:=by omega
 have q4:¬x.gp=w.heap.size:=by omega
 have HT:=Aa hT
 have HB:=Aa h.base
 clear h ha hT hp Xo ok
 simp at c0 c1 c2 s0 g0 p1
 go_enter Ie,GD
 go_wp2_with fail
 refine GQ 15 (by kernel_rfl) (by kernel_rfl) ?_
 simp only[Aw,AO,Ax,AK]
 repeat (go_big_quiet_step (fail))
 refine Id ?_
 intro nq
 go_wp2_with (go_at_call 107;refine(HT.out _).mono ?_;rintro e w' ⟨rfl,hk,hr⟩;have HR:=Aa hr;clear hr)
 go_ret
 obtain⟨PJ,hr⟩:=HR.out
 exact⟨((Af.refl (fun b=>B≤b) w).alloc HB.out _).drewN nq |>.trans hk,rfl,PJ,x.vou,hr⟩
theorem nj (h:Ci B w x SA p key A v) (h8:p.decls.length≤8) (hv:v.r.s.vars.length=p.decls.length) {n by_:Int} (hn:Ix p.decls.length n) (hb:by_=1∨by_= -1) (h0:0≤v.r.s.var n) (h9:v.r.s.var n≤99) (hm:(Au p.decls n).max≤99):
  Calls Tryz.prog 60 #[.pointer (some ⟨x.gr,0,none⟩),.agg #[.int .u8 6,.int .i64 n,.int .i64 by_]] w
   (Pp B ea w x p key v (.ok ⟨A,v.r.s.vars.set n.toNat (DO (v.r.s.var n) by_ (Au p.decls n).max),v.r.gone⟩)):=by
 have ha:=h.grown ((Af.refl _ w).alloc (Ab _) (.cells #[.int .u8 6,.int .i64 n,.int .i64 by_] 147)) h.base
 obtain⟨m,rfl⟩:∃m:Nat,n=(m:Int):=⟨n.toNat,by unfold Ix at hn;omega⟩
 have hmd:m<p.decls.length:=by unfold Ix at hn;omega
 have hmv:m<v.r.s.vars.length:=by omega
 obtain⟨gd,cd,e1,Rn,Aea,_,d2⟩:=h.ro.decl hn
 rw[A3]at d2 ⊢
 obtain⟨g,cap,e,sT,qG,RI,SX⟩:=h.vars.form (by omega)
 have hc:w.cell? ⟨g,m,none⟩=some (.int .i64 (v.r.s.var m)):=by
  have h1:=h.vars
  rw[e]at h1
  have h2:=h1.1.cellAt m (by simpa using hmv)
  refine h2.trans ?_
  unfold St.var
  rw[A3,Az,Ah hmv]
  rfl
 have hfz:∀j,w.frozen? ⟨g,j,none⟩=false:=by
  intro j
  have h1:=h.vars
  rw[e]at h1
  exact h1.1.frozenAt j
 have A6:∀k c,c=DO (v.r.s.var m) by_ (Au p.decls m).max→Ci B (((w.alloc (.cells #[.int .u8 6,.int .i64 m,.int .i64 by_] 147)).drewN k).setCell ⟨g,m,none⟩ (.int .i64 c)) x SA p key A
   {v with r:=⟨⟨v.r.s.q,v.r.s.vars.set m (DO (v.r.s.var m) by_ (Au p.decls m).max)⟩,v.r.gone⟩}:=by
  rintro k _ rfl
  have hk:=ha.grown (w':=(w.alloc (.cells #[.int .u8 6,.int .i64 m,.int .i64 by_] 147)).drewN k) ((Af.refl _ _).drewN k) ha.base
  generalize DO (v.r.s.var m) by_ (Au p.decls m).max=V
  have hs:=(hk.vars).set1 L6 (i:=m) e V
  have k3:Af (fun b=>b=g) ((w.alloc (.cells #[.int .u8 6,.int .i64 m,.int .i64 by_] 147)).drewN k) (((w.alloc (.cells #[.int .u8 6,.int .i64 m,.int .i64 by_] 147)).drewN k).setCell ⟨g,m,none⟩ (.int .i64 V)):=Af.one _ ⟨g,m,none⟩ _
  have NZ:x.vva.ownBlock=some g:=by rw[e];rfl
  obtain⟨vl,vf,vq,bm,JK⟩:=hk.ar
  exact⟨hk.ro.kept k3 (fun b hb=>hb▸sT),hk.row.kept k3 (fun e=>hk.vars.ne_row hk.row (by decide) (e▸NZ)),hk.srow.kept k3 (fun e=>hk.vars.ne_row hk.srow (by decide) (e▸NZ)),hk.stack.kept k3 (fun b hb e=>hk.a2 b hb (e▸NZ)),hk.loops.kept k3 (fun b hb e=>hk.a3 b hb (e▸NZ)),
   hk.out.kept k3 (fun b hb e=>hk.vars.apart_ne hk.out (by decide) b (e▸NZ) hb),hs,⟨vl,vf,vq,bm,JK.kept k3 (fun b hb e=>hk.s4 b (e▸NZ) hb)⟩,hk.gr0,hk.gs0,fun b hb=>⟨(hk.sa b hb).1,AD (hk.sa b hb).2 k3.size⟩,hk.sr,hk.ss,hk.s1,hk.s2,hk.s3,hk.s4,hk.a1,hk.a2,hk.a3⟩
 have hkf:∀k V,Af (fun b=>B≤b) w (((w.alloc (.cells #[.int .u8 6,.int .i64 m,.int .i64 by_] 147)).drewN k).setCell ⟨g,m,none⟩ (.int .i64 V)):=fun k V=>(((Af.refl _ w).alloc h.base _).drewN k).setCell (p:=⟨g,m,none⟩) sT _
 have c0:=h.row.cell 0
 have c1:=h.row.cell 1
 have s1:=h.srow.cell 1
 have s0:=h.srow.cell 0
 have g0:=h.ro.prog.cell 0
 have p0:=h.ro.pol.cell 0
 rw[e]at s1
 rw[e1]at p0
 have r1:=h.row.lt
 have r2:=h.srow.lt
 have r3:=h.ro.prog.lt
 have r4:=h.ro.pol.lt
 have r5:gd<w.heap.size:=by
  have h1:=h.ro.decls
  rw[e1]at h1
  exact h1.lt rfl
 have q1:¬x.gr=w.heap.size:=by omega
 have q2:¬x.gs=w.heap.size:=by omega
 have q3:¬x.gg=w.heap.size:=by omega
 have q4:¬x.gp=w.heap.size:=by omega
 have q5:¬gd=w.heap.size:=by omega
 have q6:¬g=w.heap.size:=by omega
 have HF:=Aa A6
 have HK:=Aa hkf
 clear h ha hn e e1 A6 hkf
 generalize v.r.s.var m=V at*
 generalize (Au p.decls m).max=M at*
 rw[hv]at s1 qG
 generalize p.decls.length=D at*
 clear hv hmv
 unfold maxLen at Aea RI
 simp at c0 c1 s0 s1 g0 p0
 have Pi:V+by_≤100∧-1≤V+by_∧-1≤by_∧by_≤1:=by rcases hb with rfl|rfl<;>omega
 obtain⟨b1,b2,b3,b4⟩:=Pi
 have ym:=Aa hb
 have Pe:IntKind.i64.wrap (V+by_)=V+by_:=E9 _ (by omega)
 clear hb
 go_enter Ie,GD
 go_wp2_with fail
 refine GQ 41 (by kernel_rfl) (by kernel_rfl) ?_
 simp only[Aw,AO,Ax,AK]
 repeat (go_big_quiet_step (fail))
 refine Id ?_
 intro nq
 go_wp2
 all_goals
  go_ret
  exact⟨HK.out _ _,rfl,SA,x.vou,HF.out _ _ (by unfold DO;omega)⟩
end
section
variable {B:Nat} {ea:Nat→Addr} {w:World} {x:RV} {SA:Nat→Prop} {p:AF} {key:Int} {A:Am} {v:VS}
structure Agu (B:Nat) (w:World) (x:RV) (SA:Nat→Prop) (p:AF) (key:Int) (A:Am) (v:VS) (n:Int):Prop where
 run:Ci B (w.alloc (.cells #[.int .u64 n] 27)).drew x SA p key A v
 base:B≤((w.alloc (.cells #[.int .u64 n] 27)).drew).heap.size
 cells:∀j u,[Value.int .u64 n][j]?=some u→((w.alloc (.cells #[.int .u64 n] 27)).drew).cell? ((⟨w.heap.size,0,none⟩:Addr).add j)=some u
 one:∀u∈ [Value.int .u64 n],u.oneCell'=true
 gr:¬(x.vou.ownBlock=some x.gr∨((w.alloc (.cells #[.int .u64 n] 27)).drew).heap.size≤x.gr)
 done:∀(w2:World) (g2 Er:Nat),Sl (fun b=>B≤b) w2 27 1 (.slice (some ⟨g2,0,none⟩) (v.r.gone.length+1) Er) (v.r.gone.length+1) (v.r.gone.map UJ++[.int .u64 n])→
  Af (fun b=>x.vou.ownBlock=some b∨((w.alloc (.cells #[.int .u64 n] 27)).drew).heap.size≤b) ((w.alloc (.cells #[.int .u64 n] 27)).drew) w2→
  (x.vou.ownBlock=some g2∨g2=((w.alloc (.cells #[.int .u64 n] 27)).drew).heap.size)→
  Af (fun b=>B≤b) w (w2.setCell ⟨x.gr,6,none⟩ (.slice (some ⟨g2,0,none⟩) (v.r.gone.length+1) Er))∧
  Ci B (w2.setCell ⟨x.gr,6,none⟩ (.slice (some ⟨g2,0,none⟩) (v.r.gone.length+1) Er)) {x with vou:=.slice (some ⟨g2,0,none⟩) (v.r.gone.length+1) Er} SA p key A {v with r:={v.r with gone:=v.r.gone++[n]}}
theorem Ci.appD (h:Ci B w x SA p key A v) (n:Int):Agu B w x SA p key A v n:=by
 have hd:=h.grown (w':=w.drew) (Af.refl _ _).drew h.base
 have ha:=hd.appOk n
 refine⟨ha.run,ha.base,ha.cells,ha.one,ha.gr,fun w2 g2 Er h1 h2 h3=>?_⟩
 have:=ha.done h1 h2 h3 h.base
 exact⟨((Af.refl (fun b=>B≤b) w).drew).trans this.1,this.2⟩
theorem qS (h:Ci B w x SA p key A v) (hp:p.decls.length≤8) (hg:v.r.gone.length<Df) (hm:PL p A key):
  Calls Tryz.prog 60 #[.pointer (some ⟨x.gr,0,none⟩),.agg #[.int .u8 5,.int .i64 0,.int .i64 0]] w (Pp B ea w x p key v (Jc p key .drop ⟨A,v.r.s.vars,v.r.gone⟩)):=by
 have ha:=h.grown ((Af.refl _ w).alloc (Ab _) (.cells #[.int .u8 5,.int .i64 0,.int .i64 0] 147)) h.base
 obtain⟨vl,vf,vq,bm,JK⟩:=ha.ar
 have hw:=Ot JK hm.ok key
 have MW:=Gd ha hp hm.wh
 have c1:=h.row.cell 1
 have c2:=h.row.cell 2
 have c6:=h.row.cell 6
 have f:=fun j=>h.row.frozen j
 have s0:=h.srow.cell 0
 have r1:=h.row.lt
 have r2:=h.srow.lt
 have q1:¬x.gr=w.heap.size:=by omega
 have q2:¬x.gs=w.heap.size:=by omega
 have q3:¬x.gr=w.heap.size+1:=by omega
 obtain⟨i0,Lt,KX,Ls,Lr⟩:=Cj Qr
 have q4:v.r.gone.length+1≤maxLen:=by unfold Df at hg;unfold maxLen;omega
 have q5:(v.r.gone.length+1)*8≤140737488355328:=by unfold Df at hg;omega
 have HA:=Aa ha
 have HW:=Aa hw
 have jt:=Aa MW
 have HB:=Aa h.base
 have HM:=Aa hm
 clear h ha JK hw MW hm hg
 simp at c1 c2 c6 s0
 cases hd:Bl p.decls (A.where_ key)with
 |false=>
  have h1:=jt.out
  rw[hd]at h1
  have H1:=Aa h1
  have HD:=Aa hd
  obtain⟨vl,vf,vq,bm,JK⟩:=HA.out.arena
  have ho:=Qj JK (Ci.up _ SA) HM.out.ok (by have:=HM.out.q8;omega) key HM.out.un
  have HO:=Aa ho
  clear h1 hd JK ho
  go_enter Ie,GD
  go_wp2_with (first|(go_at_call 35;refine HW.out.mono ?_;rintro e w' ⟨rfl,rfl⟩)|(go_at_call 104;refine H1.out.mono ?_;rintro e w' ⟨rfl,rfl⟩)|(go_at_call 49;refine HO.out.mono ?_;rintro e w' ⟨rfl,CU,jC,kj,jB,OS⟩;have Mw:=HA.out.setArena CU ⟨jC,kj,jB,bm,OS⟩;have fi:=Aa Mw;have Rq:=Aa (HA.out.keptB CU);clear CU OS Mw))
  go_ret
  have e:Jc p key .drop ⟨A,v.r.s.vars,v.r.gone⟩= .ok ⟨A.out key,v.r.s.vars,v.r.gone⟩:=by simp[Jc,HD.out]
  rw[e]
  exact⟨((Af.refl (fun b=>B≤b) w).alloc HB.out _).trans Rq.out,rfl,_,x.vou,fi.out⟩
 |true=>
  have h1:=jt.out
  rw[hd]at h1
  have H1:=Aa h1
  have HD:=Aa hd
  have XY:=HA.out.appD key
  obtain⟨gr,gg,gp,gs,ga,vd,bmv,bcv,lp,vst,vlo,vou,vva⟩:=x
  obtain⟨av,cv,rfl⟩:∃a c,vou= .slice a v.r.gone.length c:=XY.run.out.shape
  have d2:(w.alloc (.cells #[.int .u8 5,.int .i64 0,.int .i64 0] 147)).cell? ⟨gr,2,none⟩=some (.int .u64 key):=HA.out.row.cell 2
  have d6:(w.alloc (.cells #[.int .u8 5,.int .i64 0,.int .i64 0] 147)).cell? ⟨gr,6,none⟩=some (.slice av v.r.gone.length cv):=HA.out.row.cell 6
  have df:∀j,(w.alloc (.cells #[.int .u8 5,.int .i64 0,.int .i64 0] 147)).frozen? ⟨gr,j,none⟩=false:=fun j=>HA.out.row.frozen j
  have dl:gr<(w.alloc (.cells #[.int .u8 5,.int .i64 0,.int .i64 0] 147)).heap.size:=HA.out.row.lt
  have dk:=(Af.refl (fun b=>B≤b) w).alloc HB.out (.cells #[.int .u8 5,.int .i64 0,.int .i64 0] 147)
  have Lm:=Aa XY
  have HDK:=Aa dk
  clear h1 hd XY dk
  simp only at*
  go_enter Ie,GD
  go_wp2_with (first|(go_at_call 35;refine HW.out.mono ?_;rintro e w' ⟨rfl,rfl⟩)|(go_at_call 104;refine H1.out.mono ?_;rintro e w' ⟨rfl,rfl⟩))
  clear HW H1 jt
  generalize w.alloc (.cells #[.int .u8 5,.int .i64 0,.int .i64 0] 147)=w1 at*
  have dn:¬gr=w1.heap.size:=by omega
  have b4:((w1.alloc (.cells #[.int .u64 key] 27)).drew).cell? ⟨gr,6,none⟩=some (.slice av v.r.gone.length cv):=Lm.out.run.row.cell 6
  have fz:((w1.alloc (.cells #[.int .u64 key] 27)).drew).frozen? ⟨gr,6,none⟩=false:=Lm.out.run.row.frozen 6
  have B4:=Aa b4
  have FZ:=Aa fz
  clear b4 fz
  go_region_law (first
   |(refine F9 Lx Lt KX Ls Lr rfl (by decide) Lm.out.run.out Lm.out.base rfl _ _ (by rfl) (by rfl) ⟨w1.heap.size,0,none⟩ 1 1 [.int .u64 key] (by rfl) (by rfl) Lm.out.cells Lm.out.one q4 q5 (by omega) ?_;intro g2 Er w2 Cp A4 EE;have e1:=(A4.cell (p:=⟨gr,6,none⟩) Lm.out.gr).trans B4.out;have e2:=(A4.frozen (p:=⟨gr,6,none⟩) Lm.out.gr).trans FZ.out;have U3:=Aa Cp;have Rp:=Aa A4;have Mk:=Aa EE;clear Cp A4 EE))
  all_goals
   have A6:=Lm.out.done w2 g2 Er U3.out Rp.out Mk.out
   have x1:=A6.2.row.cell 1
   have x2:=A6.2.row.cell 2
   have y0:=A6.2.srow.cell 0
   obtain⟨vl,vf,vq,bm,JK⟩:=A6.2.arena
   have ho:=Qj JK (Ci.up _ SA) HM.out.ok (by have:=HM.out.q8;omega) key HM.out.un
   have HO:=Aa ho
   have Jo:=Aa A6
   clear JK ho A6 e1 e2
   simp at x1 x2 y0
   go_wp2_with (go_at_call 49;refine HO.out.mono ?_;rintro e w' ⟨rfl,CU,jC,kj,jB,OS⟩;have Mw:=Jo.out.2.setArena CU ⟨jC,kj,jB,bm,OS⟩;have fi:=Aa Mw;have Rq:=Aa (Jo.out.2.keptB CU);clear CU OS Mw)
   go_ret
   have e:Jc p key .drop ⟨A,v.r.s.vars,v.r.gone⟩= .ok ⟨A.out key,v.r.s.vars,v.r.gone++[key]⟩:=by simp[Jc,HD.out]
   rw[e]
   exact⟨(HDK.out.trans Jo.out.1).trans Rq.out,rfl,_,_,fi.out⟩
end
section
variable {B:Nat} {ea:Nat→Addr} {w:World} {x:RV} {SA:Nat→Prop} {p:AF} {key:Int} {A:Am} {v:VS}
def ew (tl:Bool):Int:=if tl then 1 else 0
theorem ws (h:Ci B w x SA p key A v) (he:Se B ea w) (hp:p.decls.length≤8) (hg:v.r.gone.length<Df) {t:Int} (tl:Bool) (ht:Ix p.decls.length t) (GM:(Au p.decls t).kind≠2) (hm:PL p A key):
  Calls Tryz.prog 60 #[.pointer (some ⟨x.gr,0,none⟩),.agg #[.int .u8 (ew tl),.int .i64 t,.int .i64 0]] w (Pp B ea w x p key v (Jc p key (.put t tl) ⟨A,v.r.s.vars,v.r.gone⟩)):=by
 have vx:ew tl=0∧tl=false∨ew tl=1∧tl=true:=by cases tl;exact .inl ⟨rfl,rfl⟩;exact .inr ⟨rfl,rfl⟩
 generalize ew tl=so at*
 have MW:Jc p key (.put t tl) ⟨A,v.r.s.vars,v.r.gone⟩=if Lg p.decls (A.out key) t then .error UK
  else .ok ⟨(A.out key).in_ key (A.outFreq key) t.toNat tl,v.r.s.vars,if Bl p.decls (A.where_ key)&&!Bl p.decls t then v.r.gone++[key]else v.r.gone⟩:=rfl
 rw[MW]
 clear MW
 have ha:=h.grown ((Af.refl _ w).alloc (Ab _) (.cells #[.int .u8 so,.int .i64 t,.int .i64 0] 147)) h.base
 have bZ:=he.kept ((Af.refl (fun b=>B≤b) w).alloc h.base (.cells #[.int .u8 so,.int .i64 t,.int .i64 0] 147)) (fun b hb=>hb)
 obtain⟨vlw,vfw,vqw,bmw,_d⟩:=ha.ar
 have hw:=Ot _d hm.ok key
 have me:=Gd ha hp hm.wh
 obtain⟨vl,vf,vq,bm,JK⟩:=ha.arena
 have ho:=Qj JK (Ci.up _ SA) hm.ok (by have:=hm.q8;omega) key hm.un
 have c1:=h.row.cell 1
 have c2:=h.row.cell 2
 have s0:=h.srow.cell 0
 have r1:=h.row.lt
 have r2:=h.srow.lt
 have q1:¬x.gr=w.heap.size:=by omega
 have q2:¬x.gs=w.heap.size:=by omega
 have hR:AM (w.alloc (.cells #[.int .u8 so,.int .i64 t,.int .i64 0] 147)) w.heap.size 147 [.int .u8 so,.int .i64 t,.int .i64 0]:=AM.new w _ _
 have tq:¬(SA w.heap.size∨(w.alloc (.cells #[.int .u8 so,.int .i64 t,.int .i64 0] 147)).heap.size≤w.heap.size):=by
  rintro(h0|h0)
  ·have:=(h.sa _ h0).2;omega
  ·simp at h0;omega
 obtain⟨i0,Lt,KX,Ls,Lr⟩:=Cj Qr
 have q4:v.r.gone.length+1≤maxLen:=by unfold Df at hg;unfold maxLen;omega
 have q5:(v.r.gone.length+1)*8≤140737488355328:=by unfold Df at hg;omega
 have qj:((t.toNat:Nat):Int)=t:=by have:=ht.1;omega
 have HA:=Aa ha
 have HE:=Aa bZ
 have HW:=Aa hw
 have _1:=Aa me
 have HO:=Aa ho
 have HB:=Aa h.base
 have HM:=Aa hm
 have HR:=Aa hR
 have wQ:=Aa tq
 have HT:=Aa ht
 have MG:=Aa GM
 have HTN:=Aa qj
 clear h he bZ ha JK _d hw me ho hm hR tq ht GM hg qj
 simp at c1 c2 s0
 have Zl:∀(w1:World) V1 aA az,Af (fun b=>SA b∨(w.alloc (.cells #[.int .u8 so,.int .i64 t,.int .i64 0] 147)).heap.size≤b) (w.alloc (.cells #[.int .u8 so,.int .i64 t,.int .i64 0] 147)) w1→
   BL (fun b=>SA b∨(w.alloc (.cells #[.int .u8 so,.int .i64 t,.int .i64 0] 147)).heap.size≤b) w1 x.ga (A.out key) V1 aA az bm→
   ∃dz,Ci B w1 x dz p key (A.out key) v∧AM w1 w.heap.size 147 [.int .u8 so,.int .i64 t,.int .i64 0]∧Af (fun b=>B≤b) w w1∧Se B ea w1∧¬dz w.heap.size:=by
  intro w1 V1 aA az hk LY
  exact⟨_,HA.out.setArena hk ⟨V1,aA,az,bm,LY⟩,HR.out.kept hk wQ.out,((Af.refl (fun b=>B≤b) w).alloc HB.out _).trans (HA.out.keptB hk),HE.out.kept (HA.out.keptB hk) (fun b hb=>hb),fun h=>wQ.out h.1⟩
 have HS:=Aa Zl
 clear Zl
 have hw0:∃rY,Bl p.decls (A.where_ key)=rY:=⟨_,rfl⟩
 obtain⟨rY,me⟩:=hw0
 have mc:=_1.out
 rw[me]at mc ⊢
 have oh:=Aa mc
 clear _1 me mc
 cases XV:Lg p.decls (A.out key) t with
 |true=>
  have dM:=Aa XV
  clear XV
  rcases vx with⟨rfl,_⟩|⟨rfl,_⟩
  all_goals
   go_enter Ie,GD
   go_wp2_with (first|(go_at_call 35;refine HW.out.mono ?_;rintro e w' ⟨rfl,rfl⟩)|(go_at_call 104;refine oh.out.mono ?_;rintro e w' ⟨rfl,rfl⟩))
   refine HO.out.mono ?_
   rintro e w1 ⟨rfl,hk,V1,aA,az,LY⟩
   obtain⟨dz,hr,BQ,Bi,bY,Vc⟩:=HS.out w1 V1 aA az hk LY
   have I5:=N7 hr HM.out.ok' hp (HM.out.len.trans HM.out.ql) HT.out
   rw[dM.out]at I5
   have SM:=Aa I5
   have b1:=BQ.cell 1
   have ef:=bY.full
   have Lv:=Aa Bi
   clear hk LY hr BQ Bi bY Vc I5
   simp at b1
   go_wp2_with (go_at_call 102;refine SM.out.mono ?_;rintro e w2 ⟨rfl,nf,rfl⟩)
   go_ret
   exact⟨Lv.out.drewN _,rfl⟩
 |false=>
  have dM:=Aa XV
  have mH:=HM.out.cin t HT.out MG.out XV
  have oA:=Aa mH
  clear XV mH
  have OG:∀(w3:World) (x3:RV) (v3:VS) dz,Ci B w3 x3 dz p key (A.out key) v3→Calls Tryz.prog 105 #[.pointer (some ⟨x3.ga,0,none⟩),.int .u64 key,.int .i64 (A.outFreq key),.int .i64 t,.bool tl] w3 fun e w'=>
    e= .returned (.tuple #[])∧Af (fun b=>B≤b) w3 w'∧∃tF,Ci B w' x3 tF p key ((A.out key).in_ key (A.outFreq key) t.toNat tl) v3:=by
   intro w3 x3 v3 dz hr
   obtain⟨uh,vf3,vq3,wv,VB⟩:=hr.arena
   have h1:=Xd VB (Ci.up _ dz) HM.out.ok' (by have:=HM.out.q8;rw[HM.out.len];omega) key (A.outFreq key) t.toNat tl oA.out
   rw[HTN.out]at h1
   refine h1.mono ?_
   rintro e w' ⟨rfl,CU,jC,kj,jB,OS⟩
   exact⟨rfl,hr.keptB CU,_,hr.setArena CU ⟨jC,kj,jB,wv,OS⟩⟩
  have j5:=Aa OG
  clear OG
  cases eR:(rY&&!Bl p.decls t)with
  |false=>
   have mJ:rY=false∨rY=true∧Bl p.decls t=true:=by
    cases rY
    ·exact .inl rfl
    ·right
     cases hr:Bl p.decls t with
     |true=>exact⟨rfl,rfl⟩
     |false=>rw[hr]at eR;cases eR
   clear eR
   rcases vx with⟨rfl,rfl⟩|⟨rfl,rfl⟩
   all_goals
    rcases mJ with rfl|⟨rfl,vD⟩
    all_goals
     go_enter Ie,GD
     go_wp2_with (first|(go_at_call 35;refine HW.out.mono ?_;rintro e w' ⟨rfl,rfl⟩)|(go_at_call 104;refine oh.out.mono ?_;rintro e w' ⟨rfl,rfl⟩))
     refine HO.out.mono ?_
     rintro e w1 ⟨rfl,hk,V1,aA,az,LY⟩
     obtain⟨dz,hr,BQ,Bi,bY,Vc⟩:=HS.out w1 V1 aA az hk LY
     have I5:=N7 hr HM.out.ok' hp (HM.out.len.trans HM.out.ql) HT.out
     rw[dM.out]at I5
     have SM:=Aa I5
     have b0:=BQ.cell 0
     have b1:=BQ.cell 1
     have x2:=hr.row.cell 2
     have Lv:=Aa Bi
     have Yd:=Aa hr
     clear hk LY hr BQ Bi bY Vc I5
     simp at b0 b1 x2
     go_wp2_with (go_at_call 102;refine SM.out.mono ?_;rintro e w2 ⟨rfl,nf,rfl⟩)
     first
      |(refine GQ 11 (by kernel_rfl) (by kernel_rfl) ?_)
      |(have Pf:=Gd (Yd.out.grown (w':=w1.drewN nf) ((Af.refl _ _).drewN _) Yd.out.base) hp (.inr HT.out)
        rw[vD]at Pf
        have U5:=Aa Pf
        clear Pf
        go_wp2_with (go_at_call 104;refine U5.out.mono ?_;rintro e w' ⟨rfl,rfl⟩)
        refine GQ 11 (by kernel_rfl) (by kernel_rfl) ?_)
     simp only[Aw,AO,Ax,AK]
     repeat (go_big_quiet_step (fail))
     refine Id ?_
     intro nq
     have hi:=fun k=>j5.out (w1.drewN k) x v dz (Yd.out.grown ((Af.refl _ _).drewN k) Yd.out.base)
     have HI:=Aa hi
     clear hi
     go_wp2_with (go_at_call 105;refine(HI.out _).mono ?_;rintro e w' ⟨rfl,CU,Mw⟩;have fi:=Aa Mw;have Rq:=Aa CU;clear CU Mw)
     go_ret
     obtain⟨tF,Mw⟩:=fi.out
     exact⟨(Lv.out.drewN _).trans Rq.out,rfl,tF,x.vou,Mw⟩
  |true=>
   have mJ:rY=true∧Bl p.decls t=false:=by
    cases rY
    ·cases eR
    ·cases hr:Bl p.decls t with
     |true=>rw[hr]at eR;cases eR
     |false=>exact⟨rfl,rfl⟩
   obtain⟨rfl,vD⟩:=mJ
   have HRT:=Aa vD
   clear eR vD
   rcases vx with⟨rfl,rfl⟩|⟨rfl,rfl⟩
   all_goals
    go_enter Ie,GD
    go_wp2_with (first|(go_at_call 35;refine HW.out.mono ?_;rintro e w' ⟨rfl,rfl⟩)|(go_at_call 104;refine oh.out.mono ?_;rintro e w' ⟨rfl,rfl⟩))
    refine HO.out.mono ?_
    rintro e w1 ⟨rfl,hk,V1,aA,az,LY⟩
    obtain⟨dz,hr,BQ,Bi,bY,Vc⟩:=HS.out w1 V1 aA az hk LY
    have I5:=N7 hr HM.out.ok' hp (HM.out.len.trans HM.out.ql) HT.out
    rw[dM.out]at I5
    have SM:=Aa I5
    have b1:=BQ.cell 1
    have Lv:=Aa Bi
    have Yd:=Aa hr
    have O5:=Aa BQ
    clear hk LY hr BQ Bi bY Vc I5
    simp at b1
    go_wp2_with (go_at_call 102;refine SM.out.mono ?_;rintro e w2 ⟨rfl,nf,rfl⟩)
    have Ij:=Yd.out.grown (w':=w1.drewN nf) ((Af.refl _ _).drewN _) Yd.out.base
    have Pf:=Gd Ij hp (.inr HT.out)
    rw[HRT.out]at Pf
    have U5:=Aa Pf
    have XY:=Ij.appD key
    have d2:(w1.drewN nf).cell? ⟨x.gr,2,none⟩=some (.int .u64 key):=Ij.row.cell 2
    have d6:(w1.drewN nf).cell? ⟨x.gr,6,none⟩=some x.vou:=Ij.row.cell 6
    have df:∀j,(w1.drewN nf).frozen? ⟨x.gr,j,none⟩=false:=fun j=>Ij.row.frozen j
    have dl:x.gr<(w1.drewN nf).heap.size:=Ij.row.lt
    have A4:=Lv.out.drewN nf
    have sD:=O5.out.drewN nf
    have Lm:=Aa XY
    have Ll:=Aa A4
    have tP:=Aa sD
    clear Ij Pf XY Lv Yd O5 SM A4 sD
    go_wp2_with (go_at_call 104;refine U5.out.mono ?_;rintro e w' ⟨rfl,rfl⟩)
    clear U5 b1
    generalize w1.drewN nf=W at*
    have dn:¬x.gr=W.heap.size:=by omega
    obtain⟨gr,gg,gp,gs,ga,vd,bmv,bcv,lp,vst,vlo,vou,vva⟩:=x
    obtain⟨av,cv,rfl⟩:∃a c,vou= .slice a v.r.gone.length c:=Lm.out.run.out.shape
    have b4:((W.alloc (.cells #[.int .u64 key] 27)).drew).cell? ⟨gr,6,none⟩=some (.slice av v.r.gone.length cv):=Lm.out.run.row.cell 6
    have fz:((W.alloc (.cells #[.int .u64 key] 27)).drew).frozen? ⟨gr,6,none⟩=false:=Lm.out.run.row.frozen 6
    have wg:AM ((W.alloc (.cells #[.int .u64 key] 27)).drew) w.heap.size 147 [.int .u8 _,.int .i64 t,.int .i64 0]:=(tP.out.alloc (.cells #[.int .u64 key] 27)).drew
    have _n:¬((Value.slice av v.r.gone.length cv).ownBlock=some w.heap.size∨((W.alloc (.cells #[.int .u64 key] 27)).drew).heap.size≤w.heap.size):=by
     rintro(h0|h0)
     ·exact Lm.out.run.out.ne_row wg (by decide) h0
     ·have:=tP.out.lt;simp at h0;omega
    have B4:=Aa b4
    have FZ:=Aa fz
    have HBO:=Aa wg
    have HBN:=Aa _n
    clear b4 fz wg _n
    simp only at*
    go_region_law (first
     |(refine F9 Lx Lt KX Ls Lr rfl (by decide) Lm.out.run.out Lm.out.base rfl _ _ (by rfl) (by rfl) ⟨W.heap.size,0,none⟩ 1 1 [.int .u64 key] (by rfl) (by rfl) Lm.out.cells Lm.out.one q4 q5 (by omega) ?_;intro g2 Er w2 Cp A4 EE;have e1:=(A4.cell (p:=⟨gr,6,none⟩) Lm.out.gr).trans B4.out;have e2:=(A4.frozen (p:=⟨gr,6,none⟩) Lm.out.gr).trans FZ.out;have U3:=Aa Cp;have Rp:=Aa A4;have Mk:=Aa EE;clear Cp A4 EE))
    all_goals
     have A6:=Lm.out.done w2 g2 Er U3.out Rp.out Mk.out
     have mt:=HBO.out.kept Rp.out HBN.out
     have Adn:¬w.heap.size=gr:=mt.ne_ (Lm.out.run.row.kept Rp.out Lm.out.gr) (by decide)
     have mq:=mt.far (p:=⟨gr,6,none⟩) Adn (.slice (some ⟨g2,0,none⟩) (v.r.gone.length+1) Er)
     have b0:=mq.cell 0
     have b1:=mq.cell 1
     have x1:=A6.2.row.cell 1
     have x2:=A6.2.row.cell 2
     have hi:=fun k=>j5.out _ _ _ _ (A6.2.grown (w':=(w2.setCell ⟨gr,6,none⟩ (.slice (some ⟨g2,0,none⟩) (v.r.gone.length+1) Er)).drewN k) ((Af.refl _ _).drewN k) A6.2.base)
     have HI:=Aa hi
     have Jo:=Aa A6.1
     clear A6 mt mq hi e1 e2
     simp at x1 x2 b0 b1
     go_wp2
     refine GQ 11 (by kernel_rfl) (by kernel_rfl) ?_
     simp only[Aw,AO,Ax,AK]
     repeat (go_big_quiet_step (fail))
     refine Id ?_
     intro nq
     go_wp2_with (go_at_call 105;refine(HI.out _).mono ?_;rintro e w' ⟨rfl,CU,Mw⟩;have fi:=Aa Mw;have Rq:=Aa CU;clear CU Mw)
     go_ret
     obtain⟨tF,Mw⟩:=fi.out
     exact⟨((Ll.out.trans Jo.out).drewN _).trans Rq.out,rfl,tF,_,Mw⟩
end
end Go.Proofs.YtemppijblfflgaaGreatDoor.Ev
