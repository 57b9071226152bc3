/- Parts of a proof that a law's walk returns true. Conditions: none. -/
import Derived.Test.YtemppijblfflgaaGreatDoorZa00
import Derived.Test.YtemppijblfflgaaGreatDoorZa01
import Derived.Test.YtemppijblfflgaaGreatDoorZa02
import Derived.Test.YtemppijblfflgaaGreatDoorZa08
import Derived.Test.YtemppijblfflgaaGreatDoorZa09
set_option linter.all false
set_option maxRecDepth 100000
set_option maxHeartbeats 8000000
namespace Go.Proofs.YtemppijblfflgaaGreatDoor.Ev
open Go Go.RowKit
def Md (B:Nat) (w:World) (x:RV) (SA:Nat→Prop) (p:AF) (key:Int) (A:Am) (v':VS) (e:Ending) (w':World):Prop:=
 e= .returned (.tuple #[])∧Af (fun b=>B≤b) w w'∧∃u,Ci B w' {x with vst:=u} SA p key A v'
section
variable {B:Nat} {w:World} {x:RV} {SA:Nat→Prop} {p:AF} {key:Int} {A:Am} {v:VS}
theorem rj (h:Ci B w x SA p key A v) (hl:v.stack.length≤1) (n:Int):
  Calls Tryz.prog 59 #[.pointer (some ⟨x.gr,0,none⟩),.agg #[.int .u8 9,.int .i64 n,.int .i64 0]] w (Md B w x SA p key A {v with stack:=n::v.stack}):=by
 have ha:=h.grown ((Af.refl _ w).alloc (Ab _) (.cells #[.int .u8 9,.int .i64 n,.int .i64 0] 147)) h.base
 have hp:=Qh ha hl n
 have HP:=Aa hp
 have HB:=Aa h.base
 clear h ha hp hl
 go_enter Jk,Il
 go_wp2_with fail
 refine HP.out.mono ?_
 rintro e w' ⟨rfl,hk,u,hr⟩
 go_wp2
 go_end0
 exact⟨rfl,((Af.refl _ w).alloc HB.out _).trans hk,u,hr⟩
theorem ri (h:Ci B w x SA p key A v) (hl:v.stack.length≤1) (hv8:v.r.s.vars.length≤8) {n:Int} (hn:Ix v.r.s.vars.length n):
  Calls Tryz.prog 59 #[.pointer (some ⟨x.gr,0,none⟩),.agg #[.int .u8 10,.int .i64 n,.int .i64 0]] w (Md B w x SA p key A {v with stack:=v.r.s.var n::v.stack}):=by
 have ha:=h.grown ((Af.refl _ w).alloc (Ab _) (.cells #[.int .u8 10,.int .i64 n,.int .i64 0] 147)) h.base
 have hp:=Qh (w:=(w.alloc (.cells #[.int .u8 10,.int .i64 n,.int .i64 0] 147)).drew) (ha.grown (Af.refl _ _).drew ha.base) hl (v.r.s.var n)
 obtain⟨m,rfl⟩:∃m:Nat,n=(m:Int):=⟨n.toNat,by unfold Ix at hn;omega⟩
 have hm:m<v.r.s.vars.length:=by unfold Ix at hn;omega
 obtain⟨g,cap,e,_,qG,RI,SX⟩:=h.vars.form (by omega)
 have hc:w.cell? ⟨g,m,none⟩=some (.int .i64 (v.r.s.var m)):=by
  have h1:=h.vars
  rw[e]at h1
  have h2:=h1.1.cellAt m (by simpa using hm)
  refine h2.trans ?_
  unfold St.var
  rw[A3,Az,Ah hm]
  rfl
 have c1:=h.row.cell 1
 have s1:=h.srow.cell 1
 have r1:=h.row.lt
 have r2:=h.srow.lt
 rw[e]at s1
 have q1:¬x.gr=w.heap.size:=by omega
 have q2:¬x.gs=w.heap.size:=by omega
 have q3:¬g=w.heap.size:=by omega
 have HP:=Aa hp
 have HB:=Aa h.base
 generalize v.r.s.var m=V at*
 generalize v.r.s.vars.length=D at*
 unfold maxLen at RI
 clear h ha hp hl e hn
 simp at c1 s1
 go_enter Jk,Il
 go_wp2_with fail
 (refine DM 12 (by kernel_rfl) (by kernel_rfl) ?_;simp only[Aw,AO,Ax,AK];repeat still_step)
 refine Cf ?_
 go_wp2_with fail
 refine HP.out.mono ?_
 rintro e w' ⟨rfl,hk,u,hr⟩
 go_wp2
 go_end0
 exact⟨rfl,(((Af.refl _ w).alloc HB.out _).drew).trans hk,u,hr⟩
theorem rn (h:Ci B w x SA p key A v) (hl:v.stack.length≤1) (ok:A.Ok) (h8:A.qs.length≤8) {n:Int} (hn:Ix A.qs.length n):
  Calls Tryz.prog 59 #[.pointer (some ⟨x.gr,0,none⟩),.agg #[.int .u8 11,.int .i64 n,.int .i64 0]] w (Md B w x SA p key A {v with stack:=(Mb A n:Int)::v.stack}):=by
 have ha:=h.grown ((Af.refl _ w).alloc (Ab _) (.cells #[.int .u8 11,.int .i64 n,.int .i64 0] 147)) h.base
 have VC:=ha.grown (w':=(w.alloc (.cells #[.int .u8 11,.int .i64 n,.int .i64 0] 147)).drew) (Af.refl _ _).drew ha.base
 have hp:=Qh VC hl (Mb A n:Int)
 obtain⟨m,rfl⟩:∃m:Nat,n=(m:Int):=⟨n.toNat,by unfold Ix at hn;omega⟩
 obtain⟨vl,vf,vq,bm,JK⟩:=VC.ar
 have aC:=Qp JK ok m (by unfold Ix at hn;omega) (by omega)
 have c1:=h.row.cell 1
 have s0:=h.srow.cell 0
 have r1:=h.row.lt
 have r2:=h.srow.lt
 have q1:¬x.gr=w.heap.size:=by omega
 have q2:¬x.gs=w.heap.size:=by omega
 have e:Mb A (m:Int)=A.len m:=by unfold Mb;rw[A3]
 rw[e]at hp ⊢
 have HP:=Aa hp
 have HL:=Aa aC
 have HB:=Aa h.base
 clear h ha VC hp hl e hn JK aC ok h8
 simp at c1 s0
 go_enter Jk,Il
 go_wp2_with fail
 go_region_with (first|(go_at_call 99;refine HL.out.mono ?_;rintro e w' ⟨rfl,rfl⟩)|(go_at_call 98;refine HP.out.mono ?_;rintro e w' ⟨rfl,hk,u,hr⟩))
 all_goals
  go_wp2
  go_end0
  exact⟨rfl,(((Af.refl _ w).alloc HB.out _).drew).trans hk,u,hr⟩
theorem nF (h:Ci B w x SA p key A v) (hl:v.stack.length≤1) (ok:A.Ok):
  Calls Tryz.prog 59 #[.pointer (some ⟨x.gr,0,none⟩),.agg #[.int .u8 12,.int .i64 0,.int .i64 0]] w (Md B w x SA p key A {v with stack:=A.freqOf key::v.stack}):=by
 have ha:=h.grown ((Af.refl _ w).alloc (Ab _) (.cells #[.int .u8 12,.int .i64 0,.int .i64 0] 147)) h.base
 have VC:=ha.grown (w':=(w.alloc (.cells #[.int .u8 12,.int .i64 0,.int .i64 0] 147)).drew) (Af.refl _ _).drew ha.base
 have hp:=Qh VC hl (A.freqOf key)
 obtain⟨vl,vf,vq,bm,JK⟩:=VC.ar
 have aC:=ZB JK ok key
 have c1:=h.row.cell 1
 have c2:=h.row.cell 2
 have s0:=h.srow.cell 0
 have r1:=h.row.lt
 have r2:=h.srow.lt
 have q1:¬x.gr=w.heap.size:=by omega
 have q2:¬x.gs=w.heap.size:=by omega
 have HP:=Aa hp
 have HL:=Aa aC
 have HB:=Aa h.base
 clear h ha VC hp hl JK aC ok
 simp at c1 c2 s0
 go_enter Jk,Il
 go_wp2_with fail
 go_region_with (first|(go_at_call 100;refine HL.out.mono ?_;rintro e w' ⟨rfl,rfl⟩)|(go_at_call 98;refine HP.out.mono ?_;rintro e w' ⟨rfl,hk,u,hr⟩))
 all_goals
  go_wp2
  go_end0
  exact⟨rfl,(((Af.refl _ w).alloc HB.out _).drew).trans hk,u,hr⟩
theorem rk (h:Ci B w x SA p key A v):
  Calls Tryz.prog 59 #[.pointer (some ⟨x.gr,0,none⟩),.agg #[.int .u8 16,.int .i64 0,.int .i64 0]] w (Md B w x SA p key A {v with yes:=!v.yes}):=by
 have ha:=h.grown ((Af.refl _ w).alloc (Ab _) (.cells #[.int .u8 16,.int .i64 0,.int .i64 0] 147)) h.base
 have uS:=h.setYes (!v.yes)
 have hy:=uS.grown ((Af.refl _ _).alloc (Ab _) (.cells #[.int .u8 16,.int .i64 0,.int .i64 0] 147)) uS.base
 have c4:=h.row.cell 4
 have f:=fun j=>h.row.frozen j
 have r1:=h.row.lt
 have q1:¬x.gr=w.heap.size:=by omega
 have HY:=Aa hy
 have HG:=Aa h.gr0
 have HB:=Aa h.base
 clear h ha hy uS
 simp at c4
 go_enter Jk,Il
 go_wp2
 go_end0
 exact⟨rfl,((Af.refl _ w).setCell (p:=⟨x.gr,4,none⟩) HG.out _).alloc (Ai HB.out (by simp[World.setCell])) _,_,HY.out⟩
theorem nD (h:Ci B w x SA p key A v) (ok:A.Ok) (hp:p.decls.length≤8) (hA:A.qs.length=p.decls.length) {q:Int} (hq:Ix p.decls.length q):
  Calls Tryz.prog 59 #[.pointer (some ⟨x.gr,0,none⟩),.agg #[.int .u8 14,.int .i64 q,.int .i64 0]] w (Md B w x SA p key A {v with yes:=Lg p.decls A q}):=by
 have ha:=h.grown ((Af.refl _ w).alloc (Ab _) (.cells #[.int .u8 14,.int .i64 q,.int .i64 0] 147)) h.base
 have hf:=N7 ha ok hp hA hq
 have c4:=h.row.cell 4
 have f:=fun j=>h.row.frozen j
 have r1:=h.row.lt
 have q1:¬x.gr=w.heap.size:=by omega
 have HA:=Aa ha
 have HF:=Aa hf
 have HG:=Aa h.gr0
 have HB:=Aa h.base
 clear h ha hf ok hp hA hq
 simp at c4
 go_enter Jk,Il
 go_wp2_with fail
 refine HF.out.mono ?_
 rintro e w' ⟨rfl,nq,rfl⟩
 go_wp2
 go_end0
 exact⟨rfl,(((Af.refl _ w).alloc HB.out _).drewN _).setCell (p:=⟨x.gr,4,none⟩) HG.out _,_,(HA.out.grown (w':=(w.alloc (.cells #[.int .u8 14,.int .i64 q,.int .i64 0] 147)).drewN nq) ((Af.refl _ _).drewN _) HA.out.base).setYes _⟩
theorem nC (h:Ci B w x SA p key A v) {b a:Int} {st:List Int} (hs:v.stack=b::a::st) (hl:v.stack.length≤2):
  Calls Tryz.prog 59 #[.pointer (some ⟨x.gr,0,none⟩),.agg #[.int .u8 13,.int .i64 0,.int .i64 0]] w (Md B w x SA p key A {v with stack:=st,yes:=decide (a<b)}):=by
 have ha:=h.grown ((Af.refl _ w).alloc (Ab _) (.cells #[.int .u8 13,.int .i64 0,.int .i64 0] 147)) h.base
 have hp:=eA ha hs hl
 have HP:=Aa hp
 have HB:=Aa h.base
 have Ik:(a::st).length≤2:=by have:=AL List.length hs;simp only[Ac]at this ⊢;omega
 have HL:=Aa Ik
 have HG:=Aa h.gr0
 clear h ha hp hs hl Ik
 go_enter Jk,Il
 go_wp2_with fail
 refine HP.out.mono ?_
 rintro e w1 ⟨rfl,Bi,u1,sI⟩
 have Ti:=eA sI rfl HL.out
 have fj:=Aa Ti
 have Lv:=Aa Bi
 clear Ti Bi sI
 go_wp2_with fail
 refine fj.out.mono ?_
 rintro e w2 ⟨rfl,A4,u2,Ij⟩
 have c4:=Ij.row.cell 4
 have f:∀j,w2.frozen? ⟨x.gr,j,none⟩=false:=fun j=>Ij.row.frozen j
 have HR:=Aa Ij
 have Ll:=Aa A4
 clear Ij A4
 simp at c4
 go_wp2
 go_end0
 exact⟨rfl,((((Af.refl _ w).alloc HB.out _).trans Lv.out).trans Ll.out).setCell (p:=⟨x.gr,4,none⟩) HG.out _,_,HR.out.setYes _⟩
end
section
variable {B:Nat} {w:World} {x:RV} {SA:Nat→Prop} {p:AF} {key:Int} {A:Am} {v:VS}
theorem jd (h:Ci B w x SA p key A v) (ok:A.Ok) (h8:A.qs.length≤8) {n:Int} (hn:Ix A.qs.length n) (h0:Mb A n=0):
  Calls Tryz.prog 59 #[.pointer (some ⟨x.gr,0,none⟩),.agg #[.int .u8 15,.int .i64 n,.int .i64 0]] w (Md B w x SA p key A {v with yes:=false}):=by
 have ha:=h.grown ((Af.refl _ w).alloc (Ab _) (.cells #[.int .u8 15,.int .i64 n,.int .i64 0] 147)) h.base
 have VC:=ha.grown (w':=(w.alloc (.cells #[.int .u8 15,.int .i64 n,.int .i64 0] 147)).drew) (Af.refl _ _).drew ha.base
 obtain⟨m,rfl⟩:∃m:Nat,n=(m:Int):=⟨n.toNat,by unfold Ix at hn;omega⟩
 have e:A.len m=0:=by have:=h0;unfold Mb at this;rw[A3]at this;exact this
 obtain⟨vl,vf,vq,bm,JK⟩:=ha.ar
 have aC:=fun k=>(Qp (JK.drewN k) ok m (by unfold Ix at hn;omega) (by omega)).mono fun e' w' h=>(⟨by rw[h.1,e];rfl,h.2.symm⟩:e'= .returned (.int .i64 0)∧w'=(w.alloc (.cells #[.int .u8 15,.int .i64 m,.int .i64 0] 147)).drewN k)
 have c1:=h.row.cell 1
 have c4:=h.row.cell 4
 have f:=fun j=>h.row.frozen j
 have s0:=h.srow.cell 0
 have r1:=h.row.lt
 have r2:=h.srow.lt
 have q1:¬x.gr=w.heap.size:=by omega
 have q2:¬x.gs=w.heap.size:=by omega
 have ma:=fun k=>(ha.grown (w':=(w.alloc (.cells #[.int .u8 15,.int .i64 m,.int .i64 0] 147)).drewN k) ((Af.refl _ _).drewN k) ha.base).setYes false
 have HL:=Aa aC
 have HB:=Aa h.base
 have HG:=Aa h.gr0
 have HY:=Aa ma
 clear h ha VC e hn JK aC ok h8 h0 ma
 simp at c1 s0 c4
 go_enter Jk,Il
 go_wp2_with fail
 refine GQ 33 (by kernel_rfl) (by kernel_rfl) ?_
 simp only[Aw,AO,Ax,AK]
 repeat (go_big_quiet_step ((go_at_call 99;exact Ep (HL.out _))))
 refine Id ?_
 intro nq
 go_wp2
 go_end0
 exact⟨rfl,(((Af.refl _ w).alloc HB.out _).drewN _).setCell (p:=⟨x.gr,4,none⟩) HG.out _,_,HY.out _⟩
theorem jc (h:Ci B w x SA p key A v) (ok:A.Ok) (h8:A.qs.length≤8) {n:Int} (hn:Ix A.qs.length n) (h0:0<Mb A n):
  Calls Tryz.prog 59 #[.pointer (some ⟨x.gr,0,none⟩),.agg #[.int .u8 15,.int .i64 n,.int .i64 0]] w (Md B w x SA p key A {v with yes:=decide (0<A.freqOf (A.tail n.toNat))}):=by
 have ha:=h.grown ((Af.refl _ w).alloc (Ab _) (.cells #[.int .u8 15,.int .i64 n,.int .i64 0] 147)) h.base
 have VC:=ha.grown (w':=(w.alloc (.cells #[.int .u8 15,.int .i64 n,.int .i64 0] 147)).drew) (Af.refl _ _).drew ha.base
 obtain⟨m,rfl⟩:∃m:Nat,n=(m:Int):=⟨n.toNat,by unfold Ix at hn;omega⟩
 rw[A3]
 have e:0<A.len m:=by have:=h0;unfold Mb at this;rw[A3]at this;exact this
 have KY:m<A.qs.length:=by unfold Ix at hn;omega
 obtain⟨vl,vf,vq,bm,JK⟩:=ha.ar
 have aC:=fun k=>(Qp (JK.drewN k) ok m KY (by omega)).mono fun e' w' h=>(⟨h.1,h.2.symm⟩:e'= .returned (.int .i64 (A.len m))∧w'=(w.alloc (.cells #[.int .u8 15,.int .i64 m,.int .i64 0] 147)).drewN k)
 have Kv:=fun k=>Yv (JK.drewN k) ok m KY (by omega)
 have Zx:=fun k=>(ZB (JK.drewN k) ok (A.tail m)).mono fun e' w' h=>(⟨h.1,h.2.symm⟩:e'= .returned (.int .i64 (A.freqOf (A.tail m)))∧w'=(w.alloc (.cells #[.int .u8 15,.int .i64 m,.int .i64 0] 147)).drewN k)
 have c1:=h.row.cell 1
 have c4:=h.row.cell 4
 have f:=fun j=>h.row.frozen j
 have s0:=h.srow.cell 0
 have r1:=h.row.lt
 have r2:=h.srow.lt
 have q1:¬x.gr=w.heap.size:=by omega
 have q2:¬x.gs=w.heap.size:=by omega
 have ma:=fun k=>(ha.grown (w':=(w.alloc (.cells #[.int .u8 15,.int .i64 m,.int .i64 0] 147)).drewN k) ((Af.refl _ _).drewN k) ha.base).setYes (decide (0<A.freqOf (A.tail m)))
 generalize A.freqOf (A.tail m)=F at*
 generalize A.tail m=T at*
 have ed:decide ((A.len m:Int)>0)=true:=by simp;omega
 generalize A.len m=L at*
 have HL:=Aa aC
 have HT:=Aa Kv
 have HF:=Aa Zx
 have HB:=Aa h.base
 have HG:=Aa h.gr0
 have HY:=Aa ma
 clear h ha VC hn JK aC Kv Zx ok h8 h0 ma KY
 simp at c1 s0 c4
 have el:(0:Int)<L:=by omega
 go_enter Jk,Il
 go_wp2_with fail
 refine GQ 33 (by kernel_rfl) (by kernel_rfl) ?_
 simp only[Aw,AO,Ax,AK]
 repeat (go_big_quiet_step (first|(go_at_call 99;exact Ep (HL.out _))|(go_at_call 103;exact rW (HT.out _))|(go_at_call 100;exact Ep (HF.out _))))
 refine Id ?_
 intro nq
 go_wp2
 go_end0
 exact⟨rfl,(((Af.refl _ w).alloc HB.out _).drewN _).setCell (p:=⟨x.gr,4,none⟩) HG.out _,_,HY.out _⟩
end
section
variable {B:Nat} {ea:Nat→Addr} {w:World} {x:RV} {SA:Nat→Prop} {p:AF} {key:Int} {A:Am} {ns:List (List Nat)} {v:VS}
theorem Ci.at_ (h:Ci B w x SA p key A v) (n:Nat):Ci B w x SA p key A {v with pc:=n}:=
 ⟨h.ro,h.row,h.srow,h.stack,h.loops,h.out,h.vars,h.ar,h.gr0,h.gs0,h.sa,h.sr,h.ss,h.s1,h.s2,h.s3,h.s4,h.a1,h.a2,h.a3⟩
theorem nk (h:Ci B w x SA p key A v) (he:Se B ea w) (hp:EO p) (hA:CM A ns v.r.s.q) (hS:Hc p v.r.s) (hg:v.r.gone.length<Df) {y:D9} (hy:J2 p.decls y):
  Calls Tryz.prog 60 #[.pointer (some ⟨x.gr,0,none⟩),.agg (Cr (.prim y)).toArray] w (Pp B ea w x p key v (Jc p key y ⟨A,v.r.s.vars,v.r.gone⟩)):=by
 have KY:A.qs.length=p.decls.length:=by rw[←hA.qlen,hS.q]
 have h8:=hp.decls.len
 cases y with
 |put q tl=>
  have:=ws h he h8 hg tl hy.1 hy.2 (Qo hA hS hp key)
  cases tl<;>exact this
 |evict q=>exact Xu h he hp hg (y:=.evict q) hy rfl hy hA.ok KY (fun _=>Qo hA hS hp _)
 |cool q=>exact Xu h he hp hg (y:=.cool q) hy rfl hy hA.ok KY (fun _=>Qo hA hS hp _)
 |shift q t tl=>
  have:=Xu h he hp hg (y:=.shift q t tl) hy rfl hy.1 hA.ok KY (fun _=>Qo hA hS hp _)
  cases tl<;>exact this
 |inc n=>
  obtain⟨z,y1,y2,y3,y4⟩:=PY hS hy
  have g0:0≤v.r.s.var n:=by rw[y2];exact y3
  have g9:v.r.s.var n≤99:=by have:=(Uh hp hy).2.1;rw[y2];omega
  exact nj (by_:=1) (n:=n) h h8 hS.v hy (.inl rfl) g0 g9 (Uh hp hy).2.1
 |dec n=>
  obtain⟨z,y1,y2,y3,y4⟩:=PY hS hy
  have g0:0≤v.r.s.var n:=by rw[y2];exact y3
  have g9:v.r.s.var n≤99:=by have:=(Uh hp hy).2.1;rw[y2];omega
  exact nj (by_:= -1) (n:=n) h h8 hS.v hy (.inr rfl) g0 g9 (Uh hp hy).2.1
 |drop=>exact qS h h8 hg (Qo hA hS hp key)
 |bump=>exact qT h hp hA.ok
def Afj (B:Nat) (ea:Nat→Addr) (w:World) (x:RV) (p:AF) (key:Int) (v:VS) (res:Except Nat GK) (e:Ending) (w':World):Prop:=
 Af (fun b=>B≤b) w w'∧match res with
  | .error k=>e= .returned (Dn ea k)
  | .ok r'=>e= .returned .nilIface∧∃PJ u A' Pc,Ci B w' {x with vou:=u} PJ p key A' {v with r:=r'}∧CM A' Pc r'.s.q∧Hc p r'.s
theorem qR (h:Ci B w x SA p key A v) (he:Se B ea w) (hp:EO p) (hA:CM A ns v.r.s.q) (hS:Hc p v.r.s) (hg:v.r.gone.length<Df) {y:D9} (hy:J2 p.decls y):
  Calls Tryz.prog 60 #[.pointer (some ⟨x.gr,0,none⟩),.agg (Cr (.prim y)).toArray] w (Afj B ea w x p key v (prim p key y v.r)):=by
 have CP:=ez hA hS hp key y hy v.r.gone
 refine(nk h he hp hA hS hg hy).mono ?_
 rintro e w' ⟨hk,hr⟩
 refine⟨hk,?_⟩
 have er:(⟨v.r.s,v.r.gone⟩:GK)=v.r:=rfl
 rw[er]at CP
 cases hx:prim p key y v.r with
 |error k=>
  rw[hx]at CP
  simp only at CP
  rw[CP]at hr
  exact hr
 |ok r'=>
  rw[hx]at CP
  obtain⟨A',Pc,h1,h2,h3⟩:=CP
  rw[h1]at hr
  obtain⟨he',PJ,u,hR⟩:=hr
  refine⟨he',PJ,u,A',Pc,?_,h2,h3⟩
  exact⟨hR.ro,hR.row,hR.srow,hR.stack,hR.loops,hR.out,hR.vars,hR.ar,hR.gr0,hR.gs0,hR.sa,hR.sr,hR.ss,hR.s1,hR.s2,hR.s3,hR.s4,hR.a1,hR.a2,hR.a3⟩
def Wp:Gl→Bool
 | .num _=>true
 | .var _=>true
 | .len _=>true
 | .freq=>true
 | .less=>true
 | .full _=>true
 | .warm _=>true
 | .not=>true
 |_=>false
theorem rr (h:Ci B w x SA p key A v) (hp:EO p) (hA:CM A ns v.r.s.q) (hS:Hc p v.r.s) (hl:v.stack.length≤2) {i:Gl} (hi:Wp i=true) {v':VS} (hv:El p key v i=some (.inl v')):
  Calls Tryz.prog 59 #[.pointer (some ⟨x.gr,0,none⟩),.agg (Cr i).toArray] w (Md B w x SA p key A v')∧v'.pc=v.pc+1∧v'.r=v.r∧v'.loops=v.loops∧v'.stack.length≤2:=by
 have KY:A.qs.length=p.decls.length:=by rw[←hA.qlen,hS.q]
 have h8:=hp.decls.len
 have CP:(⟨v.r.s.q,v.r.s.vars⟩:St)=v.r.s:=rfl
 cases i with
 |num n=>
  simp only[El]at hv
  split at hv
  ·injection hv with hv;injection hv with hv;subst hv
   rename_i h1
   exact⟨rj (h.at_ (v.pc+1)) h1 n,rfl,rfl,rfl,by simp;omega⟩
  ·cases hv
 |var n=>
  simp only[El]at hv
  split at hv
  ·injection hv with hv;injection hv with hv;subst hv
   rename_i h1
   have hvl:v.r.s.vars.length=p.decls.length:=hS.v
   exact⟨ri (h.at_ (v.pc+1)) h1.2 (by show v.r.s.vars.length≤8;omega) (by show Ix v.r.s.vars.length n;rw[hvl];exact h1.1),rfl,rfl,rfl,by have:=h1.2;simp;omega⟩
  ·cases hv
 |len n=>
  simp only[El]at hv
  split at hv
  ·injection hv with hv;injection hv with hv;subst hv
   rename_i h1
   have hq:Ix v.r.s.q.length n:=by rw[hS.q];exact h1.1
   have e:=Na (s:=v.r.s) hA hq
   have:=rn (h.at_ (v.pc+1)) h1.2 hA.ok (by omega) (n:=n) (by rw[KY];exact h1.1)
   rw[e]at this
   exact⟨this,rfl,rfl,rfl,by have:=h1.2;simp;omega⟩
  ·cases hv
 |freq=>
  simp only[El]at hv
  split at hv
  ·injection hv with hv;injection hv with hv;subst hv
   rename_i h1
   have e:=hA.freq_ v.r.s.vars key
   rw[CP]at e
   have:=nF (h.at_ (v.pc+1)) h1 hA.ok
   rw[e]at this
   exact⟨this,rfl,rfl,rfl,by simp;omega⟩
  ·cases hv
 |less=>
  simp only[El]at hv
  split at hv
  ·injection hv with hv;injection hv with hv;subst hv
   rename_i b a st hs
   have Mh:v.stack.length=st.length+2:=by rw[hs];rfl
   exact⟨nC (h.at_ (v.pc+1)) hs hl,rfl,rfl,rfl,by simp;omega⟩
  ·cases hv
 |full n=>
  simp only[El]at hv
  split at hv
  ·injection hv with hv;injection hv with hv;subst hv
   rename_i h1
   have hq:Ix v.r.s.q.length n:=by rw[hS.q];exact h1
   have e:=Na (s:=v.r.s) hA hq
   have:=nD (h.at_ (v.pc+1)) hA.ok h8 KY h1
   unfold Lg at this
   rw[e]at this
   exact⟨this,rfl,rfl,rfl,hl⟩
  ·cases hv
 |warm n=>
  simp only[El]at hv
  split at hv
  ·injection hv with hv;injection hv with hv;subst hv
   rename_i h1
   have hq:Ix v.r.s.q.length n:=by rw[hS.q];exact h1
   have vG:Ix A.qs.length n:=by rw[KY];exact h1
   have e:=Na (s:=v.r.s) hA hq
   by_cases h0:Mb A n=0
   ·have:=jd (h.at_ (v.pc+1)) hA.ok (by omega) vG h0
    have e2:(decide (0<(v.r.s.queue n).length)&&decide (0<(CA (v.r.s.queue n)).freq))=false:=by
     rw[←e,h0];rfl
    rw[e2]
    exact⟨this,rfl,rfl,rfl,hl⟩
   ·have:=jc (h.at_ (v.pc+1)) hA.ok (by omega) vG (by omega)
    have Cu:v.r.s.queue n≠ []:=by intro e3;rw[e3]at e;exact h0 e
    have hk:n.toNat<A.qs.length:=by unfold Ix at vG;omega
    have hn:((n.toNat:Nat):Int)=n:=by have:=h1.1;omega
    have ht:=hA.tail_ v.r.s.vars hk (by rw[CP,hn];exact Cu)
    rw[CP,hn]at ht
    have hf:=hA.freq_ v.r.s.vars (A.tail n.toNat)
    rw[CP]at hf
    have eQ:=hA.find_tail v.r.s.vars hk (by rw[CP,hn];exact Cu)
    rw[CP,hn,←ht]at eQ
    have e2:freqOf v.r.s (A.tail n.toNat)=(CA (v.r.s.queue n)).freq:=by
     unfold freqOf
     rw[eQ]
     simp only
     rw[hn]
     rfl
    rw[hf,e2]at this
    have e4:(decide (0<(v.r.s.queue n).length)&&decide (0<(CA (v.r.s.queue n)).freq))=decide (0<(CA (v.r.s.queue n)).freq):=by
     rw[←e,OT (by omega)];rfl
    rw[e4]
    exact⟨this,rfl,rfl,rfl,hl⟩
  ·cases hv
 |not=>
  simp only[El]at hv
  injection hv with hv;injection hv with hv;subst hv
  exact⟨rk (h.at_ (v.pc+1)),rfl,rfl,rfl,hl⟩
 |_=>cases hi
end
end Go.Proofs.YtemppijblfflgaaGreatDoor.Ev
namespace Go.Proofs.YtemppijblfflgaaGreatDoor.Ev
open Go
theorem NE {P:Program} {a:Act} {w:World} {Q:Exit→Act→World→Prop} {c X:Code} (l:Nat) (J:Nat→Act→World→Prop) (hf:findLabel c l=some (Code.skip.seq X))
  (first:(∀k a w,J k a w→X.wp P (Exit.jump l (fun a' w'=>∃k',J k' a' w') Q) a w)→c.wp P (Exit.jump l (fun a' w'=>∃k',J k' a' w') Q) a w)
  (pass:∀k a w,J k a w→X.wp P (Exit.jump l (fun a' w'=>∃k',k'<k∧J k' a' w') Q) a w):(Code.scope c).wp P Q a w:=by
 have first:=first fun k a w hJ=>Code.wp_mono (fun e a w h=>by
  cases e with
  |goto l'=>obtain⟨h1,k',_,h2⟩:=h;exact⟨h1,k',h2⟩
  |_=>exact h) (pass k a w hJ)
 have pass:∀k a w,J k a w→(Code.skip.seq X).wp P (Exit.jump l (fun a' w'=>∃k',k'<k∧J k' a' w') Q) a w:=fun k a w h=>wp_seq (wp_skip (pass k a w h))
 intro b k cs
 have hg:gotoIn l (.inScope c::k)=some (.code (Code.skip.seq X):: .inScope c::k):=by simp[gotoIn,hf]
 have key:∀n a w,J n a w→∃e a' w',Q e a' w'∧Arrives P (lone (b.at a (.code (Code.skip.seq X):: .inScope c::k)) cs w) b k cs e a' w':=by
  intro n
  induction n using Nat.strongRecOn with
  |_ n ih=>
   intro a w hJ
   obtain⟨e,a₁,w₁,hq,RJ⟩:=pass n a w hJ b (.inScope c::k) cs
   cases e with
   |normal=>exact⟨.normal,a₁,w₁,hq,Steps.trans RJ (.one step_inScope)⟩
   |exit id=>exact⟨.exit id,a₁,w₁,hq,fun k' hk=>RJ k' (by simp[exitTo,hk])⟩
   |goto l'=>
    obtain⟨rfl,n',Cy,hJ'⟩:=hq
    obtain⟨e₂,a₂,w₂,hq₂,mM⟩:=ih n' Cy a₁ w₁ hJ'
    exact⟨e₂,a₂,w₂,hq₂,.of_steps (RJ _ hg) mM⟩
   |ret=>exact⟨_,a₁,w₁,hq,RJ⟩
   |panic ch=>exact⟨_,a₁,w₁,hq,RJ⟩
   |outgrown=>exact⟨_,a₁,w₁,hq,RJ⟩
 obtain⟨e,a₁,w₁,hq,RJ⟩:=first b (.inScope c::k) cs
 cases e with
 |normal=>exact⟨.normal,a₁,w₁,hq,.head SO (Steps.trans RJ (.one step_inScope))⟩
 |exit id=>exact⟨.exit id,a₁,w₁,hq,fun k' hk=>.head SO (RJ k' (by simp[exitTo,hk]))⟩
 |goto l'=>
  obtain⟨rfl,n',hJ'⟩:=hq
  obtain⟨e₂,a₂,w₂,hq₂,mM⟩:=key n' a₁ w₁ hJ'
  exact⟨e₂,a₂,w₂,hq₂,.of_steps (.head SO (RJ _ hg)) mM⟩
 |ret=>exact⟨_,a₁,w₁,hq,.of_steps (.one SO) RJ⟩
 |panic ch=>exact⟨_,a₁,w₁,hq,.of_steps (.one SO) RJ⟩
 |outgrown=>exact⟨_,a₁,w₁,hq,.of_steps (.one SO) RJ⟩
theorem Kj (a:Act) (F:(Nat→Value)→Act) (h:a=F (fun i=>a.tmps.getD i undef)):∃u,a=F u:=⟨_,h⟩
end Go.Proofs.YtemppijblfflgaaGreatDoor.Ev
namespace Go.Proofs.YtemppijblfflgaaGreatDoor.Ev
open Go Go.RowKit
structure tE (B:Nat) (w:World) (gs ga:Nat) (vva:Value) (SA:Nat→Prop) (A:Am) (vars:List Int):Prop where
 srow:AM w gs 72 [.pointer (some ⟨ga,0,none⟩),vva]
 vars:Sl (fun b=>B≤b) w 3 1 vva vars.length (vars.map L6)
 ar:∃vl vf vq bm,BL SA w ga A vl vf vq bm
 gs0:B≤gs
 sa:∀b,SA b→B≤b∧b<w.heap.size
 ss:¬SA gs
 s4:∀b,vva.ownBlock=some b→¬SA b
section
variable {B:Nat} {ea:Nat→Addr} {w:World} {x:RV} {SA:Nat→Prop} {p:AF} {key:Int} {A:Am} {ns:List (List Nat)} {v:VS}
theorem Ci.state (h:Ci B w x SA p key A v):tE B w x.gs x.ga x.vva SA A v.r.s.vars:=⟨h.srow,h.vars,h.ar,h.gs0,h.sa,h.ss,h.s4⟩
theorem Ci.setLoop (h:Ci B w x SA p key A v) {g cap:Nat} (e:x.vlo= .slice (some ⟨g,0,none⟩) v.loops.length cap) (c:Nat) (n:Int):
  Ci B (w.setCell ⟨g,c,none⟩ (.int .i64 n)) x SA p key A {v with loops:=v.loops.set c n}:=by
 have hs:=h.loops.set1 L6 (i:=c) e n
 have k3:Af (fun b=>b=g) w (w.setCell ⟨g,c,none⟩ (.int .i64 n)):=Af.one _ ⟨g,c,none⟩ _
 have NZ:x.vlo.ownBlock=some g:=by rw[e];rfl
 obtain⟨vl,vf,vq,bm,JK⟩:=h.ar
 exact⟨h.ro.kept k3 (fun b hb=>hb▸h.loops.2 g NZ),h.row.kept k3 (fun e=>h.loops.ne_row h.row (by decide) (e▸NZ)),h.srow.kept k3 (fun e=>h.loops.ne_row h.srow (by decide) (e▸NZ)),h.stack.kept k3 (fun b hb e=>h.a1 b hb (e▸NZ)),hs,
  h.out.kept k3 (fun b hb e=>h.loops.apart_ne h.out (by decide) b (e▸NZ) hb),h.vars.kept k3 (fun b hb e=>h.a3 b (e▸NZ) hb),⟨vl,vf,vq,bm,JK.kept k3 (fun b hb e=>h.s2 b (e▸NZ) hb)⟩,h.gr0,h.gs0,
  fun b hb=>⟨(h.sa b hb).1,AD (h.sa b hb).2 k3.size⟩,h.sr,h.ss,h.s1,h.s2,h.s3,h.s4,h.a1,h.a2,h.a3⟩
def dA (B:Nat) (ea:Nat→Addr) (w0:World) (gs:Nat) (p:AF) (res:Except Nat GK) (e:Ending) (w':World):Prop:=
 Af (fun b=>B≤b) w0 w'∧match res with
  | .error k=>e= .returned (.tuple #[.slice none 0 0,Dn ea k])
  | .ok r=>∃vou ga vva SA A ns,e= .returned (.tuple #[vou,.nilIface])∧tE B w' gs ga vva SA A r.s.vars∧CM A ns r.s.q∧Hc p r.s∧
    Sl (fun b=>B≤b) w' 27 1 vou r.gone.length (r.gone.map UJ)∧(∀b,vou.ownBlock=some b→¬SA b∧b≠gs∧vva.ownBlock≠some b)
def TW (gg gs gr gl n cap pc:Nat) (ev key:Int) (u:Nat→Value):Act:=
 {tmps:=#[.pointer (some ⟨gg,0,none⟩),.pointer (some ⟨gs,0,none⟩),.int .i64 ev,.int .u64 key,u 4,u 5,u 6,u 7,.slice none 0 0,.nilIface,.slice (some ⟨gl,0,none⟩) n cap,.bool true,.pointer (some ⟨gr,0,none⟩),.int .i64 pc,u 14,u 15,u 16,u 17,u 18,u 19,u 20,u 21,u 22,u 23,u 24,u 25,u 26,u 27,u 28,u 29,u 30,u 31,u 32,u 33,u 34,u 35,u 36,u 37,u 38,u 39,u 40,u 41,u 42,u 43,u 44,u 45,u 46,u 47,u 48,u 49,u 50,u 51,u 52,u 53,u 54,u 55,u 56,u 57,u 58,u 59,u 60,u 61,u 62,u 63,u 64,u 65,u 66,u 67,u 68,u 69,u 70,u 71,u 72,u 73,u 74,u 75,u 76,u 77,u 78,u 79,u 80,u 81,u 82,u 83,u 84,u 85,u 86,u 87,u 88,u 89,u 90,u 91,u 92,u 93,u 94,u 95,u 96,u 97,u 98,u 99,u 100,u 101,u 102,u 103,u 104,u 105,u 106,u 107,u 108,u 109],defers:=[]}
def Afg (B:Nat) (ea:Nat→Addr) (w0:World) (x:RV) (p:AF) (ev key:Int) (code:List Gl) (gl cap:Nat) (res:Except Nat GK) (k:Nat) (a:Act) (w:World):Prop:=
 ∃(v:VS) (st ou:Value) (SA:Nat→Prop) (A:Am) (ns:List (List Nat)),(∃u,a=TW x.gg x.gs x.gr gl code.length cap v.pc ev key u)∧TC p key code k v=some res∧
  Ci B w {x with vst:=st,vou:=ou} SA p key A v∧CM A ns v.r.s.q∧Hc p v.r.s∧v.stack.length≤2∧(∀n∈v.loops,0≤n∧n≤50)∧Af (fun b=>B≤b) w0 w
end
end Go.Proofs.YtemppijblfflgaaGreatDoor.Ev
namespace Go.Proofs.YtemppijblfflgaaGreatDoor.Ev
theorem Iy {p:AF} {key:Int} (P:GK→Prop) (hP:∀x r r',J2 p.decls x→P r→prim p key x r= .ok r'→P r'):∀(b:AC) (r r':GK),ME p.decls b→P r→exec p key b r= .ok r'→P r'
 | .nil,r,r',_,h,e=>by rw[exec]at e;injection e with e;rw[←e];exact h
 | .prim x b,r,r',hb,h,e=>by
  rw[exec]at e
  split at e
  ·rename_i r1 e1
   exact Iy P hP b r1 r' hb.2 (hP x r r1 hb.1 h e1) e
  ·cases e
 | .ite c t o el b,r,r',⟨_,h1,h2,h3,_⟩,h,e=>by
  rw[exec]at e
  split at e
  ·rename_i r1 e1
   refine Iy P hP b r1 r' h3 ?_ e
   split at e1
   ·exact Iy P hP t r r1 h1 h e1
   ·split at e1
    ·exact Iy P hP el r r1 h2 h e1
    ·injection e1 with e1;rw[←e1];exact h
  ·cases e
 | .rep n c x b,r,r',⟨_,h1,h2,_⟩,h,e=>by
  rw[exec]at e
  split at e
  ·rename_i r1 e1
   refine Iy P hP b r1 r' h2 ?_ e
   have lp:∀(m:Nat) (r r1:GK),P r→IV (fun s=>CW p.decls key s c) (exec p key x) m r= .ok r1→P r1:=by
    intro m
    induction m with
    |zero=>intro r r1 h e;rw[IV]at e;injection e with e;rw[←e];exact h
    |succ m ih=>
     intro r r1 h e
     rw[IV]at e
     split at e
     ·split at e
      ·rename_i r2 e2
       exact ih r2 r1 (Iy P hP x r r2 h1 h e2) e
      ·cases e
     ·injection e with e;rw[←e];exact h
   exact lp _ _ _ h e1
  ·cases e
def Oo (s:St) (i:Nat) (x:Int):Prop:=∃l,s.q[i]?=some l∧x∈l.map (·.key)
theorem Qi {key:Int}:∀{L:List Lo} {i j:Nat},Hm key L i=some j→i≤j∧∃e,L[j-i]?=some e∧e.key=key
 | [],_,_,h=>by cases h
 |e::L,i,j,h=>by
  unfold Hm at h
  split at h
  ·rename_i hk
   injection h with h
   subst h
   exact⟨Ab _,e,by simp,hk⟩
  ·obtain⟨h1,x,h2,h3⟩:=Qi h
   refine⟨by omega,x,?_,h3⟩
   have:j-i=(j-(i+1))+1:=by omega
   rw[this]
   exact h2
theorem PX {key:Int}:∀{q:List (List Lo)} {a k i:Nat},Hi key q a=some (k,i)→a≤k∧∃l e,q[k-a]?=some l∧l[i]?=some e∧e.key=key
 | [],_,_,_,h=>by cases h
 |l::q,a,k,i,h=>by
  unfold Hi at h
  split at h
  ·rename_i j hj
   injection h with h
   injection h with h1 h2
   subst h1 h2
   obtain⟨_,e,h3,h4⟩:=Qi hj
   exact⟨Ab _,l,e,by simp,h3,h4⟩
  ·obtain⟨h1,l',e,h2,h3⟩:=PX h
   refine⟨by omega,l',e,?_,h3⟩
   have:k-a=(k-(a+1))+1:=by omega
   rw[this]
   exact h2
theorem Xs {s:St} {key:Int} {k i:Nat} (h:s.find key=some (k,i)):∃l e,s.q[k]?=some l∧l[i]?=some e∧e.key=key∧s.queue (k:Int)=l∧Ey (s.queue (k:Int)) i=e:=by
 obtain⟨_,l,e,h1,h2,h3⟩:=PX h
 rw[Nat.sub_zero]at h1
 have hq:s.queue (k:Int)=l:=by unfold St.queue;simp[h1]
 exact⟨l,e,h1,h2,h3,hq,by unfold Ey;rw[hq,h2];rfl⟩
theorem mV {s:St} {key:Int} {k i:Nat} (h:s.find key=some (k,i)):Oo s k key:=by
 obtain⟨l,e,h1,h2,h3,_⟩:=Xs h
 exact⟨l,h1,AT.2 ⟨e,A7 h2,h3⟩⟩
theorem qL {α:Type} {l:List α} {k j:Nat} {x y:α} (h:(l.set k x)[j]?=some y):(j=k∧k<l.length∧y=x)∨(j≠k∧l[j]?=some y):=by
 rw[Bp]at h
 split at h
 ·rename_i e
  split at h
  ·injection h with h
   exact .inl ⟨e.symm,by assumption,h.symm⟩
  ·cases h
 ·rename_i e
  exact .inr ⟨fun e'=>e e'.symm,h⟩
theorem UV {s:St} {k:Nat} {l l':List Lo} (hk:s.q[k]?=some l) (j:Nat) (x:Int):
  Oo {s with q:=s.q.set k l'} j x↔(j=k∧x∈l'.map (·.key))∨(j≠k∧Oo s j x):=by
 have Cy:=(Ap.1 hk).1
 constructor
 ·rintro⟨m,h1,h2⟩
  rcases qL h1 with⟨e,_,rfl⟩|⟨e,h3⟩
  ·exact .inl ⟨e,h2⟩
  ·exact .inr ⟨e,m,h3,h2⟩
 ·rintro(⟨rfl,h⟩|⟨e,m,h1,h2⟩)
  ·exact⟨l',by rw[Bp,Ak rfl,Ak Cy],h⟩
  ·exact⟨m,by rw[E8 (fun e'=>e e'.symm)];exact h1,h2⟩
structure XP (p:AF) (key:Int) (s0:St) (r:GK):Prop where
 inv:∃A ns,CM A ns r.s.q
 si:Hc p r.s
 told:∀(i:Nat) x,Bl p.decls (i:Int)=true→Oo s0 i x→(∃j:Nat,Bl p.decls (j:Int)=true∧Oo r.s j x)∨x∈r.gone
 old:∀j x,Oo r.s j x→x=key∨∃i,Oo s0 i x
 nov:∀(j:Nat) x,Oo r.s j x→(Au p.decls (j:Int)).kind≠2
theorem Ug {l:List Lo} {i:Nat} {x:Int} (h:x∈(l.eraseIdx i).map (·.key)):x∈l.map (·.key):=by
 obtain⟨e,h1,h2⟩:=AT.1 h
 exact AT.2 ⟨e,Rf h1,h2⟩
theorem SR {l:List Lo} {i:Nat} {e:Lo} {x:Int} (he:l[i]?=some e) (hx:x∈l.map (·.key)):x=e.key∨x∈(l.eraseIdx i).map (·.key):=by
 obtain⟨y,h1,h2⟩:=AT.1 hx
 obtain⟨j,hj⟩:=Jn h1
 by_cases hij:j=i
 ·subst hij
  rw[he]at hj
  injection hj with hj
  left
  rw[←h2,←hj]
 ·right
  refine AT.2 ⟨y,?_,h2⟩
  rw[List.mem_eraseIdx_iff_getElem?]
  exact⟨j,hij,hj⟩
theorem bC {s:St} {k i:Nat} {l:List Lo} {e:Lo} (hk:s.q[k]?=some l) (he:l[i]?=some e) (j:Nat) (x:Int):
  (Oo (s.out k i) j x→Oo s j x)∧(Oo s j x→Oo (s.out k i) j x∨(j=k∧x=e.key)):=by
 have ho:s.out k i={s with q:=s.q.set k (l.eraseIdx i)}:=by unfold St.out;rw[hk];rfl
 rw[ho]
 constructor
 ·intro h
  rcases(UV hk j x).1 h with⟨rfl,h1⟩|⟨_,h1⟩
  ·exact⟨l,hk,Ug h1⟩
  ·exact h1
 ·intro h
  by_cases hj:j=k
  ·subst hj
   obtain⟨m,h1,h2⟩:=h
   rw[hk]at h1
   injection h1 with h1
   subst h1
   rcases SR he h2 with h3|h3
   ·exact .inr ⟨rfl,h3⟩
   ·exact .inl ((UV hk j x).2 (.inl ⟨rfl,h3⟩))
  ·exact .inl ((UV hk j x).2 (.inr ⟨hj,h⟩))
theorem UT {l:List Bf} {e:Lo} {f t:Int} {tl:Bool} {r r':GK} (h:Nm l e f t tl r= .ok r') (ht:Ix r.s.q.length t):
  (∀(j:Nat) x,Oo r'.s j x↔Oo r.s j x∨(j=t.toNat∧x=e.key))∧r'.gone=(if Bl l t then r.gone else if Bl l f then r.gone++[e.key]else r.gone):=by
 obtain⟨h1,h2⟩:=ht
 have Cy:t.toNat<r.s.q.length:=by omega
 have hk:r.s.q[t.toNat]?=some (r.s.queue t):=by unfold St.queue;rw[Ah Cy];rfl
 unfold Nm at h
 split at h
 ·cases h
 ·injection h with h
  have hs:r'.s={r.s with q:=r.s.q.set t.toNat (if tl then r.s.queue t++[e]else e::r.s.queue t)}:=by
   rw[←h]
   split
   ·rfl
   ·unfold GK.leaves
    split<;>rfl
  refine⟨fun j x=>?_,?_⟩
  ·rw[hs,UV hk]
   have hm:x∈(if tl then r.s.queue t++[e]else e::r.s.queue t).map (·.key)↔x∈(r.s.queue t).map (·.key)∨x=e.key:=by
    split
    ·simp
    ·simp only[Cq,Bt]
     exact or_comm
   rw[hm]
   constructor
   ·rintro(⟨a,b|b⟩|⟨a,b⟩)
    ·exact .inl ⟨_,a▸hk,b⟩
    ·exact .inr ⟨a,b⟩
    ·exact .inl b
   ·rintro(a|⟨a,b⟩)
    ·by_cases hj:j=t.toNat
     ·obtain⟨m,m1,m2⟩:=a
      rw[hj,hk]at m1
      injection m1 with m1
      subst m1
      exact .inl ⟨hj,.inl m2⟩
     ·exact .inr ⟨hj,a⟩
    ·exact .inl ⟨a,.inr b⟩
  ·rw[←h]
   split
   ·rfl
   ·unfold GK.leaves
    split<;>rfl
theorem WX (l:List Lo) (i:Nat) (f:Int):(setFreq l i f).map (·.key)=l.map (·.key):=by
 unfold setFreq
 rw[Om]
 refine Fg fun j=>?_
 rw[Bp]
 split
 ·rename_i e
  subst e
  rw[Az]
  split
  ·rename_i h
   rw[J7]at h
   rw[Ah h]
   simp[Ey,Ah h]
  ·rename_i h
   rw[J7]at h
   rw[Bq (by omega)];rfl
 ·rfl
section
variable {p:AF} {key:Int} {s0:St} {r r':GK}
theorem eV {s:St} {k:Int} (i:Nat) (f:Int) (j:Nat) (x:Int):Oo (s.setQueue k (setFreq (s.queue k) i f)) j x↔Oo s j x:=by
 unfold St.setQueue
 by_cases Cy:k.toNat<s.q.length
 ·have hk:s.q[k.toNat]?=some (s.queue k):=by unfold St.queue;rw[Ah Cy];rfl
  rw[UV hk,WX]
  constructor
  ·rintro(⟨rfl,h⟩|⟨_,h⟩)
   ·exact⟨_,hk,h⟩
   ·exact h
  ·intro h
   by_cases hj:j=k.toNat
   ·obtain⟨m,m1,m2⟩:=h
    rw[hj,hk]at m1
    injection m1 with m1
    subst m1
    exact .inl ⟨hj,m2⟩
   ·exact .inr ⟨hj,h⟩
 ·rw[List.set_eq_of_length_le (by omega)]
theorem XP.move (h:XP p key s0 r) {k i:Nat} {l:List Lo} {e:Lo} (hk:r.s.q[k]?=some l) (he:l[i]?=some e)
  (h1:∃A ns,CM A ns r'.s.q) (h2:Hc p r'.s) (tm:∀(j:Nat) x,Oo r'.s j x→Oo (r.s.out k i) j x∨(x=e.key∧(Au p.decls (j:Int)).kind≠2)) (Aed:∀(j:Nat) x,Oo (r.s.out k i) j x→Oo r'.s j x)
  (hg:∀x∈r.gone,x∈r'.gone) (Qz:(∃t:Nat,Bl p.decls (t:Int)=true∧Oo r'.s t e.key)∨(Bl p.decls (k:Int)=true→e.key∈r'.gone)):XP p key s0 r':=by
 have vV:Oo r.s k e.key:=⟨l,hk,AT.2 ⟨e,A7 he,rfl⟩⟩
 obtain⟨A,ns,hA⟩:=h.inv
 refine⟨h1,h2,fun i' x hr hx=>?_,fun j x hx=>?_,fun j x hx=>(tm j x hx).elim (fun h3=>h.nov j x ((bC hk he j x).1 h3)) (fun h3=>h3.2)⟩
 ·rcases h.told i' x hr hx with⟨j,hj,hx⟩|hx
  ·rcases(bC hk he j x).2 hx with h3|⟨h3,h4⟩
   ·exact .inl ⟨j,hj,Aed j x h3⟩
   ·rcases Qz with⟨t,ht,h5⟩|h5
    ·exact .inl ⟨t,ht,h4▸h5⟩
    ·exact .inr (h4▸h5 (h3▸hj))
  ·exact .inr (hg x hx)
 ·rcases tm j x hx with h3|h3
  ·exact h.old j x ((bC hk he j x).1 h3)
  ·rw[h3.1];exact h.old k _ vV
theorem QQ {s:St} {q:Int} (hq:Ix s.q.length q) (Cu:s.queue q≠ []):
  ∃l e,s.q[q.toNat]?=some l∧l[l.length-1]?=some e∧CA (s.queue q)=e∧s.setQueue q (s.queue q).dropLast=s.out q.toNat (l.length-1)∧s.queue q=l:=by
 obtain⟨h1,h2⟩:=hq
 have Cy:q.toNat<s.q.length:=by omega
 have hk:s.q[q.toNat]?=some (s.queue q):=by unfold St.queue;rw[Ah Cy];rfl
 have hl:(s.queue q).length-1<(s.queue q).length:=by
  have:=List.length_pos_iff.2 Cu
  omega
 refine⟨s.queue q,_,hk,Ah hl,?_,?_,rfl⟩
 ·unfold CA Ey
  rw[Ah hl];rfl
 ·unfold St.setQueue St.out
  rw[hk]
  show({s with q:=s.q.set q.toNat (s.queue q).dropLast}:St)={s with q:=s.q.set q.toNat ((s.queue q).eraseIdx ((s.queue q).length-1))}
  rw[I7]
theorem XP.step (hp:EO p) (h:XP p key s0 r) (x:D9) (hx:J2 p.decls x) (e:prim p key x r= .ok r'):XP p key s0 r':=by
 obtain⟨A,ns,hA⟩:=h.inv
 have CP:=ez hA h.si hp key x hx r.gone
 have er:(⟨r.s,r.gone⟩:GK)=r:=rfl
 rw[er,e]at CP
 obtain⟨A',Pc,_,wi,iO⟩:=CP
 have hinv:∃A ns,CM A ns r'.s.q:=⟨A',Pc,wi⟩
 have KY:=h.si.q
 have same:(∀j x,Oo r'.s j x↔Oo r.s j x)→r'.gone=r.gone→XP p key s0 r':=fun h1 h2=>
  ⟨hinv,iO,fun i y hr hy=>(h.told i y hr hy).imp (fun⟨j,a,b⟩=>⟨j,a,(h1 j y).2 b⟩) (fun hg=>h2▸hg),fun j y hy=>h.old j y ((h1 j y).1 hy),fun j y hy=>h.nov j y ((h1 j y).1 hy)⟩
 cases x with
 |inc v=>
  simp only[prim]at e
  injection e with e
  refine same (fun j y=>?_) ?_
  ·rw[←e];split<;>exact Iff.rfl
  ·rw[←e];split<;>rfl
 |dec v=>
  simp only[prim]at e
  injection e with e
  refine same (fun j y=>?_) ?_
  ·rw[←e];split<;>exact Iff.rfl
  ·rw[←e];split<;>rfl
 |bump=>
  simp only[prim]at e
  split at e
  ·injection e with e
   refine same (fun j y=>?_) ?_
   ·rw[←e]
    split
    ·exact eV _ _ _ _
    ·exact Iff.rfl
   ·rw[←e];split<;>rfl
  ·injection e with e
   exact same (fun j y=>by rw[←e]) (by rw[←e])
 |cool q=>
  simp only[prim]at e
  split at e
  ·cases e
  ·injection e with e
   refine same (fun j y=>?_) ?_
   ·rw[←e]
    split
    ·exact eV _ _ _ _
    ·exact Iff.rfl
   ·rw[←e];split<;>rfl
 |evict q=>
  simp only[prim]at e
  split at e
  ·cases e
  ·rename_i Cu
   injection e with e
   obtain⟨l,en,h1,h2,h3,h4,_⟩:=QQ (by rw[KY];exact hx) Cu
   have hq:((q.toNat:Nat):Int)=q:=by have:=hx.1;omega
   rw[h3,h4,IF]at e
   refine h.move h1 h2 hinv iO (fun j y hy=>.inl (by rw[←e]at hy;exact hy)) (fun j y hy=>by rw[←e];exact hy) (fun y hy=>?_) (.inr (fun hr=>?_))
   ·rw[←e]
    show y∈(if _ then _ else _)
    split
    ·exact CS _ hy
    ·exact hy
   ·rw[←e]
    show en.key∈(if _ then _ else _)
    rw[hq]at hr
    rw[Ak hr]
    simp
 |drop=>
  simp only[prim]at e
  split at e
  ·rename_i k i hf
   injection e with e
   obtain⟨l,en,h1,h2,h3,_,_⟩:=Xs hf
   rw[IF]at e
   refine h.move h1 h2 hinv iO (fun j y hy=>.inl (by rw[←e]at hy;exact hy)) (fun j y hy=>by rw[←e];exact hy) (fun y hy=>?_) (.inr (fun hr=>?_))
   ·rw[←e]
    show y∈(if _ then _ else _)
    split
    ·exact CS _ hy
    ·exact hy
   ·rw[←e,h3]
    show key∈(if _ then _ else _)
    rw[Ak hr]
    simp
  ·injection e with e
   exact same (fun j y=>by rw[←e]) (by rw[←e])
 |put q tl=>
  simp only[prim]at e
  split at e
  ·rename_i k i hf
   obtain⟨l,en,h1,h2,h3,_,h5⟩:=Xs hf
   rw[h5]at e
   have hlen:(r.s.out k i).q.length=r.s.q.length:=by simp[St.out]
   obtain⟨a,b⟩:=UT e (by show Ix (r.s.out k i).q.length q;rw[hlen,KY];exact hx.1)
   have hq:((q.toNat:Nat):Int)=q:=by have:=hx.1.1;omega
   refine h.move h1 h2 hinv iO (fun j y hy=>((a j y).1 hy).imp id (fun h=>⟨h.2,by rw[h.1];rw[hq];exact hx.2⟩)) (fun j y hy=>(a j y).2 (.inl hy)) (fun y hy=>?_) ?_
   ·rw[b]
    split
    ·exact hy
    ·split
     ·exact CS _ hy
     ·exact hy
   ·cases hr:Bl p.decls q with
    |true=>exact .inl ⟨q.toNat,by rw[hq];exact hr,(a _ _).2 (.inr ⟨rfl,rfl⟩)⟩
    |false=>exact .inr (fun hk=>by rw[b,hr,hk];simp)
  ·rename_i hf
   obtain⟨a,b⟩:=UT e (by rw[KY];exact hx.1)
   have hnr:Bl p.decls (-1)=false:=rfl
   refine⟨hinv,iO,fun i y hr hy=>(h.told i y hr hy).imp (fun⟨j,c,d⟩=>⟨j,c,(a j y).2 (.inl d)⟩) (fun hg=>?_),fun j y hy=>?_,fun j y hy=>?_⟩
   ·rw[b,hnr]
    split<;>exact hg
   ·rcases(a j y).1 hy with h1|⟨_,h1⟩
    ·exact h.old j y h1
    ·exact .inl h1
   ·rcases(a j y).1 hy with h1|⟨h1,_⟩
    ·exact h.nov j y h1
    ·have hq:((q.toNat:Nat):Int)=q:=by have:=hx.1.1;omega
     rw[h1,hq];exact hx.2
 |shift q t tl=>
  simp only[prim]at e
  split at e
  ·cases e
  ·rename_i Cu
   obtain⟨l,en,h1,h2,h3,h4,_⟩:=QQ (by rw[KY];exact hx.1) Cu
   have hq:((q.toNat:Nat):Int)=q:=by have:=hx.1.1;omega
   have ht:((t.toNat:Nat):Int)=t:=by have:=hx.2.1.1;omega
   rw[h3,h4]at e
   have hlen:(r.s.out q.toNat (l.length-1)).q.length=r.s.q.length:=by simp[St.out]
   obtain⟨a,b⟩:=UT e (by show Ix (r.s.out q.toNat (l.length-1)).q.length t;rw[hlen,KY];exact hx.2.1)
   refine h.move h1 h2 hinv iO (fun j y hy=>((a j y).1 hy).imp id (fun h=>⟨h.2,by rw[h.1];rw[ht];exact hx.2.2⟩)) (fun j y hy=>(a j y).2 (.inl hy)) (fun y hy=>?_) ?_
   ·rw[b]
    split
    ·exact hy
    ·split
     ·exact CS _ hy
     ·exact hy
   ·cases hr:Bl p.decls t with
    |true=>exact .inl ⟨t.toNat,by rw[ht];exact hr,(a _ _).2 (.inr ⟨rfl,rfl⟩)⟩
    |false=>exact .inr (fun hk=>by rw[hq]at hk;rw[b,hr,hk];simp)
theorem iQ (hp:EO p) {A:Am} {ns:List (List Nat)} {s:St} (hA:CM A ns s.q) (hS:Hc p s) {b:AC} (hV:∀(j:Nat) x,Oo s j x→(Au p.decls (j:Int)).kind≠2) (hb:ME p.decls b) (e:exec p key b ⟨s,[]⟩= .ok r'):XP p key s r':=
 Iy (XP p key s) (fun x r r' hx h e=>h.step hp x hx e) b ⟨s,[]⟩ r' hb ⟨⟨A,ns,hA⟩,hS,fun i x hr hx=>.inl ⟨i,hr,hx⟩,fun j x hx=>.inr ⟨j,hx⟩,hV⟩ e
end
abbrev T2:=Ae×Ae
def tk (w:Ae):T2:=(w,w)
def tN (w:Ae):T2:=(BG,w)
def tI (n:Int):T2:=(Bc,Ca n)
def P7 (l:List Bf):O0→List T2
 | .num n=>[tI n]
 | .var k=>[tN (AI l k)]
 | .len k=>[tk G2,tN (AI l k)]
 | .freq=>[tk BX]
def pp (l:List Bf):CK→List T2
 | .full k=>[tk DT,tN (AI l k)]
 | .empty k=>[tk CF,tN (AI l k)]
 | .warm k=>[tk DS,tN (AI l k)]
 | .less a b=>P7 l a++tk Eu::P7 l b
def KL (l:List Bf) (c:Da):List T2:=(if c.nots%2=1 then [tk H6]else [])++pp l c.k
def P8 (t:Bool):List T2:=if t then [tk BN]else []
def Sj (l:List Bf):D9→List T2
 | .put q t=>tk Hn::tN (AI l q)::(P8 t++[tk Ar])
 | .evict q=>[tk Db,tN (AI l q),tk Ar]
 | .cool q=>[tk Ew,tN (AI l q),tk Ar]
 | .shift q p t=>tk CN::tN (AI l q)::tN (AI l p)::(P8 t++[tk Ar])
 | .inc v=>[tk Ia,tN (AI l v),tk Ar]
 | .dec v=>[tk Ib,tN (AI l v),tk Ar]
 | .drop=>[tk EJ,tk Ar]
 | .bump=>[tk EK,tk Ar]
def Bz (l:List Bf):AC→List T2
 | .nil=>[]
 | .prim p r=>Sj l p++Bz l r
 | .ite c t o e r=>tk Iw::(KL l c++(tk Bo::(Bz l t++(tk AU::((if o then tk BH::tk Bo::(Bz l e++[tk AU])else [])++Bz l r)))))
 | .rep n c b r=>tk Bb::tI n::tk B9::(KL l c++(tk Bo::(Bz l b++(tk AU::Bz l r))))
def xW (d:Ae):Prop:=WH d∧nX d
theorem ER (d:Ae):xW (32::d):=⟨fun c h=>by injection h with h;subst h;rfl,fun c h=>by injection h with h;subst h;rfl⟩
theorem KM (d:Ae):xW (59::d):=⟨fun c h=>by injection h with h;subst h;rfl,fun c h=>by injection h with h;subst h;rfl⟩
theorem um (w d:Ae) (h:AQ.contains w=true) (h8:w.length≤8) (h1:w≠ []) (hw:∀c∈w,low c=true) (hd:WH d):Cs (w++d) [tk w] d:=by
 have:=Cs.word h1 h8 hw hd
 rw[Ak h]at this
 exact this
def rF (w:Ae):Bool:=AQ.contains w&&decide (w.length≤8)&&!w.isEmpty&&w.all low
theorem Dk {w:Ae} (h:rF w=true) {d:Ae} (hd:WH d):Cs (w++d) [tk w] d:=by
 unfold rF at h
 simp only[C3,Dc,Bool.not_eq_true',List.all_eq_true]at h
 obtain⟨⟨⟨a,b⟩,c⟩,e⟩:=h
 exact um w d a b (by rintro rfl;cases c) e hd
theorem IQ {w:Ae} (h:aa w) {d:Ae} (hd:WH d):Cs (w++d) [tN w] d:=by
 obtain⟨a,b,c,e⟩:=h
 have:=Cs.word (by rintro rfl;cases a) b c hd
 rw[Ad (fun hk=>e (Cn.1 hk))]at this
 exact this
theorem Tg {n:Int} (h0:0≤n) (h:n≤999) {d:Ae} (hd:nX d):Cs (Ca n++d) [tI n] d:=by
 obtain⟨a,b,c,_⟩:=EM h0 h
 exact Cs.num a b c hd
theorem Et {c:UInt8} (h:FJ c=true) (d:Ae):Cs (c::d) [tk [c]] d:=Cs.sign h d
theorem Dl {d d':Ae} {ts:List T2} (h:ts≠ []) (k:Cs d ts d'):Cs (32::d) ts d':=Cs.blank rfl h k
theorem aQ {d d':Ae} {ts:List T2} (h:ts≠ []) (k:Cs d ts d'):Cs (10::d) ts d':=Cs.blank rfl h k
theorem BD {a:T2} {b:List T2} {d1 d2 d3:Ae} (h:Cs d1 [a] d2) (k:Cs d2 b d3):Cs d1 (a::b) d3:=Cs.app h k
section
variable {l:List Bf} (hl:Fv l)
include hl
theorem NS {v:Bool} {k:Int} (h:DQ l v k):aa (AI l k):=by
 obtain⟨⟨a,b⟩,_⟩:=h
 have Cy:k.toNat<l.length:=by omega
 have e:Au l k=l[k.toNat]:=by unfold Au;rw[Ah Cy];rfl
 unfold AI
 rw[e]
 exact(hl.each _ (MD Cy)).name
theorem Yr {v:O0} (h:VK l v) {d:Ae} (hd:xW d):Cs (Dp l v++d) (P7 l v) d:=by
 cases v with
 |num n=>exact Tg h.1 h.2 hd.2
 |var k=>exact IQ (NS hl h) hd.1
 |len k=>
  show Cs (G2++(BE++AI l k)++d) _ d
  rw[Al,Al]
  exact BD (Dk rfl (ER _).1) (Dl (by simp) (IQ (NS hl h) hd.1))
 |freq=>exact Dk rfl hd.1
omit hl in
theorem uj (v:O0):P7 l v≠ []:=by cases v<;>simp[P7]
omit hl in
theorem ny (c:CK):pp l c≠ []:=by
 cases c with
 |less a b=>simp[pp]
 |_=>simp[pp]
omit hl in
theorem Tn (c:Da):KL l c≠ []:=by
 unfold KL
 intro h
 exact ny c.k (List.append_eq_nil_iff.1 h).2
theorem dU {c:CK} (h:XQ l c) {d:Ae} (hd:xW d):Cs (Is l c++d) (pp l c) d:=by
 have one:∀{w:Ae} {k:Int},rF w=true→DQ l false k→Cs (w++BE++AI l k++d) [tk w,tN (AI l k)] d:=by
  intro w k hw hk
  rw[Al,Al]
  exact BD (Dk hw (ER _).1) (Dl (by simp) (IQ (NS hl hk) hd.1))
 cases c with
 |full k=>exact one rfl h
 |empty k=>exact one rfl h
 |warm k=>exact one rfl h
 |less a b=>
  show Cs (Dp l a++[32,60,32]++Dp l b++d) (P7 l a++tk Eu::P7 l b) d
  rw[Al,Al]
  refine Cs.app (Yr hl h.1 (ER _)) ?_
  show Cs (32::60::32::(Dp l b++d)) _ d
  exact Dl (by simp) (BD (Et rfl _) (Dl (uj b) (Yr hl h.2 hd)))
theorem V5 {c:Da} (h:XQ l c.k) {d:Ae} (hd:xW d):Cs (CE l c++d) (KL l c) d:=by
 unfold CE KL
 split
 ·rw[Al,Al]
  exact BD (Dk rfl (ER _).1) (Dl (ny c.k) (dU hl h hd))
 ·exact dU hl h hd
omit hl in
theorem V4 (t:Bool) (d:Ae):Cs (Fj t++(59::d)) (P8 t++[tk Ar]) d:=by
 unfold Fj P8
 cases t with
 |false=>exact Et rfl d
 |true=>
  simp only[A0]
  rw[Al]
  exact Dl (by simp) (BD (Dk rfl (KM _).1) (Et rfl d))
omit hl in
theorem YE (t:Bool) (d:Ae):xW (Fj t++(59::d)):=by
 cases t with
 |false=>exact KM d
 |true=>exact ER _
theorem fQ {p:D9} (h:WG l p) (d:Ae):Cs (B8 l p++d) (Sj l p) d:=by
 have one:∀{w:Ae} {v:Bool} {k:Int},rF w=true→DQ l v k→Cs (w++BE++AI l k++Ar++d) [tk w,tN (AI l k),tk Ar] d:=by
  intro w v k hw hk
  rw[Al,Al,Al]
  exact BD (Dk hw (ER _).1) (Dl (by simp) (BD (IQ (NS hl hk) (KM _).1) (Et rfl d)))
 cases p with
 |evict q=>exact one rfl h
 |cool q=>exact one rfl h
 |inc q=>exact one rfl h
 |dec q=>exact one rfl h
 |drop=>exact BD (Dk (w:=EJ) rfl (KM _).1) (Et rfl d)
 |bump=>exact BD (Dk (w:=EK) rfl (KM _).1) (Et rfl d)
 |put q t=>
  show Cs (Hn++BE++AI l q++Fj t++Ar++d) _ d
  rw[Al,Al,Al,Al]
  exact BD (Dk rfl (ER _).1) (Dl (by simp) (BD (IQ (NS hl h) (YE t d).1) (V4 t d)))
 |shift q p t=>
  show Cs (CN++BE++AI l q++BE++AI l p++Fj t++Ar++d) _ d
  rw[Al,Al,Al,Al,Al,Al]
  exact BD (Dk rfl (ER _).1) (Dl (by simp) (BD (IQ (NS hl h.1) (ER _).1) (Dl (by simp) (BD (IQ (NS hl h.2) (YE t d).1) (V4 t d)))))
theorem Iq:∀(b:AC),EG l b→∀{ts:List T2} {d d':Ae},ts≠ []→Cs d ts d'→Cs (As l b++d) (Bz l b++ts) d'
 | .nil,_,ts,d,d',_,k=>k
 | .prim p r,h,ts,d,d',Cu,k=>by
  show Cs (32::B8 l p++As l r++d) (Sj l p++Bz l r++ts) d'
  rw[Al,Al,A8]
  refine Dl (by cases p<;>simp[Sj]) (Cs.app (fQ hl h.1 _) (Iq r h.2 Cu k))
 | .ite c t o e r,h,ts,d,d',Cu,k=>by
  have kr:=Iq r h.2.2.2 Cu k
  have ke:Cs ((if o then BE++BH++BE++(Bo++As l e++BE++AU)else [])++(As l r++d)) ((if o then tk BH::tk Bo::(Bz l e++[tk AU])else [])++(Bz l r++ts)) d':=by
   cases o with
   |false=>exact kr
   |true=>
    simp only[A0]
    have k1:Cs (32::125::(As l r++d)) (tk AU::(Bz l r++ts)) d':=Dl (by simp) (BD (Et rfl _) kr)
    have k2:=Iq e h.2.2.1 (by simp) k1
    have k3:Cs (32::(BH++(32::123::(As l e++(32::125::(As l r++d)))))) (tk BH::tk Bo::(Bz l e++(tk AU::(Bz l r++ts)))) d':=
     Dl (by simp) (BD (Dk rfl (ER _).1) (Dl (by simp) (BD (Et rfl _) k2)))
    simpa[Al,BE]using k3
  have k1:Cs (32::125::((if o then BE++BH++BE++(Bo++As l e++BE++AU)else [])++(As l r++d))) (tk AU::((if o then tk BH::tk Bo::(Bz l e++[tk AU])else [])++(Bz l r++ts))) d':=
   Dl (by simp) (BD (Et rfl _) ke)
  have k2:=Iq t h.2.1 (by simp) k1
  have k3:Cs (32::123::(As l t++(32::125::((if o then BE++BH++BE++(Bo++As l e++BE++AU)else [])++(As l r++d))))) (tk Bo::(Bz l t++(tk AU::((if o then tk BH::tk Bo::(Bz l e++[tk AU])else [])++(Bz l r++ts))))) d':=
   Dl (by simp) (BD (Et rfl _) k2)
  have k4:=Cs.app (V5 hl h.1 (ER _)) k3
  have k5:=Dl (by simp) (BD (Dk (w:=Iw) rfl (ER _).1) (Dl (by simp[Tn c]) k4))
  cases o<;>simpa[As,Bz,Al,BE]using k5
 | .rep n c b r,h,ts,d,d',Cu,k=>by
  have kr:=Iq r h.2.2.1 Cu k
  have k1:Cs (32::125::(As l r++d)) (tk AU::(Bz l r++ts)) d':=Dl (by simp) (BD (Et rfl _) kr)
  have k2:=Iq b h.2.1 (by simp) k1
  have k3:Cs (32::123::(As l b++(32::125::(As l r++d)))) (tk Bo::(Bz l b++(tk AU::(Bz l r++ts)))) d':=Dl (by simp) (BD (Et rfl _) k2)
  have k4:=Cs.app (V5 hl h.1 (ER _)) k3
  have k5:=BD (Dk (w:=B9) rfl (ER _).1) (Dl (by simp[Tn c]) k4)
  have k6:=BD (Tg (n:=n) (by have:=h.2.2.2.1;omega) (by have:=h.2.2.2.2;omega) (ER _).2) (Dl (by simp) k5)
  have k7:=Dl (by simp) (BD (Dk (w:=Bb) rfl (ER _).1) (Dl (by simp) k6))
  simpa[As,Bz,Al,BE]using k7
end
structure Dh (st st':PS):Prop where
 decls:st'.decls=st.decls
 freq:st'.freq=st.freq
 fseen:st'.fseen=st.fseen
 rules:st'.rules=st.rules
 depth:st'.depth=st.depth
 loops:st'.loops=st.loops
 wrong:st'.wrong=st.wrong
theorem Dh.refl (st:PS):Dh st st:=⟨rfl,rfl,rfl,rfl,rfl,rfl,rfl⟩
theorem Dh.trans {a b c:PS} (h:Dh a b) (k:Dh b c):Dh a c:=
 ⟨k.decls.trans h.decls,k.freq.trans h.freq,k.fseen.trans h.fseen,k.rules.trans h.rules,k.depth.trans h.depth,k.loops.trans h.loops,k.wrong.trans h.wrong⟩
theorem Dh.next (s:Ae) (st:PS):Dh st (next s st):=⟨rfl,rfl,rfl,rfl,rfl,rfl,rfl⟩
def Qm (c:Da):Da:=⟨c.k,c.nots%2⟩
def EI:AC→AC
 | .nil=>.nil
 | .prim p r=>.prim p (EI r)
 | .ite c t o e r=>.ite (Qm c) (EI t) o (EI e) (EI r)
 | .rep n c b r=>.rep n (Qm c) (EI b) (EI r)
def Ji:AC→Nat
 | .nil=>1
 | .prim _ r=>2+Ji r
 | .ite _ t _ e r=>3+Ji t+Ji e+Ji r
 | .rep _ _ b r=>3+Ji b+Ji r
theorem Qn:∀(b:AC),1≤Ji b
 | .nil=>Ab _
 | .prim _ _=>by simp only[Ji];omega
 | .ite _ _ _ _ _=>by simp only[Ji];omega
 | .rep _ _ _ _=>by simp only[Ji];omega
section
variable {s:Ae} {st:PS} {t2:T2} {ts:List T2} {d:Ae}
theorem GR {k x:Ae} (h:Ct s st ((k,x)::t2::ts) d):want s k st= .ok st.t (next s st):=by
 unfold want;rw[Ak h.1]
theorem Kc {n least most:Int} (h:Ct s st (tI n::t2::ts) d) (h0:0≤n) (h9:n≤999) (h1:least≤n) (h2:n≤most):number s least most st= .ok n (next s st):=by
 unfold number
 rw[GR h]
 have e:atoi st.t.text=n:=by rw[h.2.1];exact(EM h0 h9).2.2.2
 unfold AJ.bind
 simp only[e]
 rw[Ad (by omega)]
theorem eW {l:List Bf} (hn:(l.map (·.name)).Nodup) {k:Nat} {x:Bf} (hk:l[k]?=some x):find l x.name=(k:Int):=by
 have:∀(l:List Bf) (j k:Nat),(l.map (·.name)).Nodup→l[k]?=some x→C7 x.name l j=((j+k:Nat):Int):=by
  intro l
  induction l with
  |nil=>intro j k _ h;simp at h
  |cons y l ih=>
   intro j k hn hk
   have Zs:=BK.1 hn
   cases k with
   |zero=>simp at hk;subst hk;rw[C7,Ak rfl];rfl
   |succ k=>
    have OF:l[k]?=some x:=by simpa using hk
    have Cu:y.name≠x.name:=by
     intro e
     refine Zs.1 ?_
     show y.name∈_
     rw[e]
     exact AT.2 ⟨x,A7 OF,rfl⟩
    rw[C7,Ad Cu,ih (j+1) k Zs.2 OF]
    congr 1;omega
 have:=this l 0 k hn hk
 unfold find
 rw[this]
 simp
theorem Fu {l:List Bf} (hl:Fv l) (hd:st.decls=l) {v:Bool} {k:Int} (hk:DQ l v k) (h:Ct s st (tN (AI l k)::t2::ts) d):name s v st= .ok k (next s st):=by
 unfold name
 rw[GR h]
 obtain⟨⟨a,b⟩,c⟩:=hk
 have Cy:k.toNat<l.length:=by omega
 have hx:=Ah Cy
 have e:Au l k=l[k.toNat]:=by unfold Au;rw[hx];rfl
 have hf:find l st.t.text=k:=by
  have e1:st.t.text=AI l k:=h.2.1
  rw[e1]
  unfold AI
  rw[e,eW hl.nodup hx]
  omega
 unfold AJ.bind Ch
 have sX:(next s st).decls=l:=hd
 simp only[sX,hf]
 rw[Ad (by omega),c]
 simp
theorem Si {l:List Bf} (hl:Fv l) (hd:st.decls=l) {v:O0} (hv:VK l v) (h:Ct s st (P7 l v++t2::ts) d):∃st',value s st= .ok v st'∧Ct s st' (t2::ts) d∧Dh st st':=by
 unfold value
 cases v with
 |num n=>
  have h':Ct s st (tI n::t2::ts) d:=h
  rw[Ak (show st.t.kind=Bc from h'.1),Kc h' hv.1 (by have:=hv.2;omega) hv.1 hv.2]
  exact⟨_,rfl,h'.next,Dh.next _ _⟩
 |var k=>
  have h':Ct s st (tN (AI l k)::t2::ts) d:=h
  have hk:st.t.kind=BG:=h'.1
  rw[hk,Ad (by decide),Ad (by decide),Ad (by decide),Fu hl hd hv h']
  exact⟨_,rfl,h'.next,Dh.next _ _⟩
 |len k=>
  have h':Ct s st (tk G2::tN (AI l k)::t2::ts) d:=h
  have hk:st.t.kind=G2:=h'.1
  rw[hk,Ad (by decide),Ak rfl,Fu (st:=next s st) hl hd hv h'.next]
  exact⟨_,rfl,h'.next.next,(Dh.next _ _).trans (Dh.next _ _)⟩
 |freq=>
  have h':Ct s st (tk BX::t2::ts) d:=h
  have hk:st.t.kind=BX:=h'.1
  rw[hk,Ad (by decide),Ad (by decide),Ak rfl]
  exact⟨_,rfl,h'.next,Dh.next _ _⟩
theorem Yn (l:List Bf) (v:O0):∃x r,P7 l v=x::r∧x.1≠DT∧x.1≠CF∧x.1≠DS∧x.1≠H6:=by
 cases v with
 |num n=>exact⟨_,_,rfl,by show Bc≠DT;decide,by show Bc≠CF;decide,by show Bc≠DS;decide,by show Bc≠H6;decide⟩
 |var n=>exact⟨_,_,rfl,by show BG≠DT;decide,by show BG≠CF;decide,by show BG≠DS;decide,by show BG≠H6;decide⟩
 |len n=>exact⟨_,_,rfl,by show G2≠DT;decide,by show G2≠CF;decide,by show G2≠DS;decide,by show G2≠H6;decide⟩
 |freq=>exact⟨_,_,rfl,by show BX≠DT;decide,by show BX≠CF;decide,by show BX≠DS;decide,by show BX≠H6;decide⟩
theorem UU {l:List Bf} (hl:Fv l) (hd:st.decls=l) {c:CK} (hc:XQ l c) (h:Ct s st (pp l c++t2::ts) d):
  st.t.kind≠H6∧∃st',Eh s st= .ok ⟨c,0⟩ st'∧Ct s st' (t2::ts) d∧Dh st st':=by
 unfold Eh
 cases c with
 |full k=>
  have h':Ct s st (tk DT::tN (AI l k)::t2::ts) d:=h
  have hk:st.t.kind=DT:=h'.1
  rw[hk,Ak rfl,Fu (st:=next s st) hl hd hc h'.next]
  exact⟨by decide,_,rfl,h'.next.next,(Dh.next _ _).trans (Dh.next _ _)⟩
 |empty k=>
  have h':Ct s st (tk CF::tN (AI l k)::t2::ts) d:=h
  have hk:st.t.kind=CF:=h'.1
  rw[hk,Ad (by decide),Ak rfl,Fu (st:=next s st) hl hd hc h'.next]
  exact⟨by decide,_,rfl,h'.next.next,(Dh.next _ _).trans (Dh.next _ _)⟩
 |warm k=>
  have h':Ct s st (tk DS::tN (AI l k)::t2::ts) d:=h
  have hk:st.t.kind=DS:=h'.1
  rw[hk,Ad (by decide),Ad (by decide),Ak rfl,Fu (st:=next s st) hl hd hc h'.next]
  exact⟨by decide,_,rfl,h'.next.next,(Dh.next _ _).trans (Dh.next _ _)⟩
 |less a b=>
  have h':Ct s st (P7 l a++(tk Eu::(P7 l b++t2::ts))) d:=by
   have h0:Ct s st ((P7 l a++tk Eu::P7 l b)++t2::ts) d:=h
   rw[Al,A8]at h0;exact h0
  obtain⟨x,r,e,n1,n2,n3,n4⟩:=Yn l a
  have hk:st.t.kind=x.1:=by rw[e]at h';exact h'.1
  obtain⟨y,r2,e2,_⟩:=Yn l b
  obtain⟨st1,v1,v2,v3⟩:=Si hl hd hc.1 h'
  rw[e2]at v2
  have v4:Ct s (next s st1) (P7 l b++t2::ts) d:=by rw[e2];exact Ct.next v2
  obtain⟨AP,w1,w2,w3⟩:=Si (st:=next s st1) hl (v3.decls.trans hd) hc.2 v4
  refine⟨by rw[hk];exact n4,AP,?_,w2,(v3.trans (Dh.next _ _)).trans w3⟩
  rw[hk,Ad n1,Ad n2,Ad n3,v1]
  show(want s Eu st1).bind _=_
  rw[GR v2]
  show(value s (next s st1)).map _=_
  rw[w1]
  rfl
theorem UQ {l:List Bf} (hl:Fv l) (hd:st.decls=l) {c:Da} (hc:XQ l c.k) {n:Nat} (h:Ct s st (KL l c++t2::ts) d):∃st',cond s (n+2) st= .ok (Qm c) st'∧Ct s st' (t2::ts) d∧Dh st st':=by
 unfold KL at h
 by_cases ho:c.nots%2=1
 ·rw[Ak ho]at h
  have hk:st.t.kind=H6:=h.1
  have Cu:∃x r,pp l c.k=x::r:=by
   cases hx:pp l c.k with
   |nil=>exact absurd hx (ny _)
   |cons x r=>exact⟨x,r,rfl⟩
  obtain⟨x,r,e⟩:=Cu
  have h1:Ct s (next s st) (pp l c.k++t2::ts) d:=by
   rw[e]at h ⊢
   exact Ct.next (t:=tk H6) h
  obtain⟨a,st1,b1,b2,b3⟩:=UU (st:=next s st) hl hd hc h1
  refine⟨st1,?_,b2,(Dh.next _ _).trans b3⟩
  rw[cond,Ak hk,cond,Ad a,b1]
  unfold Qm
  rw[ho]
  rfl
 ·rw[Ad ho]at h
  obtain⟨a,st1,b1,b2,b3⟩:=UU hl hd hc h
  refine⟨st1,?_,b2,b3⟩
  rw[cond,Ad a,b1]
  have:c.nots%2=0:=by omega
  unfold Qm
  rw[this]
theorem TK (t:Bool) (h:Ct s st (P8 t++tk Ar::t2::ts) d):(take s BN st).1=t∧Ct s (take s BN st).2 (tk Ar::t2::ts) d∧Dh st (take s BN st).2:=by
 unfold take
 cases t with
 |true=>
  have h':Ct s st (tk BN::tk Ar::t2::ts) d:=h
  rw[Ak (show st.t.kind=BN from h'.1)]
  exact⟨rfl,h'.next,Dh.next _ _⟩
 |false=>
  have h':Ct s st (tk Ar::t2::ts) d:=h
  have hk:st.t.kind=Ar:=h'.1
  rw[Ad (by rw[hk];decide)]
  exact⟨rfl,h',Dh.refl _⟩
theorem Oj {l:List Bf} {b:AC} {n:Nat} (h:Ct s st (tk Bo::(Bz l b++(tk AU::t2::ts))) d) (hd:st.decls=l) (h8:st.depth+1+b.deep≤8)
  (hs:∀st1:PS,st1.decls=l→st1.depth+b.deep≤8→st1.loops=st.loops→Ct s st1 (Bz l b++(tk AU::t2::ts)) d→∃st',DH s n st1= .ok (EI b) st'∧Ct s st' (tk AU::t2::ts) d∧Dh st1 st'):
  ∃st',block s (n+1) st= .ok (EI b) st'∧Ct s st' (t2::ts) d∧Dh st st':=by
 have Cu:∃x r,Bz l b++(tk AU::t2::ts)=x::r:=by
  cases hx:Bz l b++(tk AU::t2::ts)with
  |nil=>simp at hx
  |cons x r=>exact⟨x,r,rfl⟩
 obtain⟨x,r,e⟩:=Cu
 have hw:want s Bo st= .ok st.t (next s st):=by unfold want;rw[Ak (show st.t.kind=Bo from h.1)]
 have h1:Ct s (next s st) (Bz l b++(tk AU::t2::ts)) d:=by
  rw[e]at h ⊢
  exact Ct.next h
 obtain⟨AP,a,b',c⟩:=hs {next s st with depth:=(next s st).depth+1} hd (by show st.depth+1+b.deep≤8;exact h8) rfl (by
  rw[e]at h1 ⊢
  exact⟨h1.1,h1.2.1,h1.2.2⟩)
 have h2:Ct s ({AP with depth:=AP.depth-1}:PS) (tk AU::t2::ts) d:=⟨b'.1,b'.2.1,b'.2.2⟩
 refine⟨next s {AP with depth:=AP.depth-1},?_,h2.next,?_⟩
 ·rw[block,Ad (by rintro⟨_,x8⟩;omega),hw]
  show(DH s n {next s st with depth:=(next s st).depth+1}).bind _=_
  rw[a]
  rfl
 ·have Ve:AP.depth=st.depth+1:=c.depth
  exact⟨c.decls,c.freq,c.fseen,c.rules,by show AP.depth-1=st.depth;omega,c.loops,c.wrong⟩
theorem GU {x:D9} (h:Ct s st (tk Ar::t2::ts) d):((want s Ar st).bind fun _ st=>.ok (.prim x .nil) st)=AJ.ok (AC.prim x .nil) (next s st):=by
 rw[GR h]
 rfl
theorem bz {l:List Bf} (hl:Fv l) (hd:st.decls=l) {p:D9} (hp:WG l p) {n:Nat} (h:Ct s st (Sj l p++t2::ts) d):
  st.t.kind≠AU∧∃st',stmt s (n+1) st= .ok (.prim p .nil) st'∧Ct s st' (t2::ts) d∧Dh st st':=by
 have one:∀{w:Ae} {v:Bool} {k:Int},DQ l v k→Ct s st (tk w::tN (AI l k)::tk Ar::t2::ts) d→
   name s v (next s st)= .ok k (next s (next s st))∧Ct s (next s (next s st)) (tk Ar::t2::ts) d∧Dh st (next s (next s st)):=
  fun hk h=>⟨Fu (st:=next s st) hl hd hk h.next,h.next.next,(Dh.next _ _).trans (Dh.next _ _)⟩
 cases p with
 |put q t=>
  have h':Ct s st (tk Hn::tN (AI l q)::(P8 t++tk Ar::t2::ts)) d:=by simpa[Sj,Al]using h
  have hk:st.t.kind=Hn:=h'.1
  have Cu:∃x r,P8 t++tk Ar::t2::ts=x::r:=by cases t<;>exact⟨_,_,rfl⟩
  obtain⟨x,r,e⟩:=Cu
  rw[e]at h'
  have a:=Fu (st:=next s st) hl hd hp h'.next
  have b:=h'.next.next
  rw[←e]at b
  obtain⟨c1,c2,c3⟩:=TK t b
  refine⟨by rw[hk];decide,_,?_,c2.next,(((Dh.next _ _).trans (Dh.next _ _)).trans c3).trans (Dh.next _ _)⟩
  rw[stmt]
  rw[Ak hk,a]
  show(want s Ar _).bind _=_
  rw[GU c2,c1]
 |evict q=>
  have h':Ct s st (tk Db::tN (AI l q)::tk Ar::t2::ts) d:=h
  have hk:st.t.kind=Db:=h'.1
  obtain⟨a,b,c⟩:=one hp h'
  refine⟨by rw[hk];decide,_,?_,b.next,c.trans (Dh.next _ _)⟩
  rw[stmt]
  rw[hk,Ad (by decide),Ak rfl,a]
  exact GU b
 |cool q=>
  have h':Ct s st (tk Ew::tN (AI l q)::tk Ar::t2::ts) d:=h
  have hk:st.t.kind=Ew:=h'.1
  obtain⟨a,b,c⟩:=one hp h'
  refine⟨by rw[hk];decide,_,?_,b.next,c.trans (Dh.next _ _)⟩
  rw[stmt]
  rw[hk,Ad (by decide),Ad (by decide),Ak rfl,a]
  exact GU b
 |shift q q' t=>
  have h':Ct s st (tk CN::tN (AI l q)::tN (AI l q')::(P8 t++tk Ar::t2::ts)) d:=by simpa[Sj,Al]using h
  have hk:st.t.kind=CN:=h'.1
  have Cu:∃x r,P8 t++tk Ar::t2::ts=x::r:=by cases t<;>exact⟨_,_,rfl⟩
  obtain⟨x,r,e⟩:=Cu
  rw[e]at h'
  have a:=Fu (st:=next s st) hl hd hp.1 h'.next
  have a2:=Fu (st:=next s (next s st)) hl hd hp.2 h'.next.next
  have b:=h'.next.next.next
  rw[←e]at b
  obtain⟨c1,c2,c3⟩:=TK t b
  refine⟨by rw[hk];decide,_,?_,c2.next,((((Dh.next _ _).trans (Dh.next _ _)).trans (Dh.next _ _)).trans c3).trans (Dh.next _ _)⟩
  rw[stmt]
  rw[hk,Ad (by decide),Ad (by decide),Ad (by decide),Ak rfl,a]
  show(name s false _).bind _=_
  rw[a2]
  show(want s Ar _).bind _=_
  rw[GU c2,c1]
 |inc q=>
  have h':Ct s st (tk Ia::tN (AI l q)::tk Ar::t2::ts) d:=h
  have hk:st.t.kind=Ia:=h'.1
  obtain⟨a,b,c⟩:=one hp h'
  refine⟨by rw[hk];decide,_,?_,b.next,c.trans (Dh.next _ _)⟩
  rw[stmt]
  rw[hk,Ad (by decide),Ad (by decide),Ad (by decide),Ad (by decide),Ak rfl,a]
  exact GU b
 |dec q=>
  have h':Ct s st (tk Ib::tN (AI l q)::tk Ar::t2::ts) d:=h
  have hk:st.t.kind=Ib:=h'.1
  obtain⟨a,b,c⟩:=one hp h'
  refine⟨by rw[hk];decide,_,?_,b.next,c.trans (Dh.next _ _)⟩
  rw[stmt]
  rw[hk,Ad (by decide),Ad (by decide),Ad (by decide),Ad (by decide),Ad (by decide),Ak rfl,a]
  exact GU b
 |drop=>
  have h':Ct s st (tk EJ::tk Ar::t2::ts) d:=h
  have hk:st.t.kind=EJ:=h'.1
  refine⟨by rw[hk];decide,_,?_,h'.next.next,(Dh.next _ _).trans (Dh.next _ _)⟩
  rw[stmt]
  rw[hk,Ad (by decide),Ad (by decide),Ad (by decide),Ad (by decide),Ad (by decide),Ad (by decide),Ak rfl]
  exact GU h'.next
 |bump=>
  have h':Ct s st (tk EK::tk Ar::t2::ts) d:=h
  have hk:st.t.kind=EK:=h'.1
  refine⟨by rw[hk];decide,_,?_,h'.next.next,(Dh.next _ _).trans (Dh.next _ _)⟩
  rw[stmt]
  rw[hk,Ad (by decide),Ad (by decide),Ad (by decide),Ad (by decide),Ad (by decide),Ad (by decide),Ad (by decide),Ak rfl]
  exact GU h'.next
theorem Fi {l:List Bf} (hl:Fv l):∀(b:AC) {st:PS} {n:Nat} {t2:T2} {ts:List T2},st.decls=l→EG l b→b.Form→st.depth+b.deep≤8→st.loops+b.nest≤2→Ji b≤n→
  Ct s st (Bz l b++(tk AU::t2::ts)) d→∃st',DH s n st= .ok (EI b) st'∧Ct s st' (tk AU::t2::ts) d∧Dh st st'
 | .nil,st,n,t2,ts,hd,_,_,_,_,hn,h=>by
  obtain⟨n,rfl⟩:∃k,n=k+1:=⟨n-1,by have:1≤n:=hn;omega⟩
  have h':Ct s st (tk AU::t2::ts) d:=h
  refine⟨st,?_,h',Dh.refl _⟩
  rw[DH,Ak (show st.t.kind=AU from h'.1)]
  rfl
 | .prim p r,st,n,t2,ts,hd,hw,hf,h8,h2,hn,h=>by
  have Zs:2+Ji r≤n:=hn
  obtain⟨n,rfl⟩:∃k,n=k+2:=⟨n-2,by omega⟩
  have h':Ct s st (Sj l p++(Bz l r++(tk AU::t2::ts))) d:=by simpa[Bz,Al]using h
  have Cu:∃x y,Bz l r++(tk AU::t2::ts)=x::y:=by
   cases hx:Bz l r++(tk AU::t2::ts)with
   |nil=>simp at hx
   |cons x y=>exact⟨x,y,rfl⟩
  obtain⟨x,y,e⟩:=Cu
  rw[e]at h'
  obtain⟨a,st1,b1,b2,b3⟩:=bz (n:=n) hl hd hw.1 h'
  rw[←e]at b2
  obtain⟨AP,c1,c2,c3⟩:=Fi hl r (n:=n+1) (b3.decls.trans hd) hw.2 hf (by rw[b3.depth];exact h8) (by rw[b3.loops];exact h2) (by omega) b2
  refine⟨AP,?_,c2,b3.trans c3⟩
  rw[DH,Ad a,b1]
  show(DH s (n+1) st1).map _=_
  rw[c1]
  rfl
 | .ite c t o e r,st,n,t2,ts,hd,⟨w1,w2,w3,w4⟩,⟨f1,f2,f3,f4⟩,h8,h2,hn,h=>by
  have Zs:3+Ji t+Ji e+Ji r≤n:=hn
  have np:=Qn t
  have nq:=Qn e
  obtain⟨n,rfl⟩:∃k,n=k+3:=⟨n-3,by omega⟩
  have jO:st.depth+max (1+t.deep) (max (if o then 1+e.deep else 0) r.deep)≤8:=h8
  have LZ:st.loops+max t.nest (max e.nest r.nest)≤2:=h2
  have hA:Ct s st (tk Iw::(KL l c++(tk Bo::(Bz l t++(tk AU::((if o then tk BH::tk Bo::(Bz l e++[tk AU])else [])++(Bz l r++(tk AU::t2::ts)))))))) d:=by
   simpa[Bz,Al]using h
  have hk:st.t.kind=Iw:=hA.1
  have qF:∃x y,KL l c++(tk Bo::(Bz l t++(tk AU::((if o then tk BH::tk Bo::(Bz l e++[tk AU])else [])++(Bz l r++(tk AU::t2::ts))))))=x::y:=by
   cases hx:KL l c with
   |nil=>exact absurd hx (Tn _)
   |cons x y=>exact⟨x,_,rfl⟩
  obtain⟨x,y,ex⟩:=qF
  have LK:Ct s (next s st) (KL l c++(tk Bo::(Bz l t++(tk AU::((if o then tk BH::tk Bo::(Bz l e++[tk AU])else [])++(Bz l r++(tk AU::t2::ts))))))) d:=by
   rw[ex]at hA ⊢;exact hA.next
  obtain⟨st1,a1,a2,a3⟩:=UQ (n:=n) (st:=next s st) hl hd w1 LK
  have d1:st1.decls=l:=a3.decls.trans hd
  have p1:st1.depth=st.depth:=a3.depth
  have q1:st1.loops=st.loops:=a3.loops
  have hre:∃x y,Bz l r++(tk AU::t2::ts)=x::y∧(x.1≠BH):=by
   cases r with
   |nil=>exact⟨_,_,rfl,by show AU≠BH;decide⟩
   |prim p r'=>cases p<;>exact⟨_,_,rfl,by first|(show Hn≠BH;decide)|(show Db≠BH;decide)|(show Ew≠BH;decide)|(show CN≠BH;decide)|(show Ia≠BH;decide)|(show Ib≠BH;decide)|(show EJ≠BH;decide)|(show EK≠BH;decide)⟩
   |ite _ _ _ _ _=>exact⟨_,_,rfl,by show Iw≠BH;decide⟩
   |rep _ _ _ _=>exact⟨_,_,rfl,by show Bb≠BH;decide⟩
  obtain⟨xr,yr,er,ner⟩:=hre
  cases o with
  |false=>
   have _L:Ct s st1 (tk Bo::(Bz l t++(tk AU::xr::yr))) d:=by rw[←er];exact a2
   simp only[An,A1]at jO
   obtain⟨AP,b1,b2,b3⟩:=Oj (n:=n) _L d1 (by omega) (fun E5 x1 x2 x3 x4=>Fi hl t x1 w2 f1 x2 (by omega) (by omega) x4)
   have A4:AP.t.kind≠BH:=by rw[b2.1];exact ner
   have b2':=b2
   rw[←er]at b2
   obtain⟨Cb,c1,c2,c3⟩:=Fi hl r (n:=n+2) (b3.decls.trans d1) w4 f3 (by rw[b3.depth,p1];omega) (by rw[b3.loops,q1];omega) (by omega) b2
   have he:=f4 rfl
   subst he
   refine⟨Cb,?_,c2,(((Dh.next _ _).trans a3).trans b3).trans c3⟩
   rw[DH,Ad (by rw[hk];decide),stmt]
   rw[hk,Ad (by decide),Ad (by decide),Ad (by decide),Ad (by decide),Ad (by decide),Ad (by decide),Ad (by decide),Ad (by decide),Ak rfl,a1]
   show((block s (n+1) st1).bind _).bind _=_
   rw[b1]
   show(if AP.t.kind=BH then _ else _:AJ AC).bind _=_
   rw[Ad A4]
   show(DH s (n+2) AP).map _=_
   rw[c1]
   rfl
  |true=>
   simp only[A0]at jO a2
   have _L:Ct s st1 (tk Bo::(Bz l t++(tk AU::tk BH::(tk Bo::(Bz l e++(tk AU::xr::yr)))))) d:=by
    rw[←er];simpa[Al]using a2
   obtain⟨AP,b1,b2,b3⟩:=Oj (n:=n) _L d1 (by omega) (fun E5 x1 x2 x3 x4=>Fi hl t x1 w2 f1 x2 (by omega) (by omega) x4)
   have A4:AP.t.kind=BH:=b2.1
   have p2:AP.depth=st.depth:=b3.depth.trans p1
   have q2:AP.loops=st.loops:=b3.loops.trans q1
   obtain⟨Cb,g1,g2,g3⟩:=Oj (n:=n) (st:=next s AP) b2.next (b3.decls.trans d1) (by show AP.depth+1+e.deep≤8;omega) (fun E5 x1 x2 x3 x4=>Fi hl e x1 w3 f2 x2 (by have:E5.loops=AP.loops:=x3;omega) (by omega) x4)
   rw[←er]at g2
   have p3:Cb.depth=AP.depth:=g3.depth
   have q3:Cb.loops=AP.loops:=g3.loops
   obtain⟨Io,c1,c2,c3⟩:=Fi hl r (n:=n+2) (g3.decls.trans (b3.decls.trans d1)) w4 f3 (by omega) (by omega) (by omega) g2
   refine⟨Io,?_,c2,((((Dh.next _ _).trans a3).trans b3).trans ((Dh.next _ _).trans g3)).trans c3⟩
   rw[DH,Ad (by rw[hk];decide),stmt]
   rw[hk,Ad (by decide),Ad (by decide),Ad (by decide),Ad (by decide),Ad (by decide),Ad (by decide),Ad (by decide),Ad (by decide),Ak rfl,a1]
   show((block s (n+1) st1).bind _).bind _=_
   rw[b1]
   show(if AP.t.kind=BH then _ else _:AJ AC).bind _=_
   rw[Ak A4]
   show((block s (n+1) (next s AP)).bind _).bind _=_
   rw[g1]
   show(DH s (n+2) Cb).map _=_
   rw[c1]
   rfl
 | .rep k c b r,st,n,t2,ts,hd,⟨w1,w2,w3,w4,w5⟩,⟨f1,f2⟩,h8,h2,hn,h=>by
  have Zs:3+Ji b+Ji r≤n:=hn
  have np:=Qn b
  have nq:=Qn r
  obtain⟨n,rfl⟩:∃k,n=k+3:=⟨n-3,by omega⟩
  have jO:st.depth+max (1+b.deep) r.deep≤8:=h8
  have LZ:st.loops+max (1+b.nest) r.nest≤2:=h2
  have hA:Ct s st (tk Bb::tI k::tk B9::(KL l c++(tk Bo::(Bz l b++(tk AU::(Bz l r++(tk AU::t2::ts))))))) d:=by
   simpa[Bz,Al]using h
  have hk:st.t.kind=Bb:=hA.1
  have qF:∃x y,KL l c++(tk Bo::(Bz l b++(tk AU::(Bz l r++(tk AU::t2::ts)))))=x::y:=by
   cases hx:KL l c with
   |nil=>exact absurd hx (Tn _)
   |cons x y=>exact⟨x,_,rfl⟩
  obtain⟨x,y,ex⟩:=qF
  rw[ex]at hA
  have n1:=Kc (least:=1) (most:=50) hA.next (by omega) (by omega) w4 w5
  have n2:=GR hA.next.next
  have LK:=hA.next.next.next
  rw[←ex]at LK
  obtain⟨st1,a1,a2,a3⟩:=UQ (n:=n) hl (st:=next s (next s (next s st))) hd w1 LK
  have d1:st1.decls=l:=a3.decls.trans hd
  have p1:st1.depth=st.depth:=a3.depth
  have q1:st1.loops=st.loops:=a3.loops
  have hre:∃x y,Bz l r++(tk AU::t2::ts)=x::y:=by
   cases hx:Bz l r++(tk AU::t2::ts)with
   |nil=>simp at hx
   |cons x y=>exact⟨x,y,rfl⟩
  obtain⟨xr,yr,er⟩:=hre
  rw[er]at a2
  have _L:Ct s ({st1 with loops:=st1.loops+1}:PS) (tk Bo::(Bz l b++(tk AU::xr::yr))) d:=⟨a2.1,a2.2.1,a2.2.2⟩
  obtain⟨AP,b1,b2,b3⟩:=Oj (n:=n) _L d1 (by show st1.depth+1+b.deep≤8;omega) (fun E5 x1 x2 x3 x4=>Fi hl b x1 w2 f1 x2 (by have:E5.loops=st1.loops+1:=x3;omega) (by omega) x4)
  rw[←er]at b2
  have b2':Ct s ({AP with loops:=AP.loops-1}:PS) (Bz l r++(tk AU::t2::ts)) d:=by rw[er]at b2 ⊢;exact⟨b2.1,b2.2.1,b2.2.2⟩
  have q2:AP.loops=st1.loops+1:=b3.loops
  have p2:AP.depth=st1.depth:=b3.depth
  obtain⟨Cb,c1,c2,c3⟩:=Fi hl r (n:=n+2) (st:={AP with loops:=AP.loops-1}) (b3.decls.trans d1) w3 f2 (by show AP.depth+r.deep≤8;omega) (by show AP.loops-1+r.nest≤2;omega) (by omega) b2'
  refine⟨Cb,?_,c2,?_⟩
  ·rw[DH,Ad (by rw[hk];decide),stmt]
   rw[hk,Ad (by decide),Ad (by decide),Ad (by decide),Ad (by decide),Ad (by decide),Ad (by decide),Ad (by decide),Ad (by decide),Ad (by decide),Ak rfl,Ad (by omega),n1]
   show((want s B9 (next s (next s st))).bind _).bind _=_
   rw[n2]
   show((cond s (n+2) (next s (next s (next s st)))).bind _).bind _=_
   rw[a1]
   show((block s (n+1) {st1 with loops:=st1.loops+1}).bind _).bind _=_
   rw[b1]
   show(DH s (n+2) {AP with loops:=AP.loops-1}).map _=_
   rw[c1]
   rfl
  ·have s1:Dh st st1:=((Dh.next _ _).trans ((Dh.next _ _).trans (Dh.next _ _))).trans a3
   have s2:Dh st1 ({AP with loops:=AP.loops-1}:PS):=⟨b3.decls,b3.freq,b3.fseen,b3.rules,b3.depth,by show AP.loops-1=st1.loops;omega,b3.wrong⟩
   exact(s1.trans s2).trans c3
end
def Gq (p:AF):Nat→List (Int×AC)
 |0=>[]
 |k+1=>Gq p k++(match AE p.rules (k:Int)with
  |some b=>[((k:Int),EI b)]
  |none=>[])
def GF (p:AF):AF:=⟨p.decls,p.freq,Gq p p.decls.length++[(-1,EI ((Cm p.rules).getD .nil))]⟩
def dW (d:Bf):List T2:=[tk (Dz d.kind),tN d.name,tI d.max,tk Ar]
def KJ:List Bf→List T2
 | []=>[]
 |d::l=>dW d++KJ l
def V8 (f:Int):List T2:=if 0<f then [tk BX,tI f,tk Ar]else []
def Jr (l:List Bf) (b:AC):List T2:=tk Bo::(Bz l b++[tk AU])
def Nc (p:AF) (k:Nat):List T2:=
 match AE p.rules (k:Int)with
 |some b=>tk Mv::tN (AI p.decls (k:Int))::Jr p.decls b
 |none=>[]
def Ir (p:AF):Nat→List T2
 |0=>[]
 |k+1=>Ir p k++Nc p k
def Vl:T2:=(DJ,[])
def KI (p:AF):List T2:=tk Mv::tk Ec::(Jr p.decls ((Cm p.rules).getD .nil))
def aT (p:AF):List T2:=KJ p.decls++(V8 p.freq++(Ir p p.decls.length++(KI p++[Vl])))
theorem TF:∀(l:List Bf),(∀d∈l,fu d)→∀{ts:List T2} {d d':Ae},ts≠ []→Cs d ts d'→Cs ((l.map GT).flatten++d) (KJ l++ts) d'
 | [],_,ts,d,d',_,k=>k
 |x::l,h,ts,d,d',Cu,k=>by
  have hx:=h x (by simp)
  have kr:=TF l (fun y hy=>h y (by simp[hy])) Cu k
  have uX:x.max≤999:=by have:=hx.hi;split at this<;>omega
  have kw:∀d,WH d→Cs (Dz x.kind++d) [tk (Dz x.kind)] d:=by
   intro d hd
   unfold Dz
   split
   ·exact Dk rfl hd
   ·split
    ·exact Dk rfl hd
    ·exact Dk rfl hd
  have iD:KJ l++ts≠ []:=by simp[Cu]
  have k1:Cs (59::10::((l.map GT).flatten++d)) (tk Ar::(KJ l++ts)) d':=BD (Et rfl _) (aQ iD kr)
  have k2:=BD (Tg (n:=x.max) (by have:=hx.lo;omega) uX (KM _).2) k1
  have k3:=BD (IQ hx.name (ER _).1) (Dl (by simp) k2)
  have k4:=BD (kw _ (ER _).1) (Dl (by simp) k3)
  simpa[GT,KJ,dW,Al,BE]using k4
theorem fR {f:Int} (h0:0≤f) (h:f≤99) {ts:List T2} {d d':Ae} (Cu:ts≠ []) (k:Cs d ts d'):Cs (Dm f++d) (V8 f++ts) d':=by
 unfold Dm V8
 split
 ·have k1:Cs (59::10::d) (tk Ar::ts) d':=BD (Et rfl _) (aQ Cu k)
  have k2:=BD (Tg h0 (by omega) (KM _).2) k1
  have k3:=BD (Dk (w:=BX) rfl (ER _).1) (Dl (by simp) k2)
  simpa[Al,BE]using k3
 ·exact k
theorem TG {l:List Bf} (hl:Fv l) {b:AC} (hb:EG l b) {ts:List T2} {d d':Ae} (k:Cs d ts d'):Cs (BJ l b++d) (Jr l b++ts) d':=by
 have k1:Cs (32::125::d) (tk AU::ts) d':=Dl (by simp) (BD (Et rfl _) k)
 have k2:=Iq hl b hb (by simp) k1
 have k3:Cs (123::(As l b++(32::125::d))) (tk Bo::(Bz l b++(tk AU::ts))) d':=BD (Et rfl _) k2
 simpa[BJ,Jr,Al,BE]using k3
theorem KP {r:List (Int×AC)} {k:Int} {b:AC} (h:AE r k=some b):(k,b)∈r:=by
 unfold AE at h
 cases hf:r.find? (fun x=>x.1==k)with
 |none=>rw[hf]at h;cases h
 |some x=>
  rw[hf]at h
  have h1:=PM hf
  have h2:=nZ hf
  simp at h h2
  obtain⟨a,c⟩:=x
  simp at h h2
  subst h h2
  exact h1
section
variable {p:AF} (hp:EO p)
include hp
theorem TE:∀(n:Nat) {ts:List T2} {d d':Ae},ts≠ []→Cs d ts d'→Cs (Bh p n++d) (Ir p n++ts) d'
 |0,ts,d,d',_,k=>k
 |n+1,ts,d,d',Cu,k=>by
  show Cs (Bh p n++C5 p n++d) (Ir p n++Nc p n++ts) d'
  rw[Al,Al]
  have:Cs (C5 p n++d) (Nc p n++ts) d':=by
   unfold C5 Nc
   cases hr:AE p.rules (n:Int)with
   |none=>exact k
   |some b=>
    have hm:=hp.rules.each _ (KP hr)
    have hk:DQ p.decls false (n:Int):=by
     rcases hm.key with h|h
     ·simp only at h;omega
     ·exact h
    have k1:Cs (10::d) ts d':=aQ Cu k
    have k2:=TG hp.decls hm.w k1
    have k3:=BD (IQ (NS hp.decls hk) (ER _).1) (Dl (by simp[Jr]) k2)
    have k4:=BD (Dk (w:=Mv) rfl (ER _).1) (Dl (by simp) k3)
    simpa[Al,BE]using k4
  exact TE n (by
   unfold Nc
   cases AE p.rules (n:Int)with
   |none=>exact Cu
   |some b=>simp) this
theorem lC:nO p.decls (-1,(Cm p.rules).getD .nil):=by
 have hm:=hp.miss
 unfold Cm at hm ⊢
 cases hr:AE p.rules (-1)with
 |none=>rw[hr]at hm;cases hm
 |some b=>exact hp.rules.each _ (KP hr)
theorem fP:Cs (text p) (aT p) []:=by
 have k0:Cs [10] [Vl] []:=⟨rfl,rfl,rfl⟩
 have k1:Cs (Ig p) (KI p++[Vl]) []:=by
  have k2:=TG hp.decls (lC hp).w k0
  have k3:=BD (Dk (w:=Ec) rfl (ER _).1) (Dl (by simp[Jr]) k2)
  have k4:=BD (Dk (w:=Mv) rfl (ER _).1) (Dl (by simp) k3)
  simpa[Ig,KI,Al,BE]using k4
 have k2:=TE hp p.decls.length (by simp[KI]) k1
 have k3:=fR hp.freq.1 hp.freq.2 (by simp[KI]) k2
 have k4:=TF p.decls hp.decls.each (by simp[KI]) k3
 unfold text aT
 simpa[Al]using k4
end
theorem qa (k:Nat) (h:k≤2):D2 (Dz k)=k∧BZ (Dz k)=(if k=2 then 99 else 50)∧isDecl (Dz k)=true∧Dz k≠BX:=by
 obtain rfl|rfl|rfl:k=0∨k=1∨k=2:=by omega
 ·exact⟨rfl,rfl,rfl,by decide⟩
 ·exact⟨rfl,rfl,rfl,by decide⟩
 ·exact⟨rfl,rfl,rfl,by decide⟩
theorem mS {l:List Bf} {name:Ae} (h:name∉l.map (·.name)):find l name= -1:=by
 rcases Lb name l 0 with h1|⟨i,d,h1,h2,_⟩
 ·exact h1
 ·exact absurd (AT.2 ⟨d,A7 h1,h2⟩) h
section
variable {s:Ae} {t2:T2} {ts:List T2} {d:Ae}
theorem cG {st:PS} {x:Bf} (hx:fu x) (hn:x.name∉st.decls.map (·.name)) (h8:st.decls.length<8) (h:Ct s st (dW x++t2::ts) d):
  isDecl st.t.kind=true∧∃st',decl s st= .ok () st'∧Ct s st' (t2::ts) d∧Dh {st with decls:=st.decls++[x]} st':=by
 obtain⟨k1,k2,k3,k4⟩:=qa x.kind hx.kind
 have h':Ct s st (tk (Dz x.kind)::tN x.name::tI x.max::tk Ar::t2::ts) d:=h
 have hk:st.t.kind=Dz x.kind:=h'.1
 have uX:x.max≤999:=by have:=hx.hi;split at this<;>omega
 have Tj:=hx.lo
 refine⟨by rw[hk];exact k3,?_⟩
 have w1:=GR h'.next
 have w2:Ba (next s st).t (next s (next s st))=next s (next s st):=by
  unfold Ba
  have e1:(next s st).t.text=x.name:=h'.next.2.1
  have e2:(next s (next s st)).decls=st.decls:=rfl
  simp only[e1,e2]
  rw[mS hn,Ad (by omega:¬((0:Int)≤-1)),Ad (show¬(next s (next s st)).decls.length=8 by rw[e2];omega)]
 have w3:=Kc (least:=1) (most:=BZ st.t.kind) h'.next.next (by omega) uX Tj (by rw[hk,k2];exact hx.hi)
 have w4:=GR h'.next.next.next
 have h4:=h'.next.next.next.next
 have e1:(next s st).t.text=x.name:=h'.next.2.1
 refine⟨{next s (next s (next s (next s st)))with decls:=(next s (next s (next s (next s st)))).decls++[x]},?_,⟨h4.1,h4.2.1,h4.2.2⟩,⟨rfl,rfl,rfl,rfl,rfl,rfl,rfl⟩⟩
 unfold decl
 simp only
 rw[Ad (by rw[hk];exact k4),w1]
 show(number s 1 (BZ st.t.kind) (Ba (next s st).t (next s (next s st)))).bind _=_
 rw[w2,w3]
 show(want s Ar _).bind _=_
 rw[w4]
 show AJ.ok () _=_
 rw[hk,k1,e1]
theorem SJ:∀(l:List Bf) {st:PS} {n:Nat} {t2:T2} {ts:List T2},(∀x∈l,fu x)→(st.decls.map (·.name)++l.map (·.name)).Nodup→st.decls.length+l.length≤8→l.length≤n→
  Ct s st (KJ l++t2::ts) d→∃st',Cw s (n+1) st=Cw s (n+1-l.length) st'∧Ct s st' (t2::ts) d∧Dh {st with decls:=st.decls++l} st'
 | [],st,n,t2,ts,_,_,_,_,h=>⟨st,rfl,h,by simp;exact Dh.refl st⟩
 |x::l,st,n,t2,ts,hw,hn,h8,hl,h=>by
  have h':Ct s st (dW x++(KJ l++t2::ts)) d:=by simpa[KJ,Al]using h
  have Cu:∃a b,KJ l++t2::ts=a::b:=by
   cases hx:KJ l++t2::ts with
   |nil=>simp at hx
   |cons a b=>exact⟨a,b,rfl⟩
  obtain⟨a,b,e⟩:=Cu
  rw[e]at h'
  have Uu:=B5.1 hn
  have hlen:st.decls.length+(l.length+1)≤8:=h8
  obtain⟨i1,st1,i2,i3,i4⟩:=cG (hw x (by simp)) (fun hm=>Uu.2.2 _ hm _ (by simp) rfl) (by omega) h'
  rw[←e]at i3
  have d1:st1.decls=st.decls++[x]:=i4.decls
  have Uy:l.length+1≤n:=hl
  obtain⟨n,rfl⟩:∃k,n=k+1:=⟨n-1,by omega⟩
  obtain⟨AP,j1,j2,j3⟩:=SJ l (st:=st1) (n:=n) (fun y hy=>hw y (by simp[hy])) (by rw[d1];simpa using hn) (by rw[d1];simp;omega) (by omega) i3
  refine⟨AP,?_,j2,?_⟩
  ·rw[Cw,Ak i1,i2]
   show Cw s (n+1) st1=_
   rw[j1]
   congr 1
   simp
  ·refine Dh.trans ?_ j3
   exact⟨by show st1.decls++l=st.decls++x::l;rw[d1];simp,i4.freq,i4.fseen,i4.rules,i4.depth,i4.loops,i4.wrong⟩
theorem cu {st:PS} {f:Int} (h1:1≤f) (h99:f≤99) (hs:st.fseen=false) (h:Ct s st (tk BX::tI f::tk Ar::t2::ts) d):
  isDecl st.t.kind=true∧∃st',decl s st= .ok () st'∧Ct s st' (t2::ts) d∧Dh {st with freq:=f,fseen:=true} st':=by
 have hk:st.t.kind=BX:=h.1
 refine⟨by rw[hk];rfl,?_⟩
 have La:Ct s ({next s st with fseen:=true}:PS) (tI f::tk Ar::t2::ts) d:=⟨h.next.1,h.next.2.1,h.next.2.2⟩
 have w3:=Kc (least:=1) (most:=99) La (by omega) (by omega) h1 h99
 have LZ:Ct s ({next s {next s st with fseen:=true}with freq:=f}:PS) (tk Ar::t2::ts) d:=⟨La.next.1,La.next.2.1,La.next.2.2⟩
 have w4:=GR LZ
 refine⟨_,?_,LZ.next,⟨rfl,rfl,rfl,rfl,rfl,rfl,rfl⟩⟩
 unfold decl
 simp only
 rw[Ak hk]
 have e:(if(next s st).fseen=true then note CG st.t.pos (next s st)else next s st)=next s st:=by
  have:(next s st).fseen=false:=hs
  rw[this];rfl
 rw[e,w3]
 show(want s Ar _).bind _=_
 rw[w4]
 rfl
theorem ZU {l:List Bf} (hl:Fv l) {st:PS} {b:AC} (hd:st.decls=l) (hw:EG l b) (hf:b.Form) (h8:st.depth+1+b.deep≤8) (h2:st.loops+b.nest≤2) {n:Nat} (hn:Ji b≤n)
  (h:Ct s st (Jr l b++t2::ts) d):∃st',block s (n+1) st= .ok (EI b) st'∧Ct s st' (t2::ts) d∧Dh st st':=by
 have h':Ct s st (tk Bo::(Bz l b++(tk AU::t2::ts))) d:=by simpa[Jr,Al]using h
 exact Oj (n:=n) h' hd h8 (fun E5 x1 x2 x3 x4=>Fi hl b x1 hw hf x2 (by omega) hn x4)
theorem nB (l:List Bf) (b:AC):∃r,Jr l b++t2::ts=tk Bo::r:=⟨_,rfl⟩
theorem TY {l:List Bf} (hl:Fv l) {st:PS} {k:Int} {b:AC} (hr:nO l (k,b)) (hd:st.decls=l) (Ve:st.depth=0) (Ux:st.loops=0) (Pe:st.wrong=none) (IJ:(AE st.rules k).isSome=false)
  (hn:Ji b≤1499) (h:Ct s st (tk Mv::(if k= -1 then tk Ec else tN (AI l k))::(Jr l b++t2::ts)) d):
  st.t.kind=Mv∧∃st',Gc s 1500 st= .ok () st'∧Ct s st' (t2::ts) d∧Dh {st with rules:=st.rules++[(k,EI b)]} st':=by
 refine⟨h.1,?_⟩
 obtain⟨r,er⟩:=nB (t2:=t2) (ts:=ts) l b
 have h1:=h.next
 have hh:Cv s st= .ok k (next s (next s st)):=by
  unfold Cv
  simp only
  have e:(if(next s st).t.kind=Ec then AJ.ok (-1) (next s (next s st))else name s false (next s st))=AJ.ok k (next s (next s st)):=by
   by_cases hk:k= -1
   ·subst hk
    rw[Ak rfl]at h1
    rw[Ak (show(next s st).t.kind=Ec from h1.1)]
   ·rw[Ad hk]at h1
    have Jj:(next s st).t.kind=BG:=h1.1
    rw[Ad (by rw[Jj];decide)]
    rw[er]at h1
    exact Fu (st:=next s st) hl hd (hr.key.resolve_left hk) h1
  rw[e]
  show AJ.ok k _=_
  have e2:((AE (next s (next s st)).rules k).isSome&&(next s (next s st)).wrong.isNone)=false:=by
   have:(AE (next s (next s st)).rules k).isSome=false:=IJ
   rw[this];rfl
  rw[e2]
  rfl
 have h2:Ct s (next s (next s st)) (Jr l b++t2::ts) d:=by rw[er]at h1 ⊢;exact h1.next
 have zV:=hr.deep
 have zm:=hr.nest
 obtain⟨st1,b1,b2,b3⟩:=ZU (n:=1499) (st:=next s (next s st)) hl hd hr.w hr.form (by show st.depth+1+b.deep≤8;rw[Ve];show 0+1+b.deep≤8;simp only at zV;omega) (by show st.loops+b.nest≤2;rw[Ux];simp only at zm;omega) hn h2
 refine⟨{st1 with rules:=st1.rules++[(k,EI b)]},?_,⟨b2.1,b2.2.1,b2.2.2⟩,⟨b3.decls,b3.freq,b3.fseen,by show st1.rules++_=st.rules++_;rw[b3.rules];rfl,b3.depth,b3.loops,b3.wrong⟩⟩
 unfold Gc
 rw[hh]
 show(block s 1500 (next s (next s st))).bind _=_
 rw[b1]
 show AJ.ok () (if st1.wrong.isNone then _ else _)=_
 have:st1.wrong=none:=b3.wrong.trans Pe
 rw[this]
 rfl
theorem KO (p:AF):∀(n:Nat) (k:Int),AE (Gq p n) k=if 0≤k∧k<n then(AE p.rules k).map EI else none
 |0,k=>by
  rw[Ad (by omega)];rfl
 |n+1,k=>by
  have ih:=KO p n k
  show AE (Gq p n++_) k=_
  have ap:∀(a b:List (Int×AC)),AE (a++b) k=(AE a k).or (AE b k):=by
   intro a b
   unfold AE
   rw[Ek]
   cases a.find? (fun x=>x.1==k)<;>rfl
  rw[ap,ih]
  by_cases h1:0≤k∧k<n
  ·rw[Ak h1,Ak (by omega)]
   have Cu:k≠(n:Int):=by omega
   have:AE (match AE p.rules (n:Int)with|some b=>[((n:Int),EI b)]|none=>[]) k=none:=by
    cases AE p.rules (n:Int)with
    |none=>rfl
    |some b=>
     unfold AE
     simp;omega
   rw[this]
   cases (AE p.rules k).map EI<;>rfl
  ·rw[Ad h1,Option.none_or]
   by_cases h2:k=(n:Int)
   ·subst h2
    rw[Ak (by omega)]
    cases hr:AE p.rules (n:Int)with
    |none=>rfl
    |some b=>
     unfold AE
     simp
   ·rw[Ad (by omega)]
    cases AE p.rules (n:Int)with
    |none=>rfl
    |some b=>
     unfold AE
     simp;omega
theorem NM {p:AF} (hp:EO p) (Ng:∀x∈p.rules,Ji x.2≤1499):∀(n:Nat) {st:PS} {m:Nat} {t2:T2} {ts:List T2},st.decls=p.decls→st.depth=0→st.loops=0→st.wrong=none→st.rules=[]→n≤m→n≤p.decls.length→
  Ct s st (Ir p n++t2::ts) d→∃st' j,CR s 1500 (m+1) st=CR s 1500 (m+1-j) st'∧j≤n∧Ct s st' (t2::ts) d∧Dh {st with rules:=Gq p n} st'
 |0,st,m,t2,ts,_,_,_,_,hr,_,_,h=>⟨st,0,rfl,Ab _,h,⟨rfl,rfl,rfl,hr,rfl,rfl,rfl⟩⟩
 |n+1,st,m,t2,ts,hd,Ve,Ux,Pe,hr,hm,jH,h=>by
  have h':Ct s st (Ir p n++(Nc p n++t2::ts)) d:=by simpa[Ir,Al]using h
  cases IJ:AE p.rules (n:Int)with
  |none=>
   have e:Nc p n=[]:=by unfold Nc;rw[IJ]
   rw[e]at h'
   obtain⟨st',j,a,b,c,f⟩:=NM hp Ng n (m:=m) hd Ve Ux Pe hr (by omega) (by omega) h'
   refine⟨st',j,a,by omega,c,f.decls,f.freq,f.fseen,?_,f.depth,f.loops,f.wrong⟩
   rw[f.rules]
   show Gq p n=Gq p n++_
   rw[IJ]
   simp
  |some b=>
   have N0:=KP IJ
   have hW:=hp.rules.each _ N0
   have e:Nc p n=tk Mv::tN (AI p.decls (n:Int))::Jr p.decls b:=by unfold Nc;rw[IJ]
   rw[e]at h'
   obtain⟨st',j,a,hj,c,f⟩:=NM hp Ng n (m:=m) hd Ve Ux Pe hr (by omega) (by omega) h'
   have Cu:¬((n:Int)= -1):=by omega
   have f4:st'.rules=Gq p n:=f.rules
   obtain⟨x1,AP,x2,x3,x4⟩:=TY (k:=(n:Int)) (b:=b) hp.decls hW (f.decls.trans hd) (f.depth.trans Ve) (f.loops.trans Ux) (f.wrong.trans Pe) (by rw[f4,KO,Ad (by omega)];rfl) (Ng _ N0) (by
    rw[Ad Cu];exact c)
   refine⟨AP,j+1,?_,by omega,x3,?_⟩
   ·rw[a]
    obtain⟨m',Ic⟩:∃k,m+1-j=k+1:=⟨m-j,by omega⟩
    rw[Ic,CR,Ak x1,x2]
    show CR s 1500 m' AP=_
    congr 1
    omega
   ·refine⟨x4.decls.trans f.decls,x4.freq.trans f.freq,x4.fseen.trans f.fseen,?_,x4.depth.trans f.depth,x4.loops.trans f.loops,x4.wrong.trans f.wrong⟩
    rw[x4.rules]
    show st'.rules++_=Gq p n++_
    rw[f4,IJ]
end
theorem Jv:∀(b:AC),Ji b≤1+5*b.size
 | .nil=>by simp[Ji]
 | .prim _ r=>by have:=Jv r;simp only[Ji,AC.size];omega
 | .ite _ t _ e r=>by have:=Jv t;have:=Jv e;have:=Jv r;simp only[Ji,AC.size];omega
 | .rep _ _ b r=>by have:=Jv b;have:=Jv r;simp only[Ji,AC.size];omega
theorem Js {l:List Bf}:∀(b:AC),b.Form→6*b.size≤(As l b).length
 | .nil,_=>by simp[AC.size]
 | .prim p r,h=>by
  have:=Js (l:=l) r h
  have hp:5≤(B8 l p).length:=by cases p<;>simp[B8,BE]<;>omega
  simp only[AC.size,As,Ao,BE,Ac,Aj]
  omega
 | .ite c t o e r,⟨h1,h2,h3,h4⟩=>by
  have a1:=Js (l:=l) t h1
  have a2:=Js (l:=l) e h2
  have a3:=Js (l:=l) r h3
  cases o with
  |true=>
   simp only[AC.size,As,Ao,BE,Ac,Aj,A0]
   omega
  |false=>
   have he:=h4 rfl
   subst he
   simp only[AC.size,As,Ao,BE,Ac,Aj,An,A1]
   omega
 | .rep n c b r,⟨h1,h2⟩=>by
  have a1:=Js (l:=l) b h1
  have a3:=Js (l:=l) r h2
  simp only[AC.size,As,Ao,BE,Ac,Aj]
  omega
theorem Qb (p:AF):∀(n k:Nat),k<n→(C5 p k).length≤(Bh p n).length
 |0,k,h=>by omega
 |n+1,k,h=>by
  show _≤(Bh p n++C5 p n).length
  rw[Ao]
  by_cases e:k=n
  ·subst e;omega
  ·have:=Qb p n k (by omega);omega
theorem hU {p:AF} (hp:EO p) (mN:(text p).length≤700):∀x∈p.rules,Ji x.2≤1499:=by
 intro x hx
 have hW:=hp.rules.each x hx
 have hs:=Js (l:=p.decls) x.2 hW.form
 have hn:=Jv x.2
 have LU:AE p.rules x.1=some x.2:=by
  have:∀(r:List (Int×AC)),(r.map (·.1)).Nodup→x∈r→AE r x.1=some x.2:=by
   intro r
   induction r with
   |nil=>intro _ h;cases h
   |cons y r ih=>
    intro hn h
    have Zs:=BK.1 hn
    unfold AE
    rcases Bt.1 h with rfl|h
    ·simp
    ·have Cu:y.1≠x.1:=by
      intro e
      refine Zs.1 ?_
      show y.1∈_
      rw[e]
      exact AT.2 ⟨x,h,rfl⟩
     rw[DE (by simpa using Cu)]
     exact ih Zs.2 h
  exact this _ hp.rules.nodup hx
 have ht:(As p.decls x.2).length≤(text p).length:=by
  unfold text
  simp only[Ao]
  rcases hW.key with hk|hk
  ·have:Cm p.rules=some x.2:=by unfold Cm;rw[←hk];exact LU
   unfold Ig BJ
   rw[this]
   simp only[Ao,Hs]
   omega
  ·obtain⟨⟨a,b⟩,_⟩:=hk
   have h1:=Qb p p.decls.length x.1.toNat (by omega)
   have e:((x.1.toNat:Nat):Int)=x.1:=by omega
   unfold C5 at h1
   rw[e,LU]at h1
   unfold BJ at h1
   simp only[Ao]at h1
   omega
 omega
theorem Ps {p:AF} (hp:EO p):Cm (GF p).rules=(Cm p.rules).map EI:=by
 unfold Cm GF AE
 rw[Ek]
 have h1:=KO p p.decls.length (-1)
 rw[Ad (by omega)]at h1
 have h2:(Gq p p.decls.length).find? (fun x=>x.1== -1)=none:=by
  unfold AE at h1
  cases hx:(Gq p p.decls.length).find? (fun x=>x.1== -1)with
  |none=>rfl
  |some y=>rw[hx]at h1;cases h1
 rw[h2]
 have hm:=hp.miss
 unfold Cm AE at hm
 cases hx:p.rules.find? (fun x=>x.1== -1)with
 |none=>rw[hx]at hm;cases hm
 |some y=>simp[Cm,AE,hx]
theorem gO {p:AF} {s:Ae} (hp:EO p) (mN:s.length≤700) (Ng:∀x∈p.rules,Ji x.2≤1499) (ht:Cs s (aT p) []):read s= .ok (GF p):=by
 unfold read
 rw[Ad (by omega)]
 have N3:∃x y,aT p=x::y:=by
  cases hx:aT p with
  |nil=>simp[aT,KI]at hx
  |cons x y=>exact⟨x,y,rfl⟩
 obtain⟨x,y,e⟩:=N3
 rw[e]at ht
 have s0:=Ct.start ht
 rw[←e]at s0
 have bT:∃a b,V8 p.freq++(Ir p p.decls.length++(KI p++[Vl]))=a::b:=by
  cases hx:V8 p.freq++(Ir p p.decls.length++(KI p++[Vl]))with
  |nil=>simp[KI]at hx
  |cons a b=>exact⟨a,b,rfl⟩
 obtain⟨a0,b0,e0⟩:=bT
 have sI:∃a b,Ir p p.decls.length++(KI p++[Vl])=a::b∧a=tk Mv:=by
  have:∀n,∃a b,Ir p n++(KI p++[Vl])=a::b∧a=tk Mv:=by
   intro n
   induction n with
   |zero=>exact⟨_,_,rfl,rfl⟩
   |succ n ih=>
    show∃a b,(Ir p n++Nc p n)++(KI p++[Vl])=a::b∧a=tk Mv
    cases hx:Ir p n with
    |nil=>
     rw[CH]
     unfold Nc
     cases AE p.rules (n:Int)with
     |none=>exact⟨_,_,rfl,rfl⟩
     |some b=>exact⟨_,_,rfl,rfl⟩
    |cons a b=>
     rw[hx]at ih
     obtain⟨a',b',h1,h2⟩:=ih
     injection h1 with h1 _
     exact⟨a,_,rfl,h1.trans h2⟩
  exact this _
 obtain⟨a1,b1,e1,ea1⟩:=sI
 unfold aT at s0
 rw[e0]at s0
 have hl8:=hp.decls.len
 obtain⟨st1,c1,c2,c3⟩:=SJ p.decls (n:=701) hp.decls.each (by simpa[start]using hp.decls.nodup) (by simpa[start]using hl8) (by omega) s0
 have Zx:∃AP m,Cw s (701+1-p.decls.length) st1= .ok () AP∧Ct s AP (Ir p p.decls.length++(KI p++[Vl])) []∧AP.decls=p.decls∧AP.freq=p.freq∧AP.rules=[]∧AP.depth=0∧AP.loops=0∧AP.wrong=none∧m=0:=by
  have cd:st1.decls=p.decls:=by rw[c3.decls];rfl
  have cr:st1.rules=[]:=c3.rules
  have cp:st1.depth=0:=c3.depth
  have cl:st1.loops=0:=c3.loops
  have cw:st1.wrong=none:=c3.wrong
  obtain⟨m,hm⟩:∃k,701+1-p.decls.length=k+2:=⟨700-p.decls.length,by omega⟩
  rw[hm]
  unfold V8 at e0
  by_cases hf:0<p.freq
  ·rw[Ak hf]at e0
   rw[←e0,e1]at c2
   obtain⟨f1,AP,f2,f3,f4⟩:=cu (by omega) hp.freq.2 c3.fseen c2
   refine⟨AP,0,?_,by rw[e1];exact f3,f4.decls.trans cd,f4.freq,f4.rules.trans cr,f4.depth.trans cp,f4.loops.trans cl,f4.wrong.trans cw,rfl⟩
   rw[Cw,Ak f1,f2]
   show Cw s (m+1) AP=_
   have hk:AP.t.kind=Mv:=by rw[f3.1,ea1];rfl
   rw[Cw,Ad (by rw[hk];decide)]
  ·rw[Ad hf,CH]at e0
   rw[←e0]at c2
   have c2':=c2
   rw[e1]at c2
   refine⟨st1,0,?_,c2',cd,?_,cr,cp,cl,cw,rfl⟩
   ·have hk:st1.t.kind=Mv:=by rw[c2.1,ea1];rfl
    rw[Cw,Ad (by rw[hk];decide)]
   ·rw[c3.freq]
    have:=hp.freq.1
    show(0:Int)=p.freq
    omega
 obtain⟨AP,_,g1,g2,g3,g4,g5,g6,g7,g8,_⟩:=Zx
 have g2':Ct s AP (Ir p p.decls.length++(tk Mv::tk Ec::(Jr p.decls ((Cm p.rules).getD .nil)++[Vl]))) []:=by simpa[KI,Al]using g2
 obtain⟨Cb,j,h1,h2,h3,h4⟩:=NM hp Ng p.decls.length (m:=701) g3 g6 g7 g8 g5 (by omega) (Ab _) g2'
 have hmW:=lC hp
 have iE:Ji ((Cm p.rules).getD .nil)≤1499:=by
  have hm:=hp.miss
  unfold Cm at hm ⊢
  cases hr:AE p.rules (-1)with
  |none=>rw[hr]at hm;cases hm
  |some b=>exact Ng _ (KP hr)
 have h43:Cb.rules=Gq p p.decls.length:=h4.rules
 obtain⟨k1,Io,k2,k3,k4⟩:=TY (k:= -1) hp.decls hmW (h4.decls.trans g3) (h4.depth.trans g6) (h4.loops.trans g7) (h4.wrong.trans g8) (by rw[h43,KO,Ad (by omega)];rfl) iE (by rw[Ak rfl];exact h3)
 have vF:CR s 1500 702 AP= .ok () Io:=by
  rw[h1]
  obtain⟨m,hm⟩:∃k,701+1-j=k+2:=⟨700-j,by omega⟩
  rw[hm,CR,Ak k1,k2]
  show CR s 1500 (m+1) Io=_
  have hk:Io.t.kind=DJ:=k3.1
  rw[CR,Ad (by rw[hk];decide)]
 have N3:EA s= .ok Io.t (next s Io):=by
  unfold EA
  rw[show Cw s 702 (start s)= .ok () AP from c1.trans g1]
  show(CR s 1500 702 AP).bind _=_
  rw[vF]
  show want s DJ Io=_
  unfold want
  rw[Ak (show Io.t.kind=DJ from k3.1)]
 rw[N3]
 have w4:(next s Io).wrong=none:=k4.wrong.trans (h4.wrong.trans g8)
 have r4:(next s Io).rules=(GF p).rules:=by
  show Io.rules=_
  rw[k4.rules]
  show Cb.rules++_=_
  rw[h43]
  rfl
 have d4:(next s Io).decls=p.decls:=k4.decls.trans (h4.decls.trans g3)
 have f4:(next s Io).freq=p.freq:=k4.freq.trans (h4.freq.trans g4)
 have hm:=Ps hp
 simp only[w4,r4,d4,f4,hm]
 have LV:=hp.miss
 cases hr:Cm p.rules with
 |none=>rw[hr]at LV;cases LV
 |some b=>rfl
theorem gP {p:AF} (hp:EO p) (mN:(text p).length≤700):read (text p)= .ok (GF p):=gO hp mN (hU hp mN) (fP hp)
theorem So {p:AF} (hp:EO p) (k:Int):AE (GF p).rules k=(AE p.rules k).map EI:=by
 by_cases h1:k= -1
 ·subst h1;exact Ps hp
 ·unfold GF
  have ap:∀(a b:List (Int×AC)),AE (a++b) k=(AE a k).or (AE b k):=by
   intro a b
   unfold AE
   rw[Ek]
   cases a.find? (fun x=>x.1==k)<;>rfl
  have eP:AE [((-1:Int),EI ((Cm p.rules).getD .nil))] k=none:=by
   unfold AE
   simp;omega
  rw[ap,eP,KO]
  by_cases h2:0≤k∧k<(p.decls.length:Int)
  ·rw[Ak h2];cases (AE p.rules k).map EI<;>rfl
  ·rw[Ad h2]
   cases hr:AE p.rules k with
   |none=>rfl
   |some b=>
    rcases(hp.rules.each _ (KP hr)).key with h|h
    ·exact absurd h h1
    ·exact absurd h.1 h2
theorem Pa (l:List Bf) (c:Da):CE l (Qm c)=CE l c:=by
 unfold CE Qm
 simp[Nat.mod_mod]
theorem Ee (l:List Bf):∀(b:AC),As l (EI b)=As l b
 | .nil=>rfl
 | .prim p r=>by simp only[EI,As,Ee l r]
 | .ite c t o e r=>by simp only[EI,As,Pa,Ee l t,Ee l e,Ee l r]
 | .rep n c b r=>by simp only[EI,As,Pa,Ee l b,Ee l r]
theorem fU {p:AF} (hp:EO p):text (GF p)=text p:=by
 have hr:∀n,Bh (GF p) n=Bh p n:=by
  intro n
  induction n with
  |zero=>rfl
  |succ n ih=>
   show Bh (GF p) n++C5 (GF p) n=Bh p n++C5 p n
   rw[ih]
   congr 1
   unfold C5
   rw[So hp]
   cases AE p.rules (n:Int)with
   |none=>rfl
   |some b=>
    show Mv++BE++AI p.decls (n:Int)++BE++(Bo++As p.decls (EI b)++BE++AU)++[10]=_
    rw[Ee]
    rfl
 have hm:Ig (GF p)=Ig p:=by
  unfold Ig
  rw[Ps hp]
  have h:=hp.miss
  cases hx:Cm p.rules with
  |none=>rw[hx]at h;cases h
  |some b=>
   show Mv++BE++Ec++BE++(Bo++As p.decls (EI b)++BE++AU)++[10]=_
   rw[Ee]
   rfl
 unfold text
 rw[hm,hr]
 rfl
theorem Pj (l:List Bf) (key:Int) (s:St) (c:Da):CW l key s (Qm c)=CW l key s c:=by
 unfold CW Qm
 simp[Nat.mod_mod]
theorem Sr {c c':St→Bool} {f f':GK→Except Nat GK} (hc:∀s,c s=c' s) (hf:∀r,f r=f' r):∀(n:Nat) (r:GK),IV c f n r=IV c' f' n r
 |0,r=>rfl
 |n+1,r=>by
  unfold IV
  rw[hc,hf]
  split
  ·cases f' r with
   |ok r=>exact Sr hc hf n r
   |error e=>rfl
  ·rfl
theorem gX (p:AF) (key:Int) (x:D9) (r:GK):prim (GF p) key x r=prim p key x r:=by
 cases x<;>rfl
theorem Jz (p:AF) (key:Int):∀(b:AC) (r:GK),exec (GF p) key (EI b) r=exec p key b r
 | .nil,r=>rfl
 | .prim x b,r=>by
  simp only[EI,exec,gX]
  cases prim p key x r with
  |ok r=>exact Jz p key b r
  |error e=>rfl
 | .ite c t o e b,r=>by
  have hd:(GF p).decls=p.decls:=rfl
  simp only[EI,exec,hd,Pj,Jz p key t,Jz p key e,Jz p key b]
 | .rep n c x b,r=>by
  have hd:(GF p).decls=p.decls:=rfl
  simp only[EI,exec,hd]
  rw[Sr (fun s=>Pj p.decls key s c) (fun r=>Jz p key x r)]
  cases IV (fun s=>CW p.decls key s c) (exec p key x) n.toNat r with
  |ok r=>exact Jz p key b r
  |error e=>rfl
def zW4 (c:UInt8):Bool:=low c||E6 c
def WD (k last w:Ae) (q:List Ae):List Ae:=if last=k then q++[w]else q
def nm:Ae→Ae→Ae→List Ae→List Ae→List Ae×List Ae
 | [],cur,last,q,g=>if cur=[]then(q,g)else(WD G1 last cur q,WD G4 last cur g)
 |c::r,cur,last,q,g=>
  if zW4 c then nm r (cur++[c]) last q g
  else if cur=[]then nm r [] last q g
  else if cur=Mv then(WD G1 last cur q,WD G4 last cur g)
  else nm r [] cur (WD G1 last cur q) (WD G4 last cur g)
def Pl (l:List Bf) (k:Nat):List Ae:=(l.filter (fun d=>d.kind==k)).map (·.name)
structure XO (p:AF) (s:St):Prop where
 si:Hc p s
 nov:∀(j:Nat) x,Oo s j x→(Au p.decls (j:Int)).kind≠2
 inv:∃A ns,CM A ns s.q
def M6 (e:LN) (l:List Ae):List Int:=l.flatMap fun n=>(e.keys n).getD []
theorem Od {l:List Bf} {i:Nat} {d:Bf} (h:l[i]?=some d):Au l (i:Int)=d:=by
 unfold Au;rw[A3,h];rfl
section
variable {p:AF} {s:St} {c:jy}
theorem XO.keys_at (hp:EO p) (h:XO p s) {i:Nat} {d:Bf} (hd:p.decls[i]?=some d) (hk:d.kind≠2):
  (⟨p,s,c⟩:LN).keys d.name=some ((s.queue (i:Int)).map (·.key))∧(s.queue (i:Int)).length≤50:=by
 have hf:=eW hp.decls.nodup hd
 refine⟨?_,?_⟩
 ·unfold LN.keys
  simp only[hf]
  rw[Ad]
  rintro(h1|h1)
  ·omega
  ·rw[Od hd]at h1;exact hk h1
 ·obtain⟨A,ns,hA⟩:=h.inv
  unfold St.queue
  rw[A3]
  cases hq:s.q[i]? with
  |none=>simp
  |some l=>
   simp only[Hs]
   rw[hA.ent,Az]at hq
   cases hn:ns[i]? with
   |none=>rw[hn]at hq;cases hq
   |some m=>
    rw[hn]at hq
    injection hq with hq
    rw[←hq,J7]
    exact hA.fifty i m hn
theorem Wk {l:List Bf} {k:Nat} {n:Ae}:n∈Pl l k↔∃(i:Nat) (d:Bf),l[i]?=some d∧d.kind=k∧d.name=n:=by
 unfold Pl
 constructor
 ·intro h
  obtain⟨d,h1,h2⟩:=AT.1 h
  obtain⟨h3,h4⟩:=DW.1 h1
  obtain⟨i,hi⟩:=Jn h3
  exact⟨i,d,hi,by simpa using h4,h2⟩
 ·rintro⟨i,d,h1,h2,h3⟩
  exact AT.2 ⟨d,DW.2 ⟨A7 h1,by simpa using h2⟩,h3⟩
theorem WC {i:Nat} {x:Int}:Oo s i x↔x∈(s.queue (i:Int)).map (·.key):=by
 unfold Oo St.queue
 rw[A3]
 constructor
 ·rintro⟨l,h1,h2⟩
  rw[h1];exact h2
 ·intro h
  cases hq:s.q[i]? with
  |none=>rw[hq]at h;simp at h
  |some l=>rw[hq]at h;exact⟨l,rfl,h⟩
theorem Mt (hp:EO p) (h:XO p s) {k:Nat} (hk:k≠2) (x:Int):x∈M6 ⟨p,s,c⟩ (Pl p.decls k)↔∃(i:Nat) (d:Bf),p.decls[i]?=some d∧d.kind=k∧Oo s i x:=by
 unfold M6
 rw[List.mem_flatMap]
 constructor
 ·rintro⟨n,h1,h2⟩
  obtain⟨i,d,a,b,rfl⟩:=Wk.1 h1
  rw[(h.keys_at hp a (by rw[b];exact hk)).1]at h2
  exact⟨i,d,a,b,WC.2 h2⟩
 ·rintro⟨i,d,a,b,h2⟩
  refine⟨d.name,Wk.2 ⟨i,d,a,b,rfl⟩,?_⟩
  rw[(h.keys_at hp a (by rw[b];exact hk)).1]
  exact WC.1 h2
def kf (e:LN):List Int:=M6 e (Pl e.p.decls 0)++M6 e (Pl e.p.decls 1)
theorem eu {l:List Bf} {i:Nat} {d:Bf} (hd:l[i]?=some d):Bl l (i:Int)=true↔d.kind=0:=by
 unfold Bl
 rw[Od hd]
 simp
theorem Oo.decl (h:XO p s) {i:Nat} {x:Int} (hx:Oo s i x):∃d,p.decls[i]?=some d:=by
 obtain⟨l,h1,_⟩:=hx
 have:=(Ap.1 h1).1
 rw[h.si.q]at this
 exact⟨_,Ah this⟩
theorem hY (hp:EO p) (h:XO p s) (x:Int):x∈kf ⟨p,s,c⟩↔∃i,Oo s i x:=by
 unfold kf
 rw[CI,Mt hp h (by decide),Mt hp h (by decide)]
 constructor
 ·rintro(⟨i,_,_,_,h1⟩|⟨i,_,_,_,h1⟩)<;>exact⟨i,h1⟩
 ·rintro⟨i,h1⟩
  obtain⟨d,hd⟩:=h1.decl h
  have hk:=(hp.decls.each d (A7 hd)).kind
  have hn:=h.nov i x h1
  rw[Od hd]at hn
  have:d.kind=0∨d.kind=1:=by omega
  rcases this with h2|h2
  ·exact .inl ⟨i,d,hd,h2,h1⟩
  ·exact .inr ⟨i,d,hd,h2,h1⟩
theorem kW (hp:EO p) (k:Int):ME p.decls (DX p k):=by
 unfold DX
 cases h:AE p.rules k with
 |none=>exact trivial
 |some b=>exact dZ hp h
theorem Z3 (hp:EO p) (h:XO p s) {key:Int} {hit:Bool} {gone:List Int} {e':LN} (ha:(⟨p,s,c⟩:LN).access key= .ok hit gone e'):
  e'.p=p∧XO p e'.s∧hit=Bl p.decls (FG s key)∧e'.n=Pm c hit gone.length∧
  (∀k∈M6 ⟨p,s,c⟩ (Pl p.decls 0),k∈M6 e' (Pl p.decls 0)∨k∈gone)∧
  (∀k∈M6 e' (Pl p.decls 0),k∈M6 ⟨p,s,c⟩ (Pl p.decls 0)∨k=key∨k∈M6 ⟨p,s,c⟩ (Pl p.decls 1)):=by
 unfold LN.access at ha
 simp only at ha
 split at ha
 ·cases ha
 ·rename_i r hr
  injection ha with h1 h2 h3
  obtain⟨A,ns,hA⟩:=h.inv
  have hc:=iQ hp hA h.si h.nov (kW hp _) hr
  have he:XO p r.s:=⟨hc.si,hc.nov,hc.inv⟩
  subst h3
  refine⟨rfl,he,h1.symm,?_,?_,?_⟩
  ·rw[←h1,←h2];rfl
  ·intro k hk
   obtain⟨i,d,a1,a2,a3⟩:=(Mt hp h (by decide) k).1 hk
   rcases hc.told i k ((eu a1).2 a2) a3 with⟨j,b1,b2⟩|b
   ·left
    obtain⟨d',sX⟩:=b2.decl he
    exact(Mt hp he (by decide) k).2 ⟨j,d',sX,(eu sX).1 b1,b2⟩
   ·right;rw[←h2];exact b
  ·intro k hk
   obtain⟨j,d',b1,b2,b3⟩:=(Mt hp he (by decide) k).1 hk
   rcases hc.old j k b3 with rfl|⟨i,a⟩
   ·exact .inr (.inl rfl)
   ·have:=(hY (c:=c) hp h k).2 ⟨i,a⟩
    rcases CI.1 this with h5|h5
    ·exact .inl h5
    ·exact .inr (.inr h5)
end
def Am.reord (A:Am) (sk:List Int):Am:={A with at_:=sk.map fun k=>(k,(A.idx k).getD 0)}
theorem M0 (f:Int→Nat) (key:Int):∀(sk:List Int),((sk.map fun k=>(k,f k)).find? (fun y=>y.1==key)).map (·.2)=if key∈sk then some (f key)else none
 | []=>rfl
 |k::sk=>by
  by_cases h:k=key
  ·subst h;simp
  ·have h1:(k==key)=false:=by simpa using h
   have h2:¬key=k:=fun e=>h e.symm
   rw[Cq,J8]
   simp only[h1]
   rw[M0 f key sk]
   simp[h2]
theorem gN {A:Am} {sk:List Int} (h:∀k,k∈sk↔(A.idx k).isSome=true) (key:Int):(A.reord sk).idx key=A.idx key:=by
 show((sk.map fun k=>(k,(A.idx k).getD 0)).find? (fun y=>y.1==key)).map (·.2)=_
 rw[M0]
 cases hi:A.idx key with
 |none=>
  rw[Ad]
  intro hm
  have:=(h key).1 hm
  rw[hi]at this;cases this
 |some n=>
  rw[Ak ((h key).2 (by rw[hi];rfl))]
  rfl
theorem CM.reord {A:Am} {ns:List (List Nat)} {qs:List (List Lo)} (h:CM A ns qs) {sk:List Int} (hs:∀k,k∈sk↔(A.idx k).isSome=true) (hn:sk.Nodup):CM (A.reord sk) ns qs:=by
 have hb:(A.reord sk).Bd:=⟨h.bd.node,h.bd.ends⟩
 refine⟨hb,h.len,h.q8,h.ends,h.dll,h.mem,h.nodup,h.fifty,h.ent,fun key n=>?_,?_,h.free,h.freen,h.cnt,h.lb⟩
 ·rw[gN hs]
  exact h.idx key n
 ·show((sk.map fun k=>(k,(A.idx k).getD 0)).map (·.1)).Nodup
  rw[dF]
  have:((fun x:Int×Nat=>x.1)∘fun k=>(k,(A.idx k).getD 0))=id:=by funext k;rfl
  rw[this,List.map_id]
  exact hn
end Go.Proofs.YtemppijblfflgaaGreatDoor.Ev
namespace Go.Proofs.YtemppijblfflgaaGreatDoor.Ev
open Go Go.RowKit
section
variable {B:Nat} {ea:Nat→Addr} {w:World} {g gp bm:Nat} {vd wp:Value} {s:Ae} {st:PS}
theorem DG.setFseen (h:DG B ea w g gp bm vd wp s st):DG B ea (w.setCell ⟨g,6,none⟩ (.bool true)) g gp bm vd wp s {st with fseen:=true}:=by
 have k1:Kg g w (w.setCell ⟨g,6,none⟩ (.bool true)):=Kg.cell g w 6 _
 exact h.turn (st':={st with fseen:=true}) (h.kg k1) (h.row.set_ 6 (.bool true)) rfl rfl rfl (h.wrong.quiet (h.kg k1)) h.i
theorem DG.setPol (h:DG B ea w g gp bm vd wp s st) (i:Nat) (u:Value) {Nu:Value} {st':PS} (hr:AM (w.setCell ⟨gp,i,none⟩ u) gp 90 [Nu,.int .i64 st'.freq,.map (some bm)])
  (hd:Sl (fun b=>B≤b∧b≠g) (w.setCell ⟨gp,i,none⟩ u) 86 3 Nu st'.decls.length (st'.decls.flatMap D0)) (LW:st'.decls.length≤1000) (BQ:Dq s st' gp wp=Dq s st gp wp) (IJ:st'.rules=st.rules) (hw:st'.wrong=st.wrong) (hi:st'.i=st.i):
  DG B ea (w.setCell ⟨gp,i,none⟩ u) g gp bm Nu wp s st':=by
 have hk:Af (fun b=>b=gp) w (w.setCell ⟨gp,i,none⟩ u):=Af.one w ⟨gp,i,none⟩ u
 refine⟨h.env.kept hk (fun b hb=>by rw[hb];exact h.gp0),by rw[BQ];exact h.row.kept hk (fun e=>h.gp_ne e.symm),hr,hd,?_,by rw[hw];exact h.wrong.row_kept hk (fun b cs hr e=>hr.ne_ h.pol (by decide) e),h.g0,h.gp0,h.bm0,by rw[hi];exact h.i,h.s,LW⟩
 rw[IJ]
 exact h.rules.kept (hk.block bm (fun e=>by obtain⟨M,h1,_⟩:=h.rules;exact h1.ne_row h.pol e)) (fun k cs _ hr=>hk.block k (fun e=>hr.ne_ h.pol (by decide) e))
theorem DG.setFreq (h:DG B ea w g gp bm vd wp s st) (n:Int):DG B ea (w.setCell ⟨gp,1,none⟩ (.int .i64 n)) g gp bm vd wp s {st with freq:=n}:=
 h.setPol 1 (.int .i64 n) (h.pol.set_ 1 (.int .i64 n)) (h.decls.kept (Af.one w ⟨gp,1,none⟩ _) (fun b hb e=>h.decls.ne_row h.pol (by decide) (by rw[hb];exact AL some e))) h.dl rfl rfl rfl rfl
theorem LJ (hB:B≤w.heap.size) (hg:B≤g) {w':World} (h:Kg g w w'):Af (fun b=>B≤b) w w':=h.mono (fun b hb=>hb.elim (fun e=>e▸hg) (fun hb=>Ai hB hb))
theorem iU (h:DG B ea w g gp bm vd wp s st) (ok:st.Ok s) (hk:st.t.kind=BX):
  Calls Tryz.prog 74 #[.pointer (some ⟨g,0,none⟩)] w fun e w'=>Jl B ea w g gp bm s (decl s st) e w':=by
 have hA:=Lk.start h 170 [vs st.t.kind,vs st.t.text,.int .i64 st.t.pos] (by decide)
 have FF:=Dy hA.rd
 obtain⟨_,_,c2,c3,c4,_⟩:=AV h.row
 have hB:=h.env.size
 have hg:=h.g0
 have HA:=Aa hA
 have HN:=Aa FF
 have IL:=Aa (BF ok)
 have HK:=Aa hk
 clear hA FF h ok hk
 unfold vs at*
 go_enter jS,dh
 go_wp2_with fail
 refine HN.out.mono ?_
 rintro e w1 ⟨rfl,Bi,h1⟩
 have LK:=HA.out.call Bi h1
 have d0:=LK.row.cell 0
 have d2:=LK.row.cell 2
 obtain⟨_,_,_,_,_,_,c6,_⟩:=AV h1.row
 have fr6:=h1.row.frozen 6
 simp at d0 d2
 rw[HK.out]at d0
 have Ki:w1.cell? ⟨8,0,none⟩=some (.iface 315 (.pointer (some (ea 4)))):=h1.env.err 4 (by omega) (by omega)
 have Vv:=GZ LK.rd 4 st.t.pos
 have xh:=Aa LK
 have HNO:=Aa Vv
 have H1:=Aa h1
 clear LK Vv h1 Bi
 cases Vz:st.fseen with
 |false=>
  have c6':w1.cell? ⟨g,6,none⟩=some (.bool false):=by rw[←Vz];exact c6
  have hF:=xh.out.rd.setFseen
  have kF:=Kg.trans xh.out.kg (Kg.cell g w1 6 (.bool true))
  have Kh:=Iu (hF.drewN 1) (by exact⟨IL.out.i,IL.out.pos,IL.out.more,IL.out.num,IL.out.name⟩) 1 99
  have HF:=Aa hF
  have KF:=Aa kF
  have NC:=Aa Kh
  obtain⟨_,_,_,_,_,c5,_⟩:=AV hF.row
  have Zy:decl s st=(number s 1 99 {next s st with fseen:=true}).bind fun n st=>(want s Ar {st with freq:=n}).bind fun _ st=>.ok () st:=by
   unfold decl
   simp only
   rw[Ak HK.out,Ad (by show¬st.fseen=true;rw[Vz];exact Bg)]
  have rU:=Aa Zy
  clear hF kF Kh c6 Zy Vz
  cases hx:number s 1 99 {next s st with fseen:=true}with
  |bad k pos=>
   have HX:=Aa hx
   clear hx
   go_wp2_with fail
   go_region_dies
   all_goals
    refine NC.out.mono ?_
    rintro e w3 ho
    rw[HX.out]at ho
    obtain⟨gf,rfl,hF⟩:=A9 hB hg (KF.out.drewN 1) ho
    refine⟨rfl,?_⟩
    rw[rU.out,HX.out]
    exact⟨gf,rfl,hF⟩
  |ok n AP=>
   have HX:=Aa hx
   clear hx
   go_wp2_with fail
   go_region_law (first|(go_simp;go_at_call 119;refine NC.out.mono ?_;rintro e w3 ho;rw[HX.out]at ho;obtain⟨v,rfl,rfl,BY,xt,jz,h3⟩:=ho;obtain⟨_,_,_,_,_,_J,_⟩:=AV h3.row;have p1:=h3.pol.cell 1;have pf:=h3.pol.frozen 1;have H3:=Aa h3;have K3:=Aa BY;clear h3 BY;simp at p1))
   all_goals
    have h4:=H3.out.setFreq n
    have k4:Af (fun b=>B≤b) w (w3.setCell ⟨gp,1,none⟩ (.int .i64 n)):=(LJ hB hg (Kg.trans (KF.out.drewN 1) K3.out)).setCell (p:=⟨gp,1,none⟩) H3.out.gp0 _
    have hw:=CD h4 Ar
    have K4:=Aa k4
    have HW:=Aa hw
    have H4:=Aa h4
    clear h4 k4 hw
    go_wp2_with fail
    refine HW.out.mono ?_
    rintro e w5 ho
    cases DU:want s Ar {AP with freq:=n}with
    |bad k pos=>
     rw[DU]at ho
     obtain⟨gf,rfl,hF,hG⟩:=ho
     have PP:=Aa DU
     clear DU
     go_wp2
     refine⟨rfl,?_⟩
     rw[rU.out,HX.out]
     show Jl _ _ _ _ _ _ _ ((want s Ar {AP with freq:=n}).bind _) _ _
     rw[PP.out]
     exact⟨gf,rfl,K4.out.trans hF,hG⟩
    |ok tw st5=>
     rw[DU]at ho
     obtain⟨v,rfl,rfl,He,xo,ue,h5⟩:=ho
     have PP:=Aa DU
     have K5:=Aa He
     have H5:=Aa h5
     clear DU He h5
     go_wp2
     go_end0
     rw[rU.out,HX.out]
     show Jl _ _ _ _ _ _ _ ((want s Ar {AP with freq:=n}).bind _) _ _
     rw[PP.out]
     exact⟨rfl,K4.out.trans (LJ H4.out.env.size hg K5.out),_,_,H5.out⟩
 |true=>
  have c6':w1.cell? ⟨g,6,none⟩=some (.bool true):=by rw[←Vz];exact c6
  have Zy:decl s st=(number s 1 99 {note CG st.t.pos (next s st)with fseen:=true}).bind fun n st=>(want s Ar {st with freq:=n}).bind fun _ st=>.ok () st:=by
   unfold decl
   simp only
   rw[Ak HK.out,Ak (show(next s st).fseen=true from Vz)]
  have rU:=Aa Zy
  clear c6 Zy Vz
  unfold Dn at*
  go_wp2_with fail
  refine HNO.out.mono ?_
  rintro e w2 ⟨rfl,A4,jA,h2⟩
  have h2e:DG B ea w2 g gp bm vd jA s (note CG st.t.pos (next s st)):=h2
  have hF:=h2e.setFseen
  have Aof:=h2.row.frozen 6
  obtain⟨_,_,_,_,_,_,Aoy,_⟩:=AV h2.row
  have kF:=Kg.trans (Kg.trans xh.out.kg A4) (Kg.cell g w2 6 (.bool true))
  have xw:=(Gm.note IL.out CG st.t.pos).ok
  have Kh:=Iu (hF.drewN 1) (by exact⟨xw.i,xw.pos,xw.more,xw.num,xw.name⟩) 1 99
  have HF:=Aa hF
  have KF:=Aa kF
  have NC:=Aa Kh
  obtain⟨_,_,_,_,_,c5,_⟩:=AV hF.row
  clear hF kF Kh h2 h2e A4 xw c6'
  cases hx:number s 1 99 {note CG st.t.pos (next s st)with fseen:=true}with
  |bad k pos=>
   have HX:=Aa hx
   clear hx
   go_wp2_with fail
   go_region_dies
   all_goals
    refine NC.out.mono ?_
    rintro e w3 ho
    rw[HX.out]at ho
    obtain⟨gf,rfl,hF⟩:=A9 hB hg (KF.out.drewN 1) ho
    refine⟨rfl,?_⟩
    rw[rU.out,HX.out]
    exact⟨gf,rfl,hF⟩
  |ok n AP=>
   have HX:=Aa hx
   clear hx
   go_wp2_with fail
   go_region_law (first|(go_simp;go_at_call 119;refine NC.out.mono ?_;rintro e w3 ho;rw[HX.out]at ho;obtain⟨v,rfl,rfl,BY,xt,jz,h3⟩:=ho;obtain⟨_,_,_,_,_,_J,_⟩:=AV h3.row;have p1:=h3.pol.cell 1;have pf:=h3.pol.frozen 1;have H3:=Aa h3;have K3:=Aa BY;clear h3 BY;simp at p1))
   all_goals
    have h4:=H3.out.setFreq n
    have k4:Af (fun b=>B≤b) w (w3.setCell ⟨gp,1,none⟩ (.int .i64 n)):=(LJ hB hg (Kg.trans (KF.out.drewN 1) K3.out)).setCell (p:=⟨gp,1,none⟩) H3.out.gp0 _
    have hw:=CD h4 Ar
    have K4:=Aa k4
    have HW:=Aa hw
    have H4:=Aa h4
    clear h4 k4 hw
    go_wp2_with fail
    refine HW.out.mono ?_
    rintro e w5 ho
    cases DU:want s Ar {AP with freq:=n}with
    |bad k pos=>
     rw[DU]at ho
     obtain⟨gf,rfl,hF,hG⟩:=ho
     have PP:=Aa DU
     clear DU
     go_wp2
     refine⟨rfl,?_⟩
     rw[rU.out,HX.out]
     show Jl _ _ _ _ _ _ _ ((want s Ar {AP with freq:=n}).bind _) _ _
     rw[PP.out]
     exact⟨gf,rfl,K4.out.trans hF,hG⟩
    |ok tw st5=>
     rw[DU]at ho
     obtain⟨v,rfl,rfl,He,xo,ue,h5⟩:=ho
     have PP:=Aa DU
     have K5:=Aa He
     have H5:=Aa h5
     clear DU He h5
     go_wp2
     go_end0
     rw[rU.out,HX.out]
     show Jl _ _ _ _ _ _ _ ((want s Ar {AP with freq:=n}).bind _) _ _
     rw[PP.out]
     exact⟨rfl,K4.out.trans (LJ H4.out.env.size hg K5.out),_,_,H5.out⟩
end
structure Fy (B:Nat) (ea:Nat→Addr) (g gp bm:Nat) (vd:Value) (s:Ae) (E5:PS) (w0:World) (OL:Value) (st:PS) (w:World) (wp:Value):Prop where
 base:DG B ea w0 g gp bm vd OL s E5
 decls:st.decls=E5.decls
 freq:st.freq=E5.freq
 rules:st.rules=E5.rules
 i:st.i≤s.length
 kg:Kg g w0 w
 row:AM w g 172 (Dq s st gp wp)
 wrong:IB B ea w wp st.wrong
section
variable {B:Nat} {ea:Nat→Addr} {w w0:World} {g gp bm D:Nat} {vd wp OL:Value} {s:Ae} {st E5:PS} {t:TypeId} {ds:List Value}
theorem Fy.rd (h:Fy B ea g gp bm vd s E5 w0 OL st w wp):DG B ea w g gp bm vd wp s st:=h.base.later h.kg h.row h.decls h.freq h.rules h.wrong h.i
theorem Fy.start (h:DG B ea w g gp bm vd wp s st):Fy B ea g gp bm vd s st w wp st w wp:=⟨h,rfl,rfl,rfl,h.i,Af.refl _ _,h.row,h.wrong⟩
theorem Fy.call (h:Fy B ea g gp bm vd s E5 w0 OL st w wp) {w':World} {st':PS} {Nu U9:Value} (hk:Kg g w w') (hr:DG B ea w' g gp bm Nu U9 s st') (hd:st'.decls=st.decls) (hf:st'.freq=st.freq) (IJ:st'.rules=st.rules):
  Fy B ea g gp bm vd s E5 w0 OL st' w' U9:=⟨h.base,hd.trans h.decls,hf.trans h.freq,IJ.trans h.rules,hr.i,Kg.trans h.kg hk,hr.row,hr.wrong⟩
theorem Fy.alloc (h:Fy B ea g gp bm vd s E5 w0 OL st w wp) (o:Obj):Fy B ea g gp bm vd s E5 w0 OL st (w.alloc o) wp:=
 h.call ((Af.refl _ _).alloc (.inr (Ab _)) o) (h.rd.alloc o) rfl rfl rfl
theorem Fy.drew (h:Fy B ea g gp bm vd s E5 w0 OL st w wp):Fy B ea g gp bm vd s E5 w0 OL st w.drew wp:=⟨h.base,h.decls,h.freq,h.rules,h.i,h.kg.drew,h.row,h.wrong.row_kept (S1:=fun _=>False) ((Af.refl _ w).drew) (fun _ _ _ x=>x)⟩
theorem Fy.set_ (h:Fy B ea g gp bm vd s E5 w0 OL st w wp) (hr:AM w D t ds) (hD:w0.heap.size≤D) (ht:t≠172∧t≠110) (i:Nat) (u:Value):Fy B ea g gp bm vd s E5 w0 OL st (w.setCell ⟨D,i,none⟩ u) wp:=
 ⟨h.base,h.decls,h.freq,h.rules,h.i,h.kg.setCell (p:=⟨D,i,none⟩) (.inr hD) u,h.row.far (h.row.ne_ hr (fun e=>ht.1 e.symm)) u,h.wrong.row_kept (Af.one w ⟨D,i,none⟩ u) (fun b cs hf e=>hf.ne_ hr (fun e=>ht.2 e.symm) e)⟩
theorem Fy.rowAt (h:Fy B ea g gp bm vd s E5 w0 OL st w wp) (hr:AM w D t ds) (ht:t≠172) {w':World} (hk:Kg g w w'):AM w' D t ds:=(Hw hk hr.lt (hr.ne_ h.row ht)).trans hr
theorem decl_eq (s:Ae) (st:PS) (hk:st.t.kind≠BX):decl s st=(want s BG (next s st)).bind fun n st1=>(number s 1 (BZ st.t.kind) (Ba n st1)).bind fun m Cb=>(want s Ar Cb).bind fun _ AP=>.ok () {AP with decls:=AP.decls++[⟨D2 st.t.kind,n.text,m⟩]}:=by
 unfold decl
 simp only
 rw[Ad hk]
def Np (n:Mc) (st:PS):PS:=if 0≤find st.decls n.text then note CG n.pos st else st
theorem FY (n:Mc) (st:PS):Ba n st=if(Np n st).decls.length=8 then note Nl n.pos (Np n st)else Np n st:=rfl
theorem Gy (n:Mc) (st:PS):(Np n st).decls=st.decls∧(Np n st).freq=st.freq∧(Np n st).rules=st.rules:=by
 unfold Np
 split
 ·obtain⟨a,b,_,c,_⟩:=Ju (s:=[]) CG n.pos st;exact⟨a,b,c⟩
 ·exact⟨rfl,rfl,rfl⟩
theorem JN (n:Mc) (st:PS):(Ba n st).decls=st.decls∧(Ba n st).freq=st.freq∧(Ba n st).rules=st.rules:=by
 rw[FY]
 obtain⟨x,y,z⟩:=Gy n st
 split
 ·obtain⟨a,b,_,c,_⟩:=Ju (s:=[]) Nl n.pos (Np n st);exact⟨a.trans x,b.trans y,c.trans z⟩
 ·exact⟨x,y,z⟩
theorem Fk (h:Fy B ea g gp bm vd s E5 w0 OL st w wp) {e:Ending} {w':World} {k pos:Nat} (hf:Ri B ea w e w' k pos):Ri B ea w0 e w' k pos:=A9 h.base.env.size h.base.g0 h.kg hf
theorem Un:(Tryz.prog.info? 86).map (fun i=>(i.zero,i.size,i.bytes))=some (some (.agg #[.int .i64 0,vs [],.int .i64 0]),3,32):=by kernel_rfl
theorem DG.plusDecl {n:Nat} {xs ys:List Value} (h:DG B ea w g gp bm vd wp s st) (d:Bf) {w2:World} {Nu:Value} (hn:st.decls.length=n) (MF:st.decls.flatMap D0=xs) (hys:D0 d=ys)
  (Cp:Sl (fun b=>B≤b∧b≠g) w2 86 3 Nu (n+1) (xs++ys))
  (A4:Af (fun b=>vd.ownBlock=some b∨w.heap.size≤b) w w2) (hl:st.decls.length+1≤1000):
  Af (fun b=>B≤b) w (w2.setCell ⟨gp,0,none⟩ Nu)∧DG B ea (w2.setCell ⟨gp,0,none⟩ Nu) g gp bm Nu wp s {st with decls:=st.decls++[d]}:=by
 subst hn MF hys
 have hle:∀b,vd.ownBlock=some b∨w.heap.size≤b→B≤b:=fun b hb=>hb.elim (fun hb=>(h.decls.2 b hb).1) (fun hb=>Ai h.env.size hb)
 have BQ:AM w2 g 172 (Dq s st gp wp):=h.row.kept A4 (by
  rintro(hb|hb)
  ·exact(h.decls.2 g hb).2 rfl
  ·exact absurd h.row.lt (GO.2 hb))
 have OO:AM w2 gp 90 [vd,.int .i64 st.freq,.map (some bm)]:=h.pol.kept A4 (by
  rintro(hb|hb)
  ·exact h.decls.ne_row h.pol (by decide) hb
  ·exact absurd h.pol.lt (GO.2 hb))
 have k2:Af (fun b=>B≤b) w w2:=A4.mono hle
 have k3:Af (fun b=>b=gp) w2 (w2.setCell ⟨gp,0,none⟩ Nu):=Af.one w2 ⟨gp,0,none⟩ Nu
 have el:(st.decls++[d]).length=st.decls.length+1:=by simp
 have ex:(st.decls++[d]).flatMap D0=st.decls.flatMap D0++D0 d:=by simp
 have mp:FP (fun b=>B≤b∧b≠g) w2 bm st.rules:=h.rules.kept
  (A4.block bm (by
   rintro(hb|hb)
   ·obtain⟨M,h1,_⟩:=h.rules
    exact h.decls.ne_map h1 hb
   ·obtain⟨M,⟨es,cl,h1,_⟩,_⟩:=h.rules
    rw[Ce hb]at h1
    cases h1))
  (fun k cs _ hr=>A4.block k (by
   rintro(hb|hb)
   ·exact h.decls.ne_row hr (by decide) hb
   ·exact absurd hr.lt (GO.2 hb)))
 have Pe:IB B ea w2 wp st.wrong:=h.wrong.row_kept A4 (fun b cs hr=>by
  rintro(hb|hb)
  ·exact h.decls.ne_row hr (by decide) hb
  ·exact absurd hr.lt (GO.2 hb))
 refine⟨k2.setCell (p:=⟨gp,0,none⟩) h.gp0 _,h.env.kept (k2.setCell (p:=⟨gp,0,none⟩) h.gp0 Nu) (fun b hb=>hb),BQ.kept k3 (fun e=>h.gp_ne e.symm),OO.set_ 0 Nu,?_,?_,Pe.row_kept k3 (fun b cs hr e=>hr.ne_ OO (by decide) e),h.g0,h.gp0,h.bm0,h.i,h.s,by rw[el];exact hl⟩
 ·rw[el,ex]
  exact Cp.kept k3 (fun b hb e=>Cp.ne_row OO (by decide) (e▸hb))
 ·exact mp.kept (k3.block bm (fun e=>by obtain⟨M,h1,_⟩:=mp;exact h1.ne_row OO e)) (fun k cs _ hr=>k3.block k (fun e=>hr.ne_ OO (by decide) e))
theorem IH (n:Mc) (ok:st.Ok s):(Ba n st).Ok s:=by
 have h1:(Np n st).Ok s:=by
  unfold Np
  split
  ·exact(Gm.note ok _ _).ok
  ·exact ok
 rw[FY]
 split
 ·exact(Gm.note h1 _ _).ok
 ·exact h1
end
end Go.Proofs.YtemppijblfflgaaGreatDoor.Ev
