/- Lemmas for a law's walk. Conditions: none. -/
import Derived.Test.YtepoejiigmhlbaaGreatDoorZc03
import Derived.Test.YtepoejiigmhlbaaGreatDoorZc04
import Derived.Test.YtepoejiigmhlbaaGreatDoorZc13
import Derived.Test.YtepoejiigmhlbaaGreatDoorZc14
set_option linter.all false
namespace Go.Proofs.YtepoejiigmhlbaaGreatDoor.Ev
open Go Go.RowKit
section
variable {S SA:Nat→Prop} {w:World} {gs ga:Nat} {A:Arena} {vva:Value} {vars:List Int} {ns:List (List Nat)} {qs:List (List Ent)}
attribute [local go_sem ↓] Go.wp_at_zero Go.wp_at_succ
def CloS (w:World) (vars:List Int) (ns:List (List Nat)) (qs:List (List Ent)) (e:Ending) (w':World):Prop:=
 ∃gs' ga' vva' SA' A',e= .returned (.pointer (some ⟨gs',0,none⟩))∧Kept (fun b=>w.heap.size≤b) w w'∧StB w.heap.size w' gs' ga' vva' SA' A' vars∧AInv A' ns qs
set_option maxRecDepth 100000 in
set_option maxHeartbeats 4000000 in
theorem sclone_any (h:∃vl vf vq bm,ARep SA w ga A vl vf vq bm) (hs:Row w gs 71 [.pointer (some ⟨ga,0,none⟩),vva]) (hv:Sl S w 3 1 vva vars.length (vars.map encI)) (hA:AInv A ns qs) (hvl:vars.length≤1000):
  Calls Tryz.prog 26 #[.pointer (some ⟨gs,0,none⟩)] w (CloS w vars ns qs):=by
 obtain⟨vl,vf,vq,bm,h⟩:=h
 have c0:=hs.cell 0
 have c1:=hs.cell 1
 have r1:=hs.lt
 have hok:=hA.ok
 obtain⟨av,cv,rfl⟩:∃a c,vva= .slice a vars.length c:=hv.shape
 obtain⟨j0,hj0,hy0,hy1,hy2⟩:=info_parts infoInt_
 have s2:=hv.src
 have o2:∀u∈vars.map encI,u.oneCell'=true:=by intro u hu;obtain⟨x,_,rfl⟩:=List.mem_map.1 hu;rfl
 have b2:=hv.src_lt
 have hcall:∀W,Kept (fun b=>w.heap.size≤b) w W→Calls Tryz.prog 52 #[.pointer (some ⟨ga,0,none⟩)] W fun e w'=>
   ∃g' A',e= .returned (.pointer (some ⟨g',0,none⟩))∧Kept (fun b=>W.heap.size≤b) W w'∧(∃vl vf vq bm,ARep (fun b=>W.heap.size≤b) w' g' A' vl vf vq bm)∧AInv A' ns qs:=fun W hk=>by
  have hW:=(h.shrink).kept hk (fun b hb=>by have:=hb.2;omega)
  refine(aclone_any hW hok.l2 hok.free2 (by have:=hA.q8;omega) hA.atn).mono ?_
  rintro e w' ⟨g',sk,h1,h2,h3,h4,h5⟩
  exact⟨g',A.reord sk,h1,h2,h3,hA.reord h5 h4⟩
 have HC:=Lib.hid hcall
 have S2:=Lib.hid s2
 have O2:=Lib.hid o2
 have B2:=Lib.hid b2
 have m2:vars.length≤maxLen:=by unfold maxLen;omega
 have n2:vars.length*8≤140737488355328:=by omega
 clear h hs hv hA hok s2 o2 b2 hcall
 simp at c0 c1
 go_enter Tryz.func26,Tryz.ntmps26
 go_wp2_with fail
 go_region_held3 (fun w'=>w'.cell? ⟨gs,0,none⟩=some (.pointer (some ⟨ga,0,none⟩))∧w'.cell? ⟨gs,1,none⟩=some (.slice av vars.length cv)∧Kept (fun b=>w.heap.size≤b) w w')
  ((repeat' apply And.intro)<;>(first
   |assumption
   |exact(Kept.cell hl1 (by simp only;omega)).trans c0
   |exact(Kept.cell hl1 (by simp only;omega)).trans c1
   |exact(Kept.cell hl2 (by simp only;omega)).trans c0
   |exact(Kept.cell hl2 (by simp only;omega)).trans c1
   |(with_reducible exact(Kept.refl _ _).drew)
   |exact hl1.alloc z1 _
   |exact hl2.alloc z2 _
   |go_keep
   ))
  (first
   |(refine step_copy (w0:=w) (N:=w.heap.size) ?_ (Nat.le_refl _) S2.out B2.out Tryz.underlying69 hj0 hy0 hy1 hy2 rfl (by decide) O2.out m2 n2 (by rfl) _ _ (by rfl) (by rfl) (by rfl) ?_;(first|exact(Kept.refl _ _).drew|exact hl1);intro a2 e2 w2 hs2 hk2 hl2;have z2:=hl2.size;have HS2:=Lib.hid hs2;have HK2:=Lib.hid hk2;clear hs2 hk2)
   |(go_at_call 52;refine(HC.out _ ?_).mono ?_;(first|exact(Kept.refl _ _).drew|exact hl2);rintro e w1 ⟨g',A',rfl,hk1,ha1,hi1⟩;have hl1:Kept (fun b=>w.heap.size≤b) w w1:=(by first|exact((Kept.refl _ _).drew).trans (hk1.mono (fun b hb=>hb))|exact hl2.trans (hk1.mono (fun b hb=>Nat.le_trans z2 hb)));have z1:=hl1.size;have HK1:=Lib.hid hk1;have HA1:=Lib.hid ha1;have HI1:=Lib.hid hi1;clear hk1 ha1 hi1))
 all_goals
  go_wp2
  go_ret
 ·obtain⟨xl,xf,xq,xm,ha⟩:=HA1.out
  have K2:=HK2.out
  have k1:=HK1.out.size
  have k2:=K2.size
  refine⟨_,g',.slice a2 vars.length e2,(fun b=>w.heap.size≤b∧b<w1.heap.size),A',rfl,hl2.alloc z2 _,⟨Row.new w2 _ _,(HS2.out.mono (fun b hb=>Nat.le_trans z1 hb)).alloc _,⟨xl,xf,xq,xm,?_⟩,z2,fun b hb=>⟨hb.1,?_⟩,fun hb=>?_,fun b hb hs=>?_⟩,HI1.out⟩
  ·exact((ha.shrink.kept K2 (fun b hb=>by have:=hb.2;omega)).alloc _).mono (fun b hb=>hb)
  ·have:=hb.2;simp;omega
  ·have:=hb.2;omega
  ·have h1:=HS2.out.2 b hb
   have h2:=hs.2
   simp only at h1
   omega
end
end Go.Proofs.YtepoejiigmhlbaaGreatDoor.Ev
namespace Go.Proofs.YtepoejiigmhlbaaGreatDoor.Ev
def FE (r:Except Nat Run):Prop:=
 match r with
 | .error k=>k=eFull∨k=eEmpty
 | .ok _=>True
theorem comes_fe (l:List Decl) (en:Ent) (a b:Int) (t:Bool) (r:Run):FE (comes l en a b t r):=by
 unfold comes
 split
 ·exact .inl rfl
 ·exact trivial
theorem prim_fe (p:Policy) (key:Int) (x:Prim) (r:Run):FE (prim p key x r):=by
 cases x with
 |put q t=>
  unfold prim
  simp only
  split
  ·exact comes_fe _ _ _ _ _ _
  ·exact comes_fe _ _ _ _ _ _
 |evict q=>
  unfold prim
  simp only
  split
  ·exact .inr rfl
  ·exact trivial
 |cool q=>
  unfold prim
  simp only
  split
  ·exact .inr rfl
  ·exact trivial
 |shift q b t=>
  unfold prim
  simp only
  split
  ·exact .inr rfl
  ·exact comes_fe _ _ _ _ _ _
 |inc v=>exact trivial
 |dec v=>exact trivial
 |drop=>
  unfold prim
  simp only
  split<;>exact trivial
 |bump=>
  unfold prim
  simp only
  split<;>exact trivial
theorem loop_fe {c:St→Bool} {f:Run→Except Nat Run} (hf:∀r,FE (f r)):∀(n:Nat) (r:Run),FE (loopN c f n r)
 |0,r=>trivial
 |n+1,r=>by
  unfold loopN
  split
  ·cases h:f r with
   |ok r'=>exact loop_fe hf n r'
   |error k=>have:=hf r;rw[h]at this;exact this
  ·exact trivial
theorem exec_fe (p:Policy) (key:Int):∀(b:Blk) (r:Run),FE (exec p key b r)
 | .nil,r=>trivial
 | .prim x b,r=>by
  unfold exec
  cases h:prim p key x r with
  |ok r'=>exact exec_fe p key b r'
  |error k=>have:=prim_fe p key x r;rw[h]at this;exact this
 | .ite c t o e b,r=>by
  unfold exec
  have h1:FE (if evalCond p.decls key r.s c then exec p key t r else if o then exec p key e r else .ok r):=by
   split
   ·exact exec_fe p key t r
   ·split
    ·exact exec_fe p key e r
    ·exact trivial
  cases h:(if evalCond p.decls key r.s c then exec p key t r else if o then exec p key e r else .ok r)with
  |ok r'=>exact exec_fe p key b r'
  |error k=>rw[h]at h1;exact h1
 | .rep n c x b,r=>by
  unfold exec
  have h1:=loop_fe (c:=fun s=>evalCond p.decls key s c) (f:=exec p key x) (fun r=>exec_fe p key x r) n.toNat r
  cases h:loopN (fun s=>evalCond p.decls key s c) (exec p key x) n.toNat r with
  |ok r'=>exact exec_fe p key b r'
  |error k=>rw[h]at h1;exact h1
theorem exec_err {p:Policy} {key:Int} {b:Blk} {r:Run} {k:Nat} (h:exec p key b r= .error k):1≤k∧k≤12:=by
 have:=exec_fe p key b r
 rw[h]at this
 rcases this with rfl|rfl<;>exact⟨by decide,by decide⟩
theorem whereQ_cases {p:Policy} {s:St} (hs:SInv p s) (key:Int):whereQ s key= -1∨Ix p.decls.length (whereQ s key):=by
 unfold whereQ
 cases hf:s.find key with
 |none=>exact .inl rfl
 |some x=>
  obtain⟨k,i⟩:=x
  obtain⟨l,h,_⟩:=find_atQ hf
  have:=(List.getElem?_eq_some_iff.1 h).1
  rw[hs.q]at this
  exact .inr ⟨by simp,by simp;exact this⟩
end Go.Proofs.YtepoejiigmhlbaaGreatDoor.Ev
namespace Go.Proofs.YtepoejiigmhlbaaGreatDoor.Ev
def place (l:List Int) (key:Int):Option Nat:=l.findIdx? (fun k=>k==key)
def atI (l:List Int) (key:Int):Int:=
 match place l key with
 |some i=>(i:Int)
 |none=> -1
def z (l:List Int):List Ent:=l.map fun k=>⟨k,0⟩
theorem place_none {l:List Int} {key:Int}:place l key=none↔key∉l:=by
 unfold place
 rw[List.findIdx?_eq_none_iff]
 constructor
 ·intro h hk
  have:=h key hk
  simp at this
 ·intro h x hx
  simp only[beq_eq_false_iff_ne]
  intro e
  exact h (e▸hx)
theorem access_eq (e:Eng) (key:Int) (r:Run) (h:exec e.p key (ruleFor e.p (whereQ e.s key)) ⟨e.s,[]⟩= .ok r):
  e.access key= .ok (resident e.p.decls (whereQ e.s key)) r.gone ⟨e.p,r.s,cntUp e.n (resident e.p.decls (whereQ e.s key)) r.gone.length⟩:=by
 unfold Eng.access
 simp only[h]
 rfl
end Go.Proofs.YtepoejiigmhlbaaGreatDoor.Ev
namespace Go.Proofs.YtepoejiigmhlbaaGreatDoor.Ev
open Go Go.RowKit
theorem Env.errC {B:Nat} {ea:Nat→Addr} {w:World} (h:Env B ea w) {B':Nat} (hB:B≤B'):ErrC B' ea w:=
 ⟨h.err 11 (by omega) (by omega),h.err 12 (by omega) (by omega),Nat.lt_of_lt_of_le (h.lt 11 (by omega) (by omega)) hB,Nat.lt_of_lt_of_le (h.lt 12 (by omega) (by omega)) hB⟩
def OutAcc (S:Nat→Prop) (w:World) (ge:Nat) (r:Ans) (p:Policy) (e0:Eng) (e:Ending) (w':World):Prop:=
 Kept (fun b=>b=ge∨w.heap.size≤b) w w'∧match r with
  | .err k=>e= .returned (.tuple #[.bool false,.slice none 0 0,.int .i64 k])∧EngR S w' ge e0
  | .ok hit gone e1=>∃v,e= .returned (.tuple #[.bool hit,v,.int .i64 0])∧Sl (fun b=>w.heap.size≤b) w' 32 1 v gone.length (gone.map encU)∧
    EngR (fun b=>(S b∨w.heap.size≤b)∧v.ownBlock≠some b) w' ge e1
def CntB (c:Cnt) (m:Nat):Prop:=0≤c.hits∧c.hits≤m∧0≤c.misses∧c.misses≤m∧0≤c.evicted∧c.evicted≤1750000*(m:Int)
theorem CntB.up {c:Cnt} {m:Nat} (h:CntB c m) (hit:Bool) {n:Nat} (hn:n≤1750000):CntB (cntUp c hit n) (m+1):=by
 obtain⟨a,b,c',d,f,g⟩:=h
 unfold CntB cntUp
 cases hit<;>simp<;>omega
theorem gone_most {p:Policy} (hp:PolW p) {key k:Int} {s:St} {r:Run} (h:exec p key (ruleFor p k) ⟨s,[]⟩= .ok r):r.gone.length≤1750000:=by
 have h1:=exec_gone (ruleFor p k) _ _ h
 have h2:(ruleFor p k).most≤1750000:=by
  unfold ruleFor
  cases hr:ruleOf p.rules k with
  |none=>exact Nat.zero_le _
  |some b=>exact rule_most hp hr
 simp at h1
 omega
section
variable {B:Nat} {ea:Nat→Addr} {S:Nat→Prop} {w:World} {ge:Nat} {e:Eng}
theorem acc_fin {gg gs ga gp bm bc loops gs' ga':Nat} {vd vva vva' vou:Value} {SA SA':Nat→Prop} {A A':Arena} {ns ns':List (List Nat)} {w2 w':World} {e1:Eng} {l:List Int}
  (h:EngP S w ge e gg gs ga gp bm bc loops vd vva SA A ns) (hk:Kept (fun b=>w.heap.size≤b) w w2) (hst:StB w.heap.size w2 gs' ga' vva' SA' A' e1.s.vars) (hA:AInv A' ns' e1.s.q) (hS:SInv e.p e1.s)
  (hv:Sl (fun b=>w.heap.size≤b) w2 32 1 vou l.length (l.map encU)) (hsep:∀b,vou.ownBlock=some b→¬SA' b∧b≠gs'∧vva'.ownBlock≠some b) (hp:e1.p=e.p)
  (hnov:∀(j:Nat) x,AtQ e1.s j x→(declAt e.p.decls (j:Int)).kind≠2) (hk3:Kept (fun b=>b=ge) w2 w')
  (hrow:Row w' ge 73 [.pointer (some ⟨gg,0,none⟩),.pointer (some ⟨gs',0,none⟩),.int .i64 e1.n.hits,.int .i64 e1.n.misses,.int .i64 e1.n.evicted]):
  Kept (fun b=>b=ge∨w.heap.size≤b) w w'∧Sl (fun b=>w.heap.size≤b) w' 32 1 vou l.length (l.map encU)∧EngR (fun b=>(S b∨w.heap.size≤b)∧vou.ownBlock≠some b) w' ge e1:=by
 have hge:=h.row.lt
 have hou:∀b,vou.ownBlock=some b→w.heap.size≤b:=fun b hb=>hv.2 b hb
 have hr2:Row w2 ge 73 _:=h.row.kept hk (by omega)
 have hP:=(h.prog.mono (S':=fun b=>(S b∧¬SA b)∧b<w.heap.size) (fun b hb hs=>⟨hs,hb⟩)).kept hk (fun b hb _=>by have:=hb.2;omega)
 have hgeP:¬(S ge∧False):=fun h=>h.2
 obtain⟨vl,vf,vq,bm',ha⟩:=hst.ar
 have n1:∀{t:TypeId} {size n:Nat} {v:Value} {xs:List Value} {N:Nat→Prop},Sl N w2 t size v n xs→t≠73→Sl N w' t size v n xs:=fun hs ht=>hs.kept hk3 (fun b hb e=>hs.ne_row hr2 ht (e▸hb))
 refine⟨(hk.mono (fun b hb=>.inr hb)).trans (hk3.mono (fun b hb=>.inl hb)),n1 hv (by decide),gg,gs',ga',gp,bm,bc,loops,vd,vva',SA',A',ns',hrow,?_,hst.srow.kept hk3 (hst.srow.ne_ hr2 (by decide)),?_,⟨vl,vf,vq,bm',ha.kept hk3 (fun b hb e=>by have:=(hst.sa b hb).1;omega)⟩,hA,by rw[hp];exact hS,by rw[hp];exact h.pw,by rw[hp];exact hnov,fun b hb=>?_,⟨⟨.inl h.se.1,fun hb=>by have:=hou _ hb;omega⟩,fun hb=>by have:=(hst.sa _ hb).1;omega⟩,⟨⟨.inr hst.gs0,fun hb=>(hsep _ hb).2.1 rfl⟩,hst.ss⟩⟩
 ·rw[hp]
  have hP2:ProgR (fun b=>(S b∧¬SA b)∧b<w.heap.size) w' gg e.p gp bm bc loops vd:=by
   have hb':∀{t:TypeId} {cs:List Value} {b:Nat},Row w2 b t cs→t≠73→¬b=ge:=fun hr ht e=>hr.ne_ hr2 ht e
   obtain⟨M,m1,m2⟩:=hP.code.map
   obtain⟨Mr,r1,r2,r3⟩:=hP.rules
   refine⟨⟨hP.code.row.kept hk3 (hb' hP.code.row (by decide)),⟨M,m1.kept hk3 (fun e=>m1.ne_row hr2 e),fun k=>?_⟩,hP.code.lo,hP.code.sg,hP.code.sm⟩,hP.pol.kept hk3 (hb' hP.pol (by decide)),n1 hP.decls (by decide),hP.rules.kept (hk3.block bm (fun e=>r1.ne_row hr2 e)) (fun k cs hN hr=>hk3.block k (hb' hr (by decide))),hP.sp,hP.sb⟩
   have:=m2 k
   cases hru:ruleOf e.p.rules k with
   |none=>rw[hru]at this;exact this
   |some b=>
    rw[hru]at this
    obtain⟨v,a,b',c,d1,d2,d3⟩:=this
    exact⟨v,a,b',c,d1,n1 d2 (by decide),d3⟩
  exact hP2.mono (fun b _ hb=>⟨⟨.inl hb.1.1,fun ho=>by have:=hou _ ho;have:=hb.2;omega⟩,fun hs=>by have:=(hst.sa b hs).1;have:=hb.2;omega⟩)
 ·exact⟨(n1 hst.vars (by decide)).1,fun b hb=>⟨⟨.inr (hst.vars.2 b hb),fun ho=>(hsep b ho).2.2 hb⟩,hst.s4 b hb⟩⟩
 ·exact⟨.inr (hst.sa b hb).1,fun ho=>(hsep b ho).1 hb⟩
end
end Go.Proofs.YtepoejiigmhlbaaGreatDoor.Ev
namespace Go.Proofs.YtepoejiigmhlbaaGreatDoor.Ev
open Go Go.RowKit
section
variable {B:Nat} {ea:Nat→Addr} {S:Nat→Prop} {w:World} {ge:Nat} {e:Eng}
theorem erun_any {gg gs ga gp bm bc loops gs' ga':Nat} {vd vva vva':Value} {SA SA':Nat→Prop} {A A':Arena} {ns:List (List Nat)} {w1:World} (he:Env B ea w) (h:EngP S w ge e gg gs ga gp bm bc loops vd vva SA A ns)
  (hk:Kept (fun b=>w.heap.size≤b) w w1) (hst:StB w.heap.size w1 gs' ga' vva' SA' A' e.s.vars) (hA:AInv A' ns e.s.q) (ev key:Int):
  Calls Tryz.prog 27 #[.pointer (some ⟨gg,0,none⟩),.pointer (some ⟨gs',0,none⟩),.int .i64 ev,.int .u64 key] w1 (OutRun w.heap.size ea w1 gs' e.p (exec e.p key (ruleFor e.p ev) ⟨e.s,[]⟩)):=by
 have hE1:=he.kept hk (fun b hb=>Nat.le_trans he.size hb)
 have hc:=(h.prog.code.mono_ (S':=fun b=>b<w.heap.size) (fun b hb _=>hb)).kept_ hk (fun b hb _=>by omega)
 obtain⟨M,m1,m2⟩:=hc.map
 exact run_any h.pw (hE1.errC he.size) (h.prog.ro.kept hk (fun b hb=>hb)) hst hA h.si hk.size hc.lo m1 (m2 ev)
set_option maxRecDepth 100000 in
set_option maxHeartbeats 4000000 in
theorem eacc_err (he:Env B ea w) (ho:ErrObj B ea w) (h0:EngR S w ge e) (hS:∀b,S b→b<w.heap.size) (key:Int) {k:Nat} (hx:exec e.p key (ruleFor e.p (whereQ e.s key)) ⟨e.s,[]⟩= .error k):
  Calls Tryz.prog 12 #[.pointer (some ⟨ge,0,none⟩),.int .u64 key] w (OutAcc S w ge (.err k) e.p e):=by
 obtain⟨k1,k2⟩:=exec_err hx
 have h0':=h0
 obtain⟨gg,gs,ga,gp,bm,bc,loops,vd,vva,SA,A,ns,h⟩:=h0'
 obtain⟨vl,vf,vq,bm2,har⟩:=h.ar
 have hwh:=where_any har h.inv.ok key
 have eq1:(⟨e.s.q,e.s.vars⟩:St)=e.s:=rfl
 have hwq:=h.inv.where_ key e.s.vars
 rw[eq1]at hwq
 rw[hwq]at hwh
 have hcl:=sclone_any h.ar h.srow h.vars h.inv (by have:=h.si.v;have:=h.pw.decls.len;omega)
 have hq:=whereQ_cases h.si key
 have hrun:=fun gs' ga' vva' SA' A' w1=>@erun_any B ea S w ge e gg gs ga gp bm bc loops gs' ga' vd vva vva' SA SA' A A' ns w1 he h
 have c0:=h.row.cell 0
 have c1:=h.row.cell 1
 have s0:=h.srow.cell 0
 have r1:=h.row.lt
 have r2:=h.srow.lt
 generalize whereQ e.s key=Q at*
 have HW:=Lib.hid hwh
 have HC:=Lib.hid hcl
 have HR:=Lib.hid hrun
 have H0:=Lib.hid h0
 have HE:=Lib.hid he
 have HO:=Lib.hid ho
 have HX:=Lib.hid hx
 have HS:=Lib.hid hS
 clear hwh hcl hrun h0 he ho hx har h eq1 hwq hS
 simp at c0 c1 s0
 rcases hq with rfl|hix
 all_goals
  first
   |have hneg:¬Q<0:=by have:=hix.1;omega
   |skip
  go_enter Tryz.func12,Tryz.ntmps12
  go_wp2_with fail
  refine HW.out.mono ?_
  rintro e1 w1 ⟨rfl,rfl⟩
  go_wp2_with fail
  refine HC.out.mono ?_
  rintro e1 w1' ⟨gs',ga',vva',SA',A',rfl,hk1,hst1,hA1⟩
  have d0:w1'.cell? ⟨ge,0,none⟩=some (.pointer (some ⟨gg,0,none⟩)):=(hk1.cell (p:=⟨ge,0,none⟩) (by simp only;omega)).trans c0
  have hr:=fun ev=>HR.out gs' ga' vva' SA' A' w1' hk1 hst1 hA1 ev key
  have HRR:=Lib.hid hr
  have K1:=Lib.hid hk1
  clear hr hk1 hst1 hA1
  go_wp2_with fail
  refine(HRR.out _).mono ?_
  rintro e1 w2 ⟨hk2,hm⟩
  rw[HX.out]at hm
  simp only at hm
  subst hm
  have kk:Kept (fun b=>w.heap.size≤b) w w2:=K1.out.trans hk2
  have hn:=number_err (HE.out.kept kk (fun b hb=>Nat.le_trans HE.out.size hb)) k1 k2 (isNum_err (HO.out.kept kk (fun b hb=>Nat.le_trans HE.out.size hb)) (Nat.le_trans HE.out.size kk.size) k1 k2)
  have HN:=Lib.hid hn
  have KK:=Lib.hid kk
  clear hn kk hk2
  unfold errV at HN ⊢
  go_wp2_with fail
  refine HN.out.mono ?_
  rintro e1 w3 ⟨rfl,hk3⟩
  have HK3:=Lib.hid hk3
  clear hk3
  go_wp2
  refine bodyPost_ret (v:=.tuple #[.bool false,.slice none 0 0,.int .i64 k]) (by simp[results,Tryz.results12,go_sem]) rfl ?_
  have k3:Kept (fun b=>w.heap.size≤b) w w3:=KK.out.trans (HK3.out.mono (fun b hb=>Nat.le_trans KK.out.size hb))
  exact⟨k3.mono (fun b hb=>.inr hb),rfl,H0.out.kept k3 (fun b hb hlt=>by omega)⟩
set_option maxRecDepth 100000 in
set_option maxHeartbeats 8000000 in
theorem eacc_ok (he:Env B ea w) (h0:EngR S w ge e) (hS:∀b,S b→b<w.heap.size) {m:Nat} (hm:m≤4000000) (hc:CntB e.n m) (key:Int) {r:Run} (hx:exec e.p key (ruleFor e.p (whereQ e.s key)) ⟨e.s,[]⟩= .ok r):
  Calls Tryz.prog 12 #[.pointer (some ⟨ge,0,none⟩),.int .u64 key] w (OutAcc S w ge (e.access key) e.p e):=by
 have hacc:=access_eq e key r hx
 rw[hacc]
 have hcons:=access_cons (c:=e.n) h0.inv.1 h0.inv.2 hacc
 have hnov:=hcons.2.1.nov
 have hgone:=gone_most h0.inv.1 hx
 clear hcons hacc
 obtain⟨gg,gs,ga,gp,bm,bc,loops,vd,vva,SA,A,ns,h⟩:=h0
 obtain⟨vl,vf,vq,bm2,har⟩:=h.ar
 have hwh:=where_any har h.inv.ok key
 have eq1:(⟨e.s.q,e.s.vars⟩:St)=e.s:=rfl
 have hwq:=h.inv.where_ key e.s.vars
 rw[eq1]at hwq
 rw[hwq]at hwh
 have hcl:=sclone_any h.ar h.srow h.vars h.inv (by have:=h.si.v;have:=h.pw.decls.len;omega)
 have hq:=whereQ_cases h.si key
 have hrun:=fun gs' ga' vva' SA' A' w1=>@erun_any B ea S w ge e gg gs ga gp bm bc loops gs' ga' vd vva vva' SA SA' A A' ns w1 he h
 have c0:=h.row.cell 0
 have c1:=h.row.cell 1
 have c2:=h.row.cell 2
 have c3:=h.row.cell 3
 have c4:=h.row.cell 4
 have s0:=h.srow.cell 0
 have g0:=h.prog.code.row.cell 0
 have p0:=h.prog.pol.cell 0
 have r1:=h.row.lt
 have r2:=h.srow.lt
 have r3:=h.prog.code.row.lt
 have r4:=h.prog.pol.lt
 have n1:gg≠ge:=h.prog.code.row.ne_ h.row (by decide)
 have n2:gp≠ge:=h.prog.pol.ne_ h.row (by decide)
 have hdec:=fun q hq=>h.prog.ro.decl (q:=q) hq
 have ndec:∀b,vd.ownBlock=some b→b≠ge∧b<w.heap.size:=fun b hb=>⟨fun e=>h.prog.decls.ne_row h.row (by decide) (e▸hb),h.prog.decls.lt hb⟩
 have h8:=h.pw.decls.len
 generalize whereQ e.s key=Q at*
 obtain⟨b1,b2,b3,b4,b5,b6⟩:=hc
 have HW:=Lib.hid hwh
 have HC:=Lib.hid hcl
 have HR:=Lib.hid hrun
 have HP:=Lib.hid h
 have HX:=Lib.hid hx
 have HS:=Lib.hid hS
 have HNOV:=Lib.hid hnov
 clear hwh hcl hrun he hx har h eq1 hwq hS hnov
 simp at c0 c1 c2 c3 c4 s0 g0 p0
 generalize hhits:e.n.hits=H at*
 generalize hmiss:e.n.misses=M at*
 generalize hevic:e.n.evicted=V at*
 have HH:=Lib.hid hhits
 have HM:=Lib.hid hmiss
 have HV:=Lib.hid hevic
 clear hhits hmiss hevic
 rcases hq with rfl|hix
 ·have hres:resident e.p.decls (-1)=false:=rfl
  rw[hres]at HNOV ⊢
  clear hdec ndec hres
  go_enter Tryz.func12,Tryz.ntmps12
  go_wp2_with fail
  refine HW.out.mono ?_
  rintro e1 w1 ⟨rfl,rfl⟩
  go_wp2_with fail
  refine HC.out.mono ?_
  rintro e1 w1' ⟨gs',ga',vva',SA',A',rfl,hk1,hst1,hA1⟩
  have d0:w1'.cell? ⟨ge,0,none⟩=some (.pointer (some ⟨gg,0,none⟩)):=(hk1.cell (p:=⟨ge,0,none⟩) (by simp only;omega)).trans c0
  have hr:=fun ev=>HR.out gs' ga' vva' SA' A' w1' hk1 hst1 hA1 ev key
  have HRR:=Lib.hid hr
  have K1:=Lib.hid hk1
  clear hr hk1 hst1 hA1
  go_wp2_with fail
  refine(HRR.out _).mono ?_
  rintro e1 w2 ⟨hk2,hm2⟩
  rw[HX.out]at hm2
  obtain⟨vou,ga2,vva2,SA2,A2,ns2,rfl,hst2,hA2,hS2,hs2,hsep⟩:=hm2
  have kk:Kept (fun b=>w.heap.size≤b) w w2:=K1.out.trans (hk2.mono (fun b hb=>hb))
  obtain⟨ao,co,rfl⟩:∃a c,vou= .slice a r.gone.length c:=hs2.shape
  have f1:=fun i=>kk.cell (p:=⟨ge,i,none⟩) (by simp only;omega)
  have x1:=(f1 1).trans c1
  have x2:=(f1 2).trans c2
  have x3:=(f1 3).trans c3
  have x4:=(f1 4).trans c4
  have hr2:Row w2 ge 73 _:=HP.out.row.kept kk (by omega)
  have ff:=fun j=>hr2.frozen j
  have KK:=Lib.hid kk
  have ST:=Lib.hid hst2
  have HA2:=Lib.hid hA2
  have HS2:=Lib.hid hS2
  have HV2:=Lib.hid hs2
  have SEP:=Lib.hid hsep
  have HR2:=Lib.hid hr2
  clear kk hst2 hA2 hS2 hs2 hsep hk2 f1 hr2
  go_wp2
  refine bodyPost_ret (v:=.tuple #[.bool false,.slice ao r.gone.length co,.int .i64 0]) (by simp[results,Tryz.results12,go_sem]) rfl ?_
  have hfin:=acc_fin (e1:=⟨e.p,r.s,cntUp e.n false r.gone.length⟩) (l:=r.gone) HP.out KK.out ST.out HA2.out HS2.out HV2.out SEP.out rfl HNOV.out
   (((Kept.one w2 ⟨ge,1,none⟩ (.pointer (some ⟨gs',0,none⟩))).setCell (p:=⟨ge,3,none⟩) rfl (.int .i64 (M+1))).setCell (p:=⟨ge,4,none⟩) rfl (.int .i64 (V+r.gone.length)))
   (by
    have h:=((HR2.out.set_ 1 (.pointer (some ⟨gs',0,none⟩))).set_ 3 (.int .i64 (M+1))).set_ 4 (.int .i64 (V+r.gone.length))
    simpa[cntUp,HH.out,HM.out,HV.out]using h)
  exact⟨hfin.1,_,rfl,hfin.2.1,hfin.2.2⟩
 ·obtain⟨gd,cd,ed,hcd,hcm,dk,_⟩:=hdec Q hix
  subst ed
  obtain⟨n3,r5⟩:=ndec gd rfl
  obtain⟨m2,rfl⟩:∃m:Nat,Q=(m:Int):=⟨Q.toNat,by have:=hix.1;omega⟩
  rw[Int.toNat_natCast]at dk
  have hm3:m2<e.p.decls.length:=by have:=hix.2;omega
  have eres:resident e.p.decls (m2:Int)=((declAt e.p.decls (m2:Int)).kind==0):=by unfold resident;simp
  rw[eres]at HNOV ⊢
  generalize (declAt e.p.decls (m2:Int)).kind=K at*
  generalize hD:e.p.decls.length=D at*
  unfold maxLen at hcm
  clear hD hdec ndec eres hix
  by_cases hK:K=0
  ·subst hK
   have eK:((0:Nat)==0)=true:=rfl
   rw[eK]at HNOV ⊢
   clear eK
   go_enter Tryz.func12,Tryz.ntmps12
   go_wp2_with fail
   refine HW.out.mono ?_
   rintro e1 w1 ⟨rfl,rfl⟩
   go_wp2_with fail
   refine HC.out.mono ?_
   rintro e1 w1' ⟨gs',ga',vva',SA',A',rfl,hk1,hst1,hA1⟩
   have d0:w1'.cell? ⟨ge,0,none⟩=some (.pointer (some ⟨gg,0,none⟩)):=(hk1.cell (p:=⟨ge,0,none⟩) (by simp only;omega)).trans c0
   have hr:=fun ev=>HR.out gs' ga' vva' SA' A' w1' hk1 hst1 hA1 ev key
   have HRR:=Lib.hid hr
   have K1:=Lib.hid hk1
   clear hr hk1 hst1 hA1
   go_wp2_with fail
   refine(HRR.out _).mono ?_
   rintro e1 w2 ⟨hk2,hm2⟩
   rw[HX.out]at hm2
   obtain⟨vou,ga2,vva2,SA2,A2,ns2,rfl,hst2,hA2,hS2,hs2,hsep⟩:=hm2
   have kk:Kept (fun b=>w.heap.size≤b) w w2:=K1.out.trans (hk2.mono (fun b hb=>hb))
   obtain⟨ao,co,rfl⟩:∃a c,vou= .slice a r.gone.length c:=hs2.shape
   have f1:=fun i=>kk.cell (p:=⟨ge,i,none⟩) (by simp only;omega)
   have x1:=(f1 1).trans c1
   have x2:=(f1 2).trans c2
   have x3:=(f1 3).trans c3
   have x4:=(f1 4).trans c4
   have hr2:Row w2 ge 73 _:=HP.out.row.kept kk (by omega)
   have ff:=fun j=>hr2.frozen j
   have y0:=(f1 0).trans c0
   have yg:=(kk.cell (p:=⟨gg,0,none⟩) (by simp only;omega)).trans g0
   have yp:=(kk.cell (p:=⟨gp,0,none⟩) (by simp only;omega)).trans p0
   have yd:=(kk.cell (p:=⟨gd,m2*3,none⟩) (by simp only;omega)).trans dk
   have KK:=Lib.hid kk
   have ST:=Lib.hid hst2
   have HA2:=Lib.hid hA2
   have HS2:=Lib.hid hS2
   have HV2:=Lib.hid hs2
   have SEP:=Lib.hid hsep
   have HR2:=Lib.hid hr2
   clear kk hst2 hA2 hS2 hs2 hsep hk2 f1 hr2
   go_wp2
   refine bodyPost_ret (v:=.tuple #[.bool true,.slice ao r.gone.length co,.int .i64 0]) (by simp[results,Tryz.results12,go_sem]) rfl ?_
   have hfin:=acc_fin (e1:=⟨e.p,r.s,cntUp e.n true r.gone.length⟩) (l:=r.gone) HP.out KK.out ST.out HA2.out HS2.out HV2.out SEP.out rfl HNOV.out
    (((Kept.one w2 ⟨ge,1,none⟩ (.pointer (some ⟨gs',0,none⟩))).setCell (p:=⟨ge,2,none⟩) rfl (.int .i64 (H+1))).setCell (p:=⟨ge,4,none⟩) rfl (.int .i64 (V+r.gone.length)))
    (by
     have h:=((HR2.out.set_ 1 (.pointer (some ⟨gs',0,none⟩))).set_ 2 (.int .i64 (H+1))).set_ 4 (.int .i64 (V+r.gone.length))
     simpa[cntUp,HH.out,HM.out,HV.out]using h)
   exact⟨hfin.1,_,rfl,hfin.2.1,hfin.2.2⟩
  ·have eK:(K==0)=false:=by simpa using hK
   rw[eK]at HNOV ⊢
   have eK2:((K:Int)==0)=false:=by simpa using hK
   have eK3:decide ((K:Int)=0)=false:=by simpa using hK
   clear eK
   go_enter Tryz.func12,Tryz.ntmps12
   go_wp2_with fail
   refine HW.out.mono ?_
   rintro e1 w1 ⟨rfl,rfl⟩
   go_wp2_with fail
   refine HC.out.mono ?_
   rintro e1 w1' ⟨gs',ga',vva',SA',A',rfl,hk1,hst1,hA1⟩
   have d0:w1'.cell? ⟨ge,0,none⟩=some (.pointer (some ⟨gg,0,none⟩)):=(hk1.cell (p:=⟨ge,0,none⟩) (by simp only;omega)).trans c0
   have hr:=fun ev=>HR.out gs' ga' vva' SA' A' w1' hk1 hst1 hA1 ev key
   have HRR:=Lib.hid hr
   have K1:=Lib.hid hk1
   clear hr hk1 hst1 hA1
   go_wp2_with fail
   refine(HRR.out _).mono ?_
   rintro e1 w2 ⟨hk2,hm2⟩
   rw[HX.out]at hm2
   obtain⟨vou,ga2,vva2,SA2,A2,ns2,rfl,hst2,hA2,hS2,hs2,hsep⟩:=hm2
   have kk:Kept (fun b=>w.heap.size≤b) w w2:=K1.out.trans (hk2.mono (fun b hb=>hb))
   obtain⟨ao,co,rfl⟩:∃a c,vou= .slice a r.gone.length c:=hs2.shape
   have f1:=fun i=>kk.cell (p:=⟨ge,i,none⟩) (by simp only;omega)
   have x1:=(f1 1).trans c1
   have x2:=(f1 2).trans c2
   have x3:=(f1 3).trans c3
   have x4:=(f1 4).trans c4
   have hr2:Row w2 ge 73 _:=HP.out.row.kept kk (by omega)
   have ff:=fun j=>hr2.frozen j
   have y0:=(f1 0).trans c0
   have yg:=(kk.cell (p:=⟨gg,0,none⟩) (by simp only;omega)).trans g0
   have yp:=(kk.cell (p:=⟨gp,0,none⟩) (by simp only;omega)).trans p0
   have yd:=(kk.cell (p:=⟨gd,m2*3,none⟩) (by simp only;omega)).trans dk
   have KK:=Lib.hid kk
   have ST:=Lib.hid hst2
   have HA2:=Lib.hid hA2
   have HS2:=Lib.hid hS2
   have HV2:=Lib.hid hs2
   have SEP:=Lib.hid hsep
   have HR2:=Lib.hid hr2
   clear kk hst2 hA2 hS2 hs2 hsep hk2 f1 hr2
   go_wp2
   refine bodyPost_ret (v:=.tuple #[.bool false,.slice ao r.gone.length co,.int .i64 0]) (by simp[results,Tryz.results12,go_sem]) rfl ?_
   have hfin:=acc_fin (e1:=⟨e.p,r.s,cntUp e.n false r.gone.length⟩) (l:=r.gone) HP.out KK.out ST.out HA2.out HS2.out HV2.out SEP.out rfl HNOV.out
    (((Kept.one w2 ⟨ge,1,none⟩ (.pointer (some ⟨gs',0,none⟩))).setCell (p:=⟨ge,3,none⟩) rfl (.int .i64 (M+1))).setCell (p:=⟨ge,4,none⟩) rfl (.int .i64 (V+r.gone.length)))
    (by
     have h:=((HR2.out.set_ 1 (.pointer (some ⟨gs',0,none⟩))).set_ 3 (.int .i64 (M+1))).set_ 4 (.int .i64 (V+r.gone.length))
     simpa[cntUp,HH.out,HM.out,HV.out]using h)
   exact⟨hfin.1,_,rfl,hfin.2.1,hfin.2.2⟩
theorem eaccess_any (he:Env B ea w) (ho:ErrObj B ea w) (h:EngR S w ge e) (hS:∀b,S b→b<w.heap.size) {m:Nat} (hm:m≤4000000) (hc:CntB e.n m) (key:Int):
  Calls Tryz.prog 12 #[.pointer (some ⟨ge,0,none⟩),.int .u64 key] w (OutAcc S w ge (e.access key) e.p e):=by
 cases hx:exec e.p key (ruleFor e.p (whereQ e.s key)) ⟨e.s,[]⟩with
 |ok r=>exact eacc_ok he h hS hm hc key hx
 |error k=>
  have ha:e.access key= .err k:=by
   unfold Eng.access
   simp only[hx]
  rw[ha]
  exact eacc_err he ho h hS key hx
end
end Go.Proofs.YtepoejiigmhlbaaGreatDoor.Ev
namespace Go.Proofs.YtepoejiigmhlbaaGreatDoor.Ev
open Go Go.RowKit
def LR (w:World) (v:Value) (l:List Int):Prop:=
 (v= .slice none 0 0∧l=[])∨∃g off c,v= .slice (some ⟨g,off,none⟩) l.length c∧l.length≤c∧c≤maxLen∧g<w.heap.size∧∀(i:Nat) x,l[i]?=some x→w.cell? ⟨g,off+i,none⟩=some (encU x)
section
variable {w w':World} {v:Value} {l:List Int}
theorem Sl.lr {S:Nat→Prop} (h:Sl S w 32 1 v l.length (l.map encU)):LR w v l:=by
 rcases h.1.2 with⟨h1,h0⟩|⟨g,cap,cur,rfl,_,hh,hc,hcm,_⟩
 ·exact .inl ⟨by rw[h1],List.length_eq_zero_iff.1 h0⟩
 ·refine .inr ⟨g,0,cap,rfl,hc,hcm,h.lt rfl,fun i x hx=>?_⟩
  have hi:i<l.length:=(List.getElem?_eq_some_iff.1 hx).1
  have:=h.1.cellAt i (by simpa using hi)
  rw[Nat.zero_add]
  refine this.trans ?_
  rw[List.getElem?_map,hx];rfl
theorem LR.drewN (h:LR w v l) (n:Nat):LR (w.drewN n) v l:=h
theorem LR.shape (h:LR w v l):∃a c,v= .slice a l.length c:=by
 rcases h with⟨rfl,rfl⟩|⟨g,off,c,rfl,_⟩
 ·exact⟨none,0,rfl⟩
 ·exact⟨_,_,rfl⟩
theorem LR.at_ {a:Option Addr} {c:Nat} (h:LR w (.slice a l.length c) l) {k:Nat} {x:Int} (hx:l[k]?=some x):∃g off,a=some ⟨g,off,none⟩∧w.cell? ⟨g,off+k,none⟩=some (.int .u64 x)∧l.length≤c∧c≤maxLen:=by
 rcases h with⟨_,rfl⟩|⟨g,off,c',e,h1,h2,h3,h4⟩
 ·simp at hx
 ·injection e with e1 e2 e3
  subst e1 e3
  exact⟨g,off,rfl,h4 k x hx,h1,h2⟩
end
section
variable {w:World}
theorem drewN2 (w:World) (a b:Nat):(w.drewN a).drewN b=w.drewN (a+b):=by simp[World.drewN,Nat.add_assoc]
def BoolQ (w:World) (b:Bool) (e:Ending) (w':World):Prop:=e= .returned (.bool b)∧∃n,w'=w.drewN n
set_option maxRecDepth 100000 in
set_option maxHeartbeats 4000000 in
theorem same_any {u v:Value} {a b:List Int} (ha:LR w u a) (hb:LR w v b) (hl:a.length≤1000000000) (hl2:b.length≤1000000000):Calls Tryz.prog 13 #[u,v] w (BoolQ w (a==b)):=by
 obtain⟨xa,ca,rfl⟩:=ha.shape
 obtain⟨xb,cb,rfl⟩:=hb.shape
 have HA:=Lib.hid ha
 have HB:=Lib.hid hb
 clear ha hb
 by_cases hlen:a.length=b.length
 ·have HL:=Lib.hid hlen
  rw[←hlen]
  clear hlen
  go_enter Tryz.func13,Tryz.ntmps13
  go_wp2
  go_loopg [13,5] a.length (fun gg s13 _ wr=>∃k:Nat,k≤a.length∧a.length-k≤gg∧s13= .int .i64 k∧(∃n,wr=w.drewN n)∧∀(j:Nat) x y,j<k→a[j]?=some x→b[j]?=some y→x=y)
  case atStart=>exact⟨0,Nat.zero_le _,by omega,rfl,⟨0,rfl⟩,fun j x y hj=>absurd hj (Nat.not_lt_zero _)⟩
  case round=>
   obtain⟨k,hk,hg,rfl,⟨n,rfl⟩,hall⟩:=hrel
   have HALL:=Lib.hid hall
   clear hall
   by_cases hlt:k<a.length
   ·obtain⟨x,hx⟩:∃x,a[k]?=some x:=⟨_,List.getElem?_eq_getElem hlt⟩
    obtain⟨y,hy⟩:∃y,b[k]?=some y:=⟨_,List.getElem?_eq_getElem (by have:=HL.out;omega)⟩
    obtain⟨ga,oa,rfl,hca,h1,h2⟩:=HA.out.at_ hx
    obtain⟨gb,ob,rfl,hcb,h3,h4⟩:=HB.out.at_ hy
    unfold maxLen at h2 h4
    rw[←HL.out]at h3
    have HX:=Lib.hid hx
    have HY:=Lib.hid hy
    clear hx hy
    by_cases e:x=y
    ·have e1:(x==y)=true:=by simpa using e
     have e2:decide (x=y)=true:=by simpa using e
     have E:=Lib.hid e
     clear e
     go_wp2
     go_quiet (fail)
     go_wp2
     go_roundg (a.length-(k+1))
     case measure=>omega
     case rel=>
      refine⟨k+1,by omega,by omega,by go_num,⟨n+nq,by first|rfl|exact drewN2 w n nq⟩,fun j x' y' hj h5 h6=>?_⟩
      by_cases ej:j=k
      ·subst ej
       rw[HX.out]at h5
       rw[HY.out]at h6
       injection h5 with h5
       injection h6 with h6
       rw[←h5,←h6];exact E.out
      ·exact HALL.out j x' y' (by omega) h5 h6
    ·have e1:(x==y)=false:=by simpa using e
     have e2:decide (x=y)=false:=by simpa using e
     have hne:(a==b)=false:=by
      rw[beq_eq_false_iff_ne]
      intro hab
      rw[hab]at HX
      have:=HX.out.symm.trans HY.out
      injection this with this
      exact e this
     have E:=Lib.hid e
     have HNE:=Lib.hid hne
     clear e hne
     go_wp2
     go_quiet (fail)
     go_wp2
     go_ret
     exact⟨by first|rfl|(rw[HNE.out];rfl),n+nq,by first|rfl|exact drewN2 w n nq⟩
   ·have hke:k=a.length:=by omega
    have hab:(a==b)=true:=by
     rw[beq_iff_eq]
     refine List.ext_getElem? fun i=>?_
     rcases Nat.lt_or_ge i a.length with hi|hi
     ·have hib:i<b.length:=by have:=HL.out;omega
      rw[List.getElem?_eq_getElem hi,List.getElem?_eq_getElem hib]
      exact congrArg some (HALL.out i _ _ (by omega) (List.getElem?_eq_getElem hi) (List.getElem?_eq_getElem hib))
     ·rw[List.getElem?_eq_none hi,List.getElem?_eq_none (by have:=HL.out;omega)]
    have HAB:=Lib.hid hab
    clear hab
    subst hke
    go_wp2
    go_ret
    exact⟨by rw[HAB.out];rfl,_,rfl⟩
 ·have hab:(a==b)=false:=by
   rw[beq_eq_false_iff_ne]
   intro e
   exact hlen (by rw[e])
  have e1:((a.length:Int)==(b.length:Int))=false:=by simp;omega
  have e2:decide ((a.length:Int)=(b.length:Int))=false:=by simp;omega
  rw[hab]
  clear hab
  go_enter Tryz.func13,Tryz.ntmps13
  go_wp2
  go_ret
  exact⟨rfl,0,rfl⟩
end
end Go.Proofs.YtepoejiigmhlbaaGreatDoor.Ev
namespace Go.Proofs.YtepoejiigmhlbaaGreatDoor.Ev
open Go Go.RowKit
theorem place_hit {l:List Int} {key:Int} {k:Nat} (h:l[k]?=some key) (hn:∀(j:Nat) x,j<k→l[j]?=some x→x≠key):place l key=some k:=by
 unfold place
 rw[List.findIdx?_eq_some_iff_getElem]
 obtain⟨h1,h2⟩:=List.getElem?_eq_some_iff.1 h
 refine⟨h1,by simp[h2],fun j hj=>?_⟩
 simpa using hn j _ hj (List.getElem?_eq_getElem (by omega))
section
variable {S:Nat→Prop} {w:World} {v:Value} {l:List Int}
def IntQ (w:World) (n:Int) (e:Ending) (w':World):Prop:=e= .returned (.int .i64 n)∧w'=w
set_option maxRecDepth 100000 in
set_option maxHeartbeats 4000000 in
theorem at_any (h:LR w v l) (hl:l.length≤1000000000) (key:Int):Calls Tryz.prog 14 #[v,.int .u64 key] w (IntQ w (atI l key)):=by
 obtain⟨a,c,rfl⟩:=h.shape
 have HA:=Lib.hid h
 clear h
 go_enter Tryz.func14,Tryz.ntmps14
 go_wp2
 go_loopg [9] l.length (fun gg s9 wr=>∃k:Nat,k≤l.length∧l.length-k≤gg∧s9= .int .i64 k∧wr=w∧∀(j:Nat) x,j<k→l[j]?=some x→x≠key)
 case atStart=>exact⟨0,Nat.zero_le _,by omega,rfl,rfl,fun j x hj=>absurd hj (Nat.not_lt_zero _)⟩
 case round=>
  obtain⟨k,hk,hg,rfl,rfl,hall⟩:=hrel
  have HALL:=Lib.hid hall
  clear hall
  by_cases hlt:k<l.length
  ·obtain⟨x,hx⟩:∃x,l[k]?=some x:=⟨_,List.getElem?_eq_getElem hlt⟩
   obtain⟨g,o,rfl,hc,h1,h2⟩:=HA.out.at_ hx
   unfold maxLen at h2
   have HX:=Lib.hid hx
   clear hx
   by_cases e:x=key
   ·have e1:(x==key)=true:=by simpa using e
    have e2:decide (x=key)=true:=by simpa using e
    have E:=Lib.hid e
    clear e
    go_wp2
    go_ret
    refine⟨?_,rfl⟩
    have hp:=place_hit (k:=k) (l:=l) (key:=key) (by rw[HX.out,E.out]) HALL.out
    unfold atI
    rw[hp]
    rfl
   ·have e1:(x==key)=false:=by simpa using e
    have e2:decide (x=key)=false:=by simpa using e
    have E:=Lib.hid e
    clear e
    go_wp2
    go_roundg (l.length-(k+1))
    case measure=>omega
    case rel=>
     refine⟨k+1,by omega,by omega,by go_num,rfl,fun j x' hj h5=>?_⟩
     by_cases ej:j=k
     ·subst ej
      rw[HX.out]at h5
      injection h5 with h5
      rw[←h5];exact E.out
     ·exact HALL.out j x' (by omega) h5
  ·have hke:k=l.length:=by omega
   have hp:place l key=none:=by
    rw[place_none]
    intro hm
    obtain⟨j,hj⟩:=List.getElem?_of_mem hm
    exact HALL.out j key (by have:=(List.getElem?_eq_some_iff.1 hj).1;omega) hj rfl
   have HPN:=Lib.hid hp
   clear hp
   subst hke
   go_wp2
   go_ret
   refine⟨?_,rfl⟩
   unfold atI
   rw[HPN.out]
   rfl
theorem one_u (l:List Int):∀u∈l.map encU,u.oneCell'=true:=by intro u hu;obtain⟨x,_,rfl⟩:=List.mem_map.1 hu;rfl
end
end Go.Proofs.YtepoejiigmhlbaaGreatDoor.Ev
namespace Go.Proofs.YtepoejiigmhlbaaGreatDoor.Ev
open Go Go.RowKit
section
variable {S:Nat→Prop} {w:World} {ge:Nat} {e:Eng}
theorem EngR.mine (h:EngR S w ge e):S ge:=by
 obtain⟨gg,gs,ga,gp,bm,bc,loops,vd,vva,SA,A,ns,h⟩:=h
 exact h.se.1
theorem EngR.shrink (h:EngR S w ge e):EngR (fun b=>S b∧b<w.heap.size) w ge e:=by
 obtain⟨gg,gs,ga,gp,bm,bc,loops,vd,vva,SA,A,ns,h⟩:=h
 obtain⟨vl,vf,vq,bm',ha⟩:=h.ar
 exact⟨gg,gs,ga,gp,bm,bc,loops,vd,vva,(fun b=>SA b∧b<w.heap.size),A,ns,h.row,h.prog.mono (fun b hb hs=>⟨⟨hs.1,hb⟩,fun k=>hs.2 k.1⟩),h.srow,
  h.vars.shrink.mono (fun b hb=>⟨⟨hb.1.1,hb.2⟩,fun k=>hb.1.2 k.1⟩),⟨vl,vf,vq,bm',ha.shrink⟩,h.inv,h.si,h.pw,h.nov,fun b hb=>⟨h.sa b hb.1,hb.2⟩,⟨⟨h.se.1,h.row.lt⟩,fun k=>h.se.2 k.1⟩,⟨⟨h.ss.1,h.srow.lt⟩,fun k=>h.ss.2 k.1⟩⟩
def OutRem (S:Nat→Prop) (w:World) (ge:Nat) (b:Bool) (e1:Eng) (e:Ending) (w':World):Prop:=
 e= .returned (.bool b)∧Kept (fun b=>S b∨w.heap.size≤b) w w'∧EngR (fun b=>S b∨w.heap.size≤b) w' ge e1
theorem idx_find {A:Arena} {ns:List (List Nat)} {s:St} (h:AInv A ns s.q) (key:Int):(A.idx key).isSome=(s.find key).isSome:=by
 have hfind:s.find key=(⟨s.q,s.vars⟩:St).find key:=rfl
 rw[hfind]
 cases hi:A.idx key with
 |none=>rw[h.find_none hi s.vars];rfl
 |some n=>
  obtain⟨k,l1,l2,a,b,c,d⟩:=h.find_some hi s.vars
  first
   |(rw[b];rfl)
   |(rw[c];rfl)
   |(rw[d];rfl)
set_option maxRecDepth 100000 in
set_option maxHeartbeats 1000000 in
theorem eremove_any (h0:EngR S w ge e) (key:Int):Calls Tryz.prog 15 #[.pointer (some ⟨ge,0,none⟩),.int .u64 key] w (OutRem S w ge (e.remove key).1 (e.remove key).2):=by
 obtain⟨gg,gs,ga,gp,bm,bc,loops,vd,vva,SA,A,ns,h⟩:=h0
 obtain⟨vl,vf,vq,bm',ha⟩:=h.ar
 have hst:=out_st h.inv key
 have hidx:=idx_find h.inv key
 have hrem:=remove_cons (c:=e.n) h.pw ⟨h.si,h.nov,A,ns,h.inv⟩ key
 have hout:=out_any (ha.mono (S':=fun b=>SA b∨w.heap.size≤b) (fun b hb=>.inl hb)) (fun k hk=>.inr hk) h.inv.ok (by have:=h.inv.q8;omega) key hst.1
 have c1:=h.row.cell 1
 have s0:=h.srow.cell 0
 have HO:=Lib.hid hout
 have HST:=Lib.hid hst
 have HI:=Lib.hid hidx
 have HR:=Lib.hid hrem
 have HH:=Lib.hid h
 clear hout hst hidx hrem h ha
 simp at c1 s0
 go_enter Tryz.func15,Tryz.ntmps15
 go_wp2_with fail
 refine HO.out.mono ?_
 rintro e1 w1 ⟨rfl,hk,vl',vf',vq',ha'⟩
 have HK:=Lib.hid hk
 have HA:=Lib.hid ha'
 clear hk ha'
 go_wp2
 go_ret
 have h:=HH.out
 have hlt:∀b,b<w.heap.size→¬SA b→¬(SA b∨w.heap.size≤b):=fun b h1 h2 h3=>h3.elim h2 (fun h4=>by omega)
 have hb1:(e.remove key).1=(e.s.find key).isSome:=by
  unfold Eng.remove
  cases e.s.find key with
  |none=>rfl
  |some x=>rfl
 have hv:(e.remove key).2.s.vars=e.s.vars:=by
  unfold Eng.remove
  cases e.s.find key with
  |none=>rfl
  |some x=>rfl
 have hp:(e.remove key).2.p=e.p:=HR.out.2.1
 have hn:(e.remove key).2.n=e.n:=HR.out.2.2.1
 have hE:EInv e.p (e.remove key).2.s:=HR.out.2.2.2.1
 obtain⟨ns',hA'⟩:∃ns',AInv (A.out key) ns' (e.remove key).2.s.q:=by
  have:=HST.out.2.2.2
  unfold Eng.remove
  cases hf:e.s.find key with
  |none=>rw[hf]at this;exact⟨ns,by rw[this.1];exact h.inv⟩
  |some x=>rw[hf]at this;exact this.1
 refine⟨by rw[hb1,←HI.out];rfl,HK.out.mono (fun b hb=>hb.elim (fun k=>.inl (h.sa b k)) .inr),gg,gs,ga,gp,bm,bc,loops,vd,vva,(fun b=>SA b∨w.heap.size≤b),A.out key,ns',?_,?_,?_,?_,⟨vl',vf',vq',bm',HA.out⟩,hA',by rw[hp];exact hE.si,by rw[hp];exact h.pw,by rw[hp];exact hE.nov,fun b hb=>hb.elim (fun k=>.inl (h.sa b k)) .inr,⟨.inl h.se.1,hlt _ h.row.lt h.se.2⟩,⟨.inl h.ss.1,hlt _ h.srow.lt h.ss.2⟩⟩
 ·rw[hn];exact h.row.kept HK.out (hlt _ h.row.lt h.se.2)
 ·rw[hp]
  exact(h.prog.mono (S':=fun b=>(S b∨w.heap.size≤b)∧¬(SA b∨w.heap.size≤b)) (fun b hb hs=>⟨.inl hs.1,hlt b hb hs.2⟩)).kept HK.out (fun b hb _=>hb.2)
 ·exact h.srow.kept HK.out (hlt _ h.srow.lt h.ss.2)
 ·rw[hv]
  exact⟨(h.vars.kept HK.out (fun b hb=>hlt b (h.vars.lt hb) (h.vars.2 b hb).2)).1,fun b hb=>⟨.inl (h.vars.2 b hb).1,hlt b (h.vars.lt hb) (h.vars.2 b hb).2⟩⟩
end
end Go.Proofs.YtepoejiigmhlbaaGreatDoor.Ev
namespace Go.Proofs.YtepoejiigmhlbaaGreatDoor.Ev
open Go Go.RowKit
section
variable {B:Nat} {ea:Nat→Addr} {S:Nat→Prop} {w:World} {ge:Nat} {e:Eng}
def OutKL (w:World) (p:Policy) (e:Ending) (w':World):Prop:=
 ∃ge,e= .returned (.pointer (some ⟨ge,0,none⟩))∧Kept (fun b=>w.heap.size≤b) w w'∧EngR (fun b=>w.heap.size≤b∧b<w'.heap.size) w' ge (Eng.new p)
set_option maxRecDepth 100000 in
set_option maxHeartbeats 1000000 in
theorem kload_any (he:Env B ea w) (ho:ErrObj B ea w) {s q:Bytes} {p:Policy} (hr:read s= .ok p) (hk:(Eng.new p).keys q=some []):Calls Tryz.prog 6 #[vs s,vs q] w (OutKL w p):=by
 have hload:=load_any he ho s
 have HL:=Lib.hid hload
 have HR:=Lib.hid hr
 have HK:=Lib.hid hk
 clear hload hr hk he ho
 go_enter Tryz.func6,Tryz.ntmps6
 go_wp2_with fail
 refine HL.out.mono ?_
 rintro e1 w1 ⟨hk1,hm⟩
 rw[HR.out]at hm
 obtain⟨ge,rfl,hE⟩:=hm
 have hkeys:=ekeys_any hE q
 rw[HK.out]at hkeys
 have HKE:=Lib.hid hkeys
 have HE:=Lib.hid hE
 have K1:=Lib.hid hk1
 clear hkeys hE hk1
 go_wp2_with fail
 refine HKE.out.mono ?_
 rintro e2 w2 ⟨hk2,v,rfl,hs⟩
 obtain⟨a,c,rfl⟩:∃a c,v= .slice a 0 c:=hs.shape
 have K2:=Lib.hid hk2
 clear hk2 hs
 go_wp2
 go_ret
 exact⟨ge,rfl,K1.out.trans (K2.out.mono (fun b hb=>Nat.le_trans K1.out.size hb)),(HE.out.kept K2.out (fun b hb hl h2=>by omega)).mono (fun b hb=>⟨hb.1,Nat.lt_of_lt_of_le hb.2 K2.out.size⟩)⟩
end
end Go.Proofs.YtepoejiigmhlbaaGreatDoor.Ev
