/- Parts of a proof that a law's walk returns true. Conditions: none. -/
import Derived.Test.YtemppijblfflgaaGreatDoorZa00
import Derived.Test.YtemppijblfflgaaGreatDoorZa01
import Derived.Test.YtemppijblfflgaaGreatDoorZa02
import Derived.Test.YtemppijblfflgaaGreatDoorZa03
import Derived.Test.YtemppijblfflgaaGreatDoorZa04
set_option linter.all false
set_option maxRecDepth 100000
set_option maxHeartbeats 8000000
namespace Go.Proofs.YtemppijblfflgaaGreatDoor.Ev
open Go Go.RowKit
theorem VW.kept {B:Nat} {ea:Nat→Addr} {w w':World} {S:Nat→Prop} (h:VW B ea w) (hk:Af S w w') (hS:∀b,S b→B≤b):VW B ea w':=
 ⟨Ai h.size hk.size,fun k h1 h2=>(hk.cell (p:=⟨Kx k,0,none⟩) (fun hs=>by have:=hS _ hs;have:=h.lt k h1 h2;simp at*;omega)).trans (h.err k h1 h2),h.lt,
  W9 h.kw hk (fun hs=>by have:=hS _ hs;have:=h.kwlt;omega),h.kwlt⟩
structure DG (B:Nat) (ea:Nat→Addr) (w:World) (g gp bm:Nat) (vd wp:Value) (s:Ae) (st:PS):Prop where
 env:VW B ea w
 row:AM w g 172 (Dq s st gp wp)
 pol:AM w gp 90 [vd,.int .i64 st.freq,.map (some bm)]
 decls:Sl (fun b=>B≤b∧b≠g) w 86 3 vd st.decls.length (st.decls.flatMap D0)
 rules:FP (fun b=>B≤b∧b≠g) w bm st.rules
 wrong:IB B ea w wp st.wrong
 g0:B≤g
 gp0:B≤gp
 bm0:B≤bm
 i:st.i≤s.length
 s:s.length≤700
 dl:st.decls.length≤1000
abbrev Kg (g:Nat) (w w':World):Prop:=Af (fun b=>b=g∨w.heap.size≤b) w w'
theorem Kg.trans {g:Nat} {a b c:World} (h:Kg g a b) (k:Kg g b c):Kg g a c:=
 Af.trans h (k.mono fun x hx=>hx.elim .inl (fun h1=>.inr (Ai h.size h1)))
section
variable {B:Nat} {ea:Nat→Addr} {w w':World} {g gp bm:Nat} {vd wp:Value} {s:Ae} {st:PS}
theorem FP.kept {N:Nat→Prop} {rules:List (Int×AC)} (h:FP N w bm rules) (hm:w'.heap[bm]?=w.heap[bm]?) (hk:∀k cs,N k→AM w k 258 cs→w'.heap[k]?=w.heap[k]?):FP N w' bm rules:=by
 obtain⟨M,h1,h2,h3⟩:=h
 exact⟨M,h1.of_block hm,h2,fun i x y hx hy=>(h3 i x y hx hy).kept hk⟩
theorem DG.gp_ne (h:DG B ea w g gp bm vd wp s st):gp≠g:=h.pol.ne_ h.row (by decide)
theorem Hw (hk:Kg g w w') {b:Nat} (hb:b<w.heap.size) (hn:b≠g):w'.heap[b]?=w.heap[b]?:=hk.block b (by rintro(h|h);exact hn h;omega)
structure Lh (B:Nat) (w w':World):Prop where
 os:w'.os=w.os
 tape:w'.tape=w.tape
 output:w'.output=w.output
 size:w.heap.size≤w'.heap.size
 low:∀b,b<B→w'.heap[b]?=w.heap[b]?
 row:∀(b:Nat) t cs,AM w b t cs→(t=90∨t=86∨t=258∨t=110)→w'.heap[b]?=w.heap[b]?
 maps:∀(b:Nat) es c,w.heap[b]?=some (Obj.map es c)→w'.heap[b]?=w.heap[b]?
theorem Lh.kg (hB:B≤w.heap.size) (hg:B≤g) {cs:List Value} (hr:AM w g 172 cs) (hk:Kg g w w'):Lh B w w':=
 ⟨hk.os,hk.tape,hk.output,hk.size,fun b hb=>Hw hk (by omega) (by omega),
  fun b t VG h1 ht=>Hw hk h1.lt (h1.ne_ hr (by rcases ht with rfl|rfl|rfl|rfl<;>decide)),
  fun b es c hm=>Hw hk (by
   rcases BP b w.heap.size with Cy|Xn
   ·exact Cy
   ·rw[Ce Xn]at hm;cases hm) (by
   rintro rfl
   unfold AM at hr
   rw[hr]at hm
   cases hm)⟩
theorem Lh.set_ {n:Nat} {t:TypeId} {cs:List Value} (hn:B≤n) (hr:AM w n t cs) (ht:t≠90∧t≠86∧t≠258∧t≠110) (i:Nat) (u:Value):Lh B w (w.setCell ⟨n,i,none⟩ u):=by
 have hk:Af (fun b=>b=n) w _:=Af.one w ⟨n,i,none⟩ u
 refine⟨rfl,rfl,rfl,hk.size,fun b hb=>hk.block b (by omega),fun b t' VG h1 ht'=>hk.block b (h1.ne_ hr ?_),fun b es c hm=>hk.block b ?_⟩
 ·rintro rfl
  rcases ht' with h|h|h|h
  ·exact ht.1 h
  ·exact ht.2.1 h
  ·exact ht.2.2.1 h
  ·exact ht.2.2.2 h
 ·rintro rfl
  unfold AM at hr
  rw[hr]at hm
  cases hm
theorem Lh.alloc (o:Obj) (hB:B≤w.heap.size):Lh B w (w.alloc o):=
 ⟨rfl,rfl,rfl,by simp,fun b hb=>FR w o b (by omega),fun b t cs h1 _=>FR w o b h1.lt,fun b es c hm=>FR w o b (by
   rcases BP b w.heap.size with Cy|Xn
   ·exact Cy
   ·rw[Ce Xn]at hm;cases hm)⟩
theorem IB.quiet {x:Option (Nat×Nat)} (h:IB B ea w wp x) (hk:Lh B w w'):IB B ea w' wp x:=by
 cases x with
 |none=>exact h
 |some y=>
  obtain⟨gf,h1,h2,h3⟩:=h
  exact⟨gf,h1,h2,(hk.row gf _ _ h3 (.inr (.inr (.inr rfl)))).trans h3⟩
theorem Sl.of_quiet {S:Nat→Prop} {n:Nat} {v:Value} {xs:List Value} (h:Sl S w 86 3 v n xs) (hk:Lh B w w'):Sl S w' 86 3 v n xs:=by
 obtain⟨⟨h0,h1⟩,h2⟩:=h
 refine⟨⟨h0,?_⟩,h2⟩
 rcases h1 with h1|⟨g,cap,cur,rfl,hb,hg,h4⟩
 ·exact .inl h1
 ·exact .inr ⟨g,cap,cur,rfl,hb,(hk.row g _ cur.toList (by unfold AM;simpa using hg) (.inr (.inl rfl))).trans hg,h4⟩
theorem DG.turn (h:DG B ea w g gp bm vd wp s st) (hk:Lh B w w') {st':PS} {U9:Value} (hr:AM w' g 172 (Dq s st' gp U9)) (hd:st'.decls=st.decls) (hf:st'.freq=st.freq) (IJ:st'.rules=st.rules)
  (hw:IB B ea w' U9 st'.wrong) (hi:st'.i≤s.length):DG B ea w' g gp bm vd U9 s st':=by
 refine⟨h.env.kept (S:=fun b=>B≤b) ⟨hk.os,hk.tape,hk.output,hk.size,fun b hb=>hk.low b (by omega)⟩ (fun b hb=>hb),hr,?_,?_,?_,hw,h.g0,h.gp0,h.bm0,hi,h.s,by rw[hd];exact h.dl⟩
 ·rw[hf];exact(hk.row gp _ _ h.pol (.inl rfl)).trans h.pol
 ·rw[hd]
  exact h.decls.of_quiet hk
 ·rw[IJ]
  obtain⟨M,⟨es,cl,h1,h2⟩,h3,h4⟩:=h.rules
  exact⟨M,⟨es,cl,(hk.maps bm es cl h1).trans h1,h2⟩,h3,fun i x y hx hy=>(h4 i x y hx hy).kept (fun k cs _ hr=>hk.row k _ cs hr (.inr (.inr (.inl rfl))))⟩
theorem DG.kg (h:DG B ea w g gp bm vd wp s st) (hk:Kg g w w'):Lh B w w':=Lh.kg h.env.size h.g0 h.row hk
theorem DG.alloc (h:DG B ea w g gp bm vd wp s st) (o:Obj):DG B ea (w.alloc o) g gp bm vd wp s st:=
 h.turn (Lh.alloc o h.env.size) (h.row.alloc o) rfl rfl rfl (h.wrong.quiet (Lh.alloc o h.env.size)) h.i
theorem DG.set_ (h:DG B ea w g gp bm vd wp s st) {n:Nat} {t:TypeId} {cs:List Value} (hn:B≤n) (hr:AM w n t cs) (ht:t≠90∧t≠86∧t≠258∧t≠110) (hng:t≠172) (i:Nat) (u:Value):
  DG B ea (w.setCell ⟨n,i,none⟩ u) g gp bm vd wp s st:=
 h.turn (Lh.set_ hn hr ht i u) (h.row.far (h.row.ne_ hr (fun e=>hng e.symm)) u) rfl rfl rfl (h.wrong.quiet (Lh.set_ hn hr ht i u)) h.i
end
def Ri (B:Nat) (ea:Nat→Addr) (w:World) (e:Ending) (w':World) (k pos:Nat):Prop:=
 ∃gf,e= .panicked [{v:=.iface 106 (.pointer (some ⟨gf,0,none⟩)),recovered:=false}]∧Af (fun b=>B≤b) w w'∧AM w' gf 110 [Dn ea k,.int .i64 pos]∧B≤gf
section
variable {B:Nat} {ea:Nat→Addr} {w:World} {g gp bm:Nat} {vd wp:Value} {s:Ae} {st:PS}
theorem QK (h:DG B ea w g gp bm vd wp s st) (k:Nat):Calls Tryz.prog 124 #[.pointer (some ⟨g,0,none⟩),Dn ea k] w fun e w'=>Ri B ea w e w' k st.t.pos:=by
 obtain⟨_,_,_,_,c4,_⟩:=AV h.row
 have Fw:=h.env.size
 have A6:Ri B ea w (.panicked [{v:=.iface 106 (.pointer (some ⟨w.heap.size,0,none⟩)),recovered:=false}]) (w.alloc (.cells #[Dn ea k,.int .i64 st.t.pos] 110)) k st.t.pos:=
  ⟨_,rfl,(Af.refl _ _).alloc Fw _,AM.new w _ _,Fw⟩
 have Hf:=Aa A6
 unfold Dn at*
 clear A6 h Fw
 go_enter Tryz.func124,Tryz.ntmps124
 go_wp2
 exact⟨rfl,Hf.out⟩
theorem aJ (h:DG B ea w g gp bm vd wp s st) {w':World} (hk:Af (fun b=>b=g) w w') (hr:AM w' g 172 (Dq s (next s st) gp wp)):DG B ea w' g gp bm vd wp s (next s st):=by
 have iG:Kg g w w':=hk.mono fun b hb=>.inl hb
 exact h.turn (h.kg iG) hr rfl rfl rfl (h.wrong.quiet (h.kg iG)) (by
  exact(Jy s st.i h.i).2.2.1)
theorem Dy (h:DG B ea w g gp bm vd wp s st):
  Calls Tryz.prog 73 #[.pointer (some ⟨g,0,none⟩)] w fun e w'=>e= .returned (.tuple #[])∧Kg g w w'∧DG B ea w' g gp bm vd wp s (next s st):=by
 refine(lx g gp wp s st w h.env.kw (fun e=>by have:=h.env.kwlt;have:=h.g0;omega) (by have:=h.s;omega) h.i h.row).mono ?_
 rintro e w' ⟨he,hk,hr⟩
 exact⟨he,hk.mono fun b hb=>.inl hb,aJ h hk hr⟩
def GB (t:Mc):Value:=.agg #[vs t.kind,vs t.text,.int .i64 t.pos]
def Di {α:Type} (B:Nat) (ea:Nat→Addr) (w:World) (g gp bm:Nat) (s:Ae) (x:AJ α) (val:World→α→Value→Prop) (e:Ending) (w':World):Prop:=
 match x with
 | .ok a st'=>∃v,e= .returned v∧val w' a v∧Kg g w w'∧∃vd wp,DG B ea w' g gp bm vd wp s st'
 | .bad k pos=>Ri B ea w e w' k pos
theorem Gn (h:DG B ea w g gp bm vd wp s st) (k:Ae):
  Calls Tryz.prog 121 #[.pointer (some ⟨g,0,none⟩),vs k] w fun e w'=>e= .returned (.bool (take s k st).1)∧Kg g w w'∧DG B ea w' g gp bm vd wp s (take s k st).2:=by
 obtain⟨_,_,c2,_⟩:=AV h.row
 have HR:=Aa h
 unfold vs at*
 by_cases hk:st.t.kind=k
 ·have e1:(st.t.kind==k)=true:=by simpa using hk
  have e2:take s k st=(true,next s st):=by unfold take;rw[Ak hk]
  rw[e2]
  clear hk e2 h
  go_enter Tryz.func121,Tryz.ntmps121
  go_wp2_with (go_at_call 73;refine(Dy HR.out).mono ?_;rintro e w' ⟨rfl,Bi,h1⟩;have Lv:=Aa Bi;have H1:=Aa h1;clear Bi h1)
  go_ret
  exact⟨rfl,Lv.out,H1.out⟩
 ·have e1:(st.t.kind==k)=false:=by simpa using hk
  have e2:take s k st=(false,st):=by unfold take;rw[Ad hk]
  rw[e2]
  clear hk e2 h
  go_enter Tryz.func121,Tryz.ntmps121
  go_wp2
  go_ret
  exact⟨rfl,Af.refl _ _,HR.out⟩
theorem CD (h:DG B ea w g gp bm vd wp s st) (k:Ae):
  Calls Tryz.prog 76 #[.pointer (some ⟨g,0,none⟩),vs k] w fun e w'=>Di B ea w g gp bm s (want s k st) (fun _ t v=>v=GB t) e w':=by
 obtain⟨_,_,c2,c3,c4,_⟩:=AV h.row
 have Cy:=h.row.lt
 have Ki:w.cell? ⟨6,0,none⟩=some (.iface 315 (.pointer (some (ea 2)))):=h.env.err 2 (by omega) (by omega)
 have SY:6<w.heap.size:=AD (h.env.lt 2 (by omega) (by omega)) h.env.size
 have HR:=Aa h
 unfold vs at*
 by_cases hk:st.t.kind=k
 ·have e1:(st.t.kind==k)=true:=by simpa using hk
  have e2:want s k st= .ok st.t (next s st):=by unfold want;rw[Ak hk]
  rw[e2]
  clear hk e2 h Ki SY
  have HA:=Aa ((HR.out.alloc (.cells #[.string ⟨#[]⟩,.string ⟨#[]⟩,.int .i64 0] 170)).alloc (.cells #[.string ⟨st.t.kind.toArray⟩,.string ⟨st.t.text.toArray⟩,.int .i64 st.t.pos] 170))
  have hB:=HR.out.env.size
  have SX:=HR.out.row.lt
  go_enter Tryz.func76,Tryz.ntmps76
  go_wp2_with fail
  refine(Dy HA.out).mono ?_
  rintro e w1 ⟨rfl,Bi,h1⟩
  have bT:AM ((w.alloc (.cells #[.string ⟨#[]⟩,.string ⟨#[]⟩,.int .i64 0] 170)).alloc (.cells #[.string ⟨st.t.kind.toArray⟩,.string ⟨st.t.text.toArray⟩,.int .i64 st.t.pos] 170)) w.heap.size 170 [vs [],vs [],.int .i64 0]:=(AM.new w _ _).alloc _
  have sI:AM ((w.alloc (.cells #[.string ⟨#[]⟩,.string ⟨#[]⟩,.int .i64 0] 170)).alloc (.cells #[.string ⟨st.t.kind.toArray⟩,.string ⟨st.t.text.toArray⟩,.int .i64 st.t.pos] 170)) (w.heap.size+1) 170 [vs st.t.kind,vs st.t.text,.int .i64 st.t.pos]:=by
   have:=AM.new (w.alloc (.cells #[.string ⟨#[]⟩,.string ⟨#[]⟩,.int .i64 0] 170)) 170 [vs st.t.kind,vs st.t.text,.int .i64 st.t.pos]
   simpa using this
  have x0:AM w1 w.heap.size 170 _:=(Hw Bi bT.lt (by omega)).trans bT
  have x1:AM w1 (w.heap.size+1) 170 _:=(Hw Bi sI.lt (by omega)).trans sI
  have d0:=x0.cell 0
  have d1:=x0.cell 1
  have d2:=x0.cell 2
  have e0:=x1.cell 0
  have xS:=x1.cell 1
  have tC:=x1.cell 2
  have fz:=fun j=>x0.frozen j
  have X0:=Aa x0
  have H1:=Aa h1
  have Lv:=Aa Bi
  clear x0 x1 bT sI h1 Bi
  simp at d0 d1 d2 e0 xS tC
  go_wp2
  have q1:=X0.out
  have h1:=H1.out
  have b0:B≤w.heap.size:=hB
  have g1:=h1.set_ b0 q1 (by decide) (by decide) 0 (.string ⟨st.t.kind.toArray⟩)
  have q2:=q1.set_ 0 (.string ⟨st.t.kind.toArray⟩)
  have g2:=g1.set_ b0 q2 (by decide) (by decide) 1 (.string ⟨st.t.text.toArray⟩)
  have q3:=q2.set_ 1 (.string ⟨st.t.text.toArray⟩)
  have g3:=g2.set_ b0 q3 (by decide) (by decide) 2 (.int .i64 st.t.pos)
  have q4:=q3.set_ 2 (.int .i64 st.t.pos)
  have CU:Kg g w _:=((((Af.refl (fun b=>b=g∨w.heap.size≤b) w).alloc (.inr (Ab _)) _).alloc (.inr (by simp)) _).trans (Lv.out.mono (fun b hb=>hb.elim .inl (fun h=>.inr (Ai (by simp;omega) h))))).setCell (p:=⟨w.heap.size,0,none⟩) (.inr (Ab _)) (.string ⟨st.t.kind.toArray⟩) |>.setCell (p:=⟨w.heap.size,1,none⟩) (.inr (Ab _)) (.string ⟨st.t.text.toArray⟩) |>.setCell (p:=⟨w.heap.size,2,none⟩) (.inr (Ab _)) (.int .i64 st.t.pos)
  have G3:=Aa g3
  have Rq:=Aa CU
  have z0:=q4.cell 0
  have z1:=q4.cell 1
  have z2:=q4.cell 2
  have zf:=fun j=>q4.frozen j
  simp at z0 z1 z2
  clear g3 CU g1 g2 h1 q1 q2 q3 q4 d0 d1 d2 e0 xS tC fz
  generalize Xh:((w1.setCell ⟨w.heap.size,0,none⟩ _).setCell ⟨w.heap.size,1,none⟩ _).setCell ⟨w.heap.size,2,none⟩ _=w2 at*
  refine Av (v:=GB st.t) (by simp[results,Tryz.results76,go_sem,z0,z1,z2,zf,GB,vs]) rfl ?_
  exact⟨_,rfl,rfl,Rq.out,_,_,G3.out⟩
 ·have e1:(st.t.kind==k)=false:=by simpa using hk
  have e2:want s k st= .bad D1 st.t.pos:=by unfold want fail;rw[Ad hk]
  rw[e2]
  clear hk e2 h
  have HA:=Aa (HR.out.alloc (.cells #[.string ⟨#[]⟩,.string ⟨#[]⟩,.int .i64 0] 170))
  have hB:=HR.out.env.size
  go_enter Tryz.func76,Tryz.ntmps76
  go_wp2_with fail
  refine(QK HA.out 2).mono ?_
  rintro e w1 ⟨gf,rfl,hk,hr,xL⟩
  have A4:Af (fun b=>B≤b) w w1:=((Af.refl _ w).alloc hB _).trans hk
  go_wp2
  exact⟨rfl,gf,rfl,A4,hr,xL⟩
theorem GZ (h:DG B ea w g gp bm vd wp s st) (k pos:Nat):
  Calls Tryz.prog 118 #[.pointer (some ⟨g,0,none⟩),Dn ea k,.int .i64 pos] w fun e w'=>e= .returned (.tuple #[])∧Kg g w w'∧∃U9,DG B ea w' g gp bm vd U9 s (note k pos st):=by
 obtain⟨_,_,_,_,_,_,_,_,_,c9⟩:=AV h.row
 have Cy:=h.row.lt
 have f:=fun j=>h.row.frozen j
 have HR:=Aa h
 have hw:=h.wrong
 cases Pe:st.wrong with
 |none=>
  rw[Pe]at hw
  have hwp:wp= .pointer none:=hw
  subst hwp
  have e2:note k pos st={st with wrong:=some (k,pos)}:=by unfold note;rw[Pe]
  rw[e2]
  clear hw Pe e2 h
  unfold Dn
  go_enter Tryz.func118,Tryz.ntmps118
  go_wp2
  go_end0
  have r0:=HR.out
  have k1:Kg g w (w.setCell ⟨g,9,none⟩ (.pointer (some ⟨w.heap.size,0,none⟩))):=Af.setCell (p:=⟨g,9,none⟩) (Af.refl _ _) (.inl rfl) _
  have k2:=k1.alloc (.inr (by simp)) (.cells #[Dn ea k,.int .i64 pos] 110)
  have n1:=(AM.new (w.setCell ⟨g,9,none⟩ (.pointer (some ⟨w.heap.size,0,none⟩))) 110 [Dn ea k,.int .i64 pos])
  refine⟨rfl,k2,.pointer (some ⟨w.heap.size,0,none⟩),r0.turn (st':={st with wrong:=some (k,pos)}) (r0.kg k2) ?_ rfl rfl rfl ?_ r0.i⟩
  ·have:=(r0.row.set_ 9 (.pointer (some ⟨w.heap.size,0,none⟩))).alloc (.cells #[Dn ea k,.int .i64 pos] 110)
   exact this
  ·exact⟨_,rfl,r0.env.size,by simpa using n1⟩
 |some y=>
  rw[Pe]at hw
  obtain⟨gf,rfl,_,_⟩:=hw
  have e2:note k pos st=st:=by unfold note;rw[Pe]
  rw[e2]
  clear Pe e2 h
  unfold Dn
  go_enter Tryz.func118,Tryz.ntmps118
  go_wp2
  go_end0
  exact⟨rfl,Af.refl _ _,_,HR.out⟩
end
theorem ZL:∀(l:Ae) (n:Nat),(∀c∈l,E6 c=true)→∃m,Lib.decFrom n l=some m∧l.foldl (fun(n:Int) c=>10*n+((c.toNat:Int)-48)) (n:Int)=(m:Int)
 | [],n,_=>⟨n,rfl,rfl⟩
 |c::l,n,h=>by
  have hc:=h c (by simp)
  have h1:48≤c.toNat∧c.toNat≤57:=by
   simp only[E6,C3,Dc,CC]at hc
   exact hc
  obtain⟨m,h2,h3⟩:=ZL l (n*10+(c.toNat-48)) (fun x hx=>h x (by simp[hx]))
  refine⟨m,?_,?_⟩
  ·simp[Lib.decFrom,Lib.digitVal,h1,h2]
  ·rw[←h3,Tu]
   congr 1
   omega
theorem rh {l:Ae} (h:Tt l):Lib.atoi l=some (atoi l)∧0≤atoi l:=by
 obtain⟨h1,h2,h3⟩:=h
 cases l with
 |nil=>simp at h1
 |cons c l=>
  have hc:=h3 c (by simp)
  have h4:48≤c.toNat∧c.toNat≤57:=by
   simp only[E6,C3,Dc,CC]at hc
   exact hc
  obtain⟨m,h5,h6⟩:=ZL (c::l) 0 h3
  have n1:(c==45)=false:=by
   rw[Bv];rintro rfl;simp at h4
  have n2:(c==43)=false:=by
   rw[Bv];rintro rfl;simp at h4
  have e:atoi (c::l)=(m:Int):=h6
  rw[e]
  refine⟨?_,by omega⟩
  unfold Lib.atoi
  simp only[n1,n2,An,A1]
  unfold Lib.decNat
  simp[h5]
section
variable {B:Nat} {ea:Nat→Addr} {w:World} {g gp bm:Nat} {vd wp:Value} {s:Ae} {st:PS}
theorem Zc (g:Nat) (w:World) (e:TypeId) (t:ByteArray):Kg g w (Lib.bytesWorld w e t):=
 Af.of_below (Joins.below_bytesWorld w.heap.size w e t (Ab _)) (fun k hk=>.inr hk)
theorem DG.kg_same (h:DG B ea w g gp bm vd wp s st) {w':World} (hk:Kg g w w') (hg:w'.heap[g]?=w.heap[g]?):DG B ea w' g gp bm vd wp s st:=
 h.turn (h.kg hk) (hg.trans h.row) rfl rfl rfl (h.wrong.quiet (h.kg hk)) h.i
theorem DG.bytes (h:DG B ea w g gp bm vd wp s st) (e:TypeId) (t:ByteArray):DG B ea (Lib.bytesWorld w e t) g gp bm vd wp s st:=
 h.kg_same (Zc g w e t) (Lib.bytesWorld_at_old w e t g h.row.lt)
theorem Iu (h:DG B ea w g gp bm vd wp s st) (ok:st.Ok s) (least most:Int):
  Calls Tryz.prog 119 #[.pointer (some ⟨g,0,none⟩),.int .i64 least,.int .i64 most] w fun e w'=>Di B ea w g gp bm s (number s least most st) (fun _ n v=>v= .int .i64 n) e w':=by
 have HR:=Aa h
 by_cases hk:st.t.kind=Bc
 ·have hw:want s Bc st= .ok st.t (next s st):=by unfold want;rw[Ak hk]
  have e2:number s least most st= .ok (atoi st.t.text) (if atoi st.t.text<least∨atoi st.t.text>most then note Kn st.t.pos (next s st)else next s st):=by
   unfold number;rw[hw];rfl
  rw[e2]
  have G5:=CD h Bc
  rw[hw]at G5
  obtain⟨ha,ha0⟩:=rh (ok.num hk)
  have hl:st.t.text.length≤18:=by have:=(ok.num hk).2.1;omega
  have HW:=Aa G5
  have HA:=Aa ha
  clear G5 ha e2 hw hk h ok
  unfold vs at*
  go_enter Tryz.func119,Tryz.ntmps119
  go_wp2_with fail
  refine HW.out.mono ?_
  rintro e w1 ⟨v,rfl,rfl,Bi,OM,Vk,h1⟩
  have Lv:=Aa Bi
  have H1:=Aa h1
  clear Bi h1
  unfold GB vs
  go_wp2_with fail
  refine(Tryz.strconv_Atoi ⟨st.t.text.toArray⟩ (atoi st.t.text) hl HA.out _).mono ?_
  rintro e w2 ⟨rfl,t,rfl⟩
  have bT:=(AM.new w1 170 [vs st.t.kind,vs st.t.text,.int .i64 st.t.pos])
  have x0:AM (Lib.bytesWorld (w1.alloc (.cells #[vs st.t.kind,vs st.t.text,.int .i64 st.t.pos] 170)) 5 t) w1.heap.size 170 _:=(Lib.bytesWorld_at_old _ _ _ _ bT.lt).trans bT
  have hz:=(H1.out.alloc (.cells #[vs st.t.kind,vs st.t.text,.int .i64 st.t.pos] 170)).bytes 5 t
  have hkz:=(Lv.out.alloc (.inr (Lv.out.size)) (.cells #[vs st.t.kind,vs st.t.text,.int .i64 st.t.pos] 170)).trans ((Zc g _ 5 t).mono (fun b hb=>hb.elim .inl (fun hh=>.inr (Ai Lv.out.size (Ai (by simp) hh)))))
  unfold vs at*
  generalize Sw:Lib.bytesWorld _ 5 t=w3 at*
  have Ki:w3.cell? ⟨11,0,none⟩=some (.iface 315 (.pointer (some (ea 7)))):=hz.env.err 7 (by omega) (by omega)
  have d2:=x0.cell 2
  have fz:=fun j=>x0.frozen j
  simp at d2
  have HZ:=Aa hz
  have rR:=Aa hkz
  clear hz hkz x0 bT Sw Lv H1
  have NA:=GZ HZ.out 7 st.t.pos
  by_cases c1:atoi st.t.text<least
  ·go_wp2_with fail
   refine NA.mono ?_
   rintro e w4 ⟨rfl,CU,XS,h4⟩
   have F:=Aa (And.intro CU h4)
   clear CU h4
   go_wp2
   go_ret
   refine⟨_,rfl,rfl,Kg.trans rR.out F.out.1,OM,XS,?_⟩
   exact F.out.2
  ·by_cases c2:atoi st.t.text>most
   ·go_wp2_with fail
    refine NA.mono ?_
    rintro e w4 ⟨rfl,CU,XS,h4⟩
    have F:=Aa (And.intro CU h4)
    clear CU h4
    go_wp2
    go_ret
    refine⟨_,rfl,rfl,Kg.trans rR.out F.out.1,OM,XS,?_⟩
    exact F.out.2
   ·clear NA
    go_wp2
    go_ret
    refine⟨_,rfl,rfl,rR.out,OM,Vk,?_⟩
    exact HZ.out
 ·have hw:want s Bc st= .bad D1 st.t.pos:=by unfold want fail;rw[Ad hk]
  have e2:number s least most st= .bad D1 st.t.pos:=by unfold number;rw[hw];rfl
  rw[e2]
  have G5:=CD h Bc
  rw[hw]at G5
  have HW:=Aa G5
  clear G5 e2 hw hk h ok
  unfold vs at*
  go_enter Tryz.func119,Tryz.ntmps119
  go_wp2_with fail
  refine HW.out.mono ?_
  rintro e w1 ⟨gf,rfl,hF⟩
  go_wp2
  exact⟨rfl,gf,rfl,hF⟩
end
end Go.Proofs.YtemppijblfflgaaGreatDoor.Ev
namespace Go.Proofs.YtemppijblfflgaaGreatDoor.Ev
open Go Go.RowKit Go.Shelf
theorem L0 (name:Ae):∀(l:List Bf) (k:Nat),(∀(j:Nat) (d:Bf),l[j]?=some d→d.name≠name)→C7 name l k= -1
 | [],k,_=>rfl
 |d::l,k,h=>by
  rw[C7,Ad (h 0 d rfl)]
  exact L0 name l (k+1) (fun j d' hd=>h (j+1) d' hd)
theorem M4 (name:Ae):∀(l:List Bf) (k i:Nat) (d:Bf),l[i]?=some d→d.name=name→(∀(j:Nat) (d:Bf),j<i→l[j]?=some d→d.name≠name)→C7 name l k=((k+i:Nat):Int)
 | [],k,i,d,h,_,_=>by simp at h
 |d'::l,k,0,d,h,hn,_=>by
  simp only[Bm,De]at h
  subst h
  rw[C7,Ak hn]
  rfl
 |d'::l,k,i+1,d,h,hn,Cy=>by
  rw[C7,Ad (Cy 0 d' (E0 _) rfl),M4 name l (k+1) i d (by simpa using h) hn (fun j x hj hx=>Cy (j+1) x (by omega) (by simpa using hx))]
  congr 1
  omega
theorem iP (name:Ae) (b:Nat) (d:Bf) (w:World) (hb:b<w.heap.size) (hc:w.cell? ⟨b,0,none⟩=some (vs name)):
  Calls Tryz.prog 138 #[.agg (D0 d).toArray,.pointer (some ⟨b,0,none⟩)] w fun e w'=>e= .returned (.bool (d.name==name))∧Below w.heap.size w w':=by
 have Cu:b≠w.heap.size:=by omega
 unfold D0 vs at*
 go_enter Tryz.func138,Tryz.ntmps138
 go_wp2
 all_goals(go_ret;exact⟨by simp_all,(Tf _ w).alloc (Ab _) _⟩)
theorem Sl.any_ {S:Nat→Prop} {w:World} {e:TypeId} {size:Nat} {v:Value} {n:Nat} {xs:List Value} (h:Sl S w e size v n xs):∃ao cap,v= .slice ao n cap:=by
 obtain⟨⟨_,h1⟩,h2⟩:=h
 rcases h1 with⟨h1,h0⟩|⟨g,cap,cur,rfl,_⟩
 ·subst h0;exact⟨_,_,h1⟩
 ·exact⟨_,_,rfl⟩
theorem Sl.get_ {S:Nat→Prop} {w:World} {e:TypeId} {size:Nat} {ao:Option Addr} {cap:Nat} {α:Type} {f:α→List Value} {l:List α} (h:Sl S w e size (.slice ao l.length cap) l.length (l.flatMap f)) (hk:∀x,(f x).length=size)
  {i:Nat} {x:α} (hx:l[i]?=some x):∃g,ao=some ⟨g,0,none⟩∧g<w.heap.size∧∀j,j<size→w.cell? ⟨g,i*size+j,none⟩=(f x)[j]?:=by
 have hi:i<l.length:=(Ap.1 hx).1
 obtain⟨g,_H,h1,_,_,_,h2⟩:=h.form (by omega)
 injection h1 with h1 h3 h4
 subst h1
 subst h4
 exact⟨g,rfl,h2,fun j hj=>h.at_ hk hx hj⟩
theorem iw {S:Nat→Prop} (name:Ae) (b:Nat) (l:List Bf) (vd:Value) (w:World) (hs:Sl S w 86 3 vd l.length (l.flatMap D0)) (hl:l.length≤1000) (hb:b<w.heap.size) (hc:w.cell? ⟨b,0,none⟩=some (vs name)):
  Calls Tryz.prog 63 #[vd,.func (.func 138) #[] #[.pointer (some ⟨b,0,none⟩)]] w fun e w'=>e= .returned (.int .i64 (find l name))∧Below w.heap.size w w':=by
 obtain⟨ao,cap,rfl⟩:=hs.any_
 have HS:=Aa hs
 have HC:=Aa hc
 have HB:=Aa hb
 clear hs hc hb
 go_enter Tryz.func63,Tryz.ntmps63
 go_wp2
 go_loopg [5,8] l.length (fun gg _ s8 wr=>∃kk:Nat,kk≤l.length∧l.length-kk≤gg∧s8= .int .i64 kk∧Below w.heap.size w wr∧(∀(j:Nat) (d:Bf),j<kk→l[j]?=some d→d.name≠name))
 case atStart=>exact⟨0,Bn _,by omega,rfl,Tf _ w,fun j d hj=>absurd hj (nY _)⟩
 case round=>
  obtain⟨kk,Jj,hg,rfl,bw,a⟩:=hrel
  have BW:=Aa bw
  have A:=Aa a
  clear bw a
  by_cases Cy:kk<l.length
  ·obtain⟨x,hx⟩:∃x,l[kk]?=some x:=⟨_,Ah Cy⟩
   obtain⟨gd,rfl,Ws,GH⟩:=HS.out.get_ (fun _=>rfl) hx
   have c0:wr.cell? ⟨gd,kk*3,none⟩=some (.int .i64 x.kind):=(BW.out.cell (p:=⟨gd,kk*3,none⟩) Ws).trans (GH 0 (by omega))
   have c1:wr.cell? ⟨gd,kk*3+1,none⟩=some (vs x.name):=(BW.out.cell (p:=⟨gd,kk*3+1,none⟩) Ws).trans (GH 1 (by omega))
   have c2:wr.cell? ⟨gd,kk*3+2,none⟩=some (.int .i64 x.max):=(BW.out.cell (p:=⟨gd,kk*3+2,none⟩) Ws).trans (GH 2 (by omega))
   have Ex:=iP name b x wr (AD HB.out BW.out.size) ((BW.out.cell (p:=⟨b,0,none⟩) HB.out).trans HC.out)
   have HX:=Aa hx
   clear hx GH Ws
   unfold vs at*
   by_cases hn:x.name=name
   ·have e1:(x.name==name)=true:=by simpa using hn
    rw[e1]at Ex
    have HCA:=Aa Ex
    have HN:=Aa hn
    clear Ex hn e1
    go_wp2_with fail
    refine HCA.out.mono ?_
    rintro e w' ⟨rfl,Vf⟩
    have HBW:=Aa Vf
    clear Vf
    go_wp2
    go_ret
    refine⟨?_,BW.out.trans (HBW.out.mono BW.out.size)⟩
    unfold find
    rw[M4 name l 0 kk x HX.out HN.out A.out,FA]
    rfl
   ·have e1:(x.name==name)=false:=by simpa using hn
    rw[e1]at Ex
    have HCA:=Aa Ex
    have HN:=Aa hn
    clear Ex hn e1
    go_wp2_with fail
    refine HCA.out.mono ?_
    rintro e w' ⟨rfl,Vf⟩
    have HBW:=Aa Vf
    clear Vf
    go_wp2
    go_roundg (l.length-(kk+1))
    case measure=>omega
    case rel=>
     refine⟨kk+1,by omega,by omega,by go_num,BW.out.trans (HBW.out.mono BW.out.size),fun j d hj hd=>?_⟩
     by_cases e:j=kk
     ·subst e
      rw[HX.out]at hd
      injection hd with hd
      exact hd▸HN.out
     ·exact A.out j d (by omega) hd
  ·have:kk=l.length:=by omega
   subst this
   go_wp2
   go_ret
   refine⟨?_,BW.out⟩
   unfold find
   rw[L0 name l 0 (fun j d hd=>A.out j d (Ap.1 hd).1 hd)]
   rfl
theorem QJ {S:Nat→Prop} (name:Ae) (gp:Nat) (l:List Bf) (vd:Value) (w:World) (hs:Sl S w 86 3 vd l.length (l.flatMap D0)) (hl:l.length≤1000) (hg:gp<w.heap.size) (hc:w.cell? ⟨gp,0,none⟩=some vd):
  Calls Tryz.prog 120 #[.pointer (some ⟨gp,0,none⟩),vs name] w fun e w'=>e= .returned (.int .i64 (find l name))∧Below w.heap.size w w':=by
 have Cu:gp≠w.heap.size:=by omega
 have hmf:∀(fn:Fn) (first cap:Array Value) (w:World),(Instr.makeFunc fn first cap).run Tryz.prog w= .ok (.func fn first cap) w:=fun _ _ _ _=>rfl
 have bV:=iw name w.heap.size l vd (w.alloc (.cells #[vs name] 9)) (hs.alloc _) hl (by simp) (by simp)
 obtain⟨ao,cap,rfl⟩:=hs.any_
 have HI:=Aa bV
 clear bV hs
 unfold vs at*
 go_enter Tryz.func120,Tryz.ntmps120
 go_wp2_with fail
 trace_state
 refine HI.out.mono ?_
 rintro e w' ⟨rfl,Vf⟩
 have HBW:=Aa Vf
 clear Vf
 go_wp2
 go_ret
 exact⟨rfl,((Tf _ w).alloc (Ab _) _).trans (HBW.out.mono (by simp))⟩
end Go.Proofs.YtemppijblfflgaaGreatDoor.Ev
namespace Go.Proofs.YtemppijblfflgaaGreatDoor.Ev
open Go Go.RowKit
def Do (w:World) (s:Ae) (e:Ending) (w':World):Prop:=e= .returned (vs s)∧Af (fun b=>w.heap.size≤b) w w'
theorem Af.grow_ (w:World) (k:Nat) (os:Array Obj) {S:Nat→Prop} (hS:∀b,w.heap.size≤b→S b):Af S w (Sort.grow (w.drewN k) os):=
 ⟨rfl,rfl,rfl,by simp[Sort.grow],fun i hi=>by
  rcases BP i w.heap.size with h|h
  ·show(w.heap++os)[i]?=_
   exact Array.getElem?_append_left h
  ·exact absurd (hS i h) hi⟩
def S8 (w:World):Prop:=Lib.TabIs Tryz.prog w "internal/strconv.uint64pow10" .u64 Lib.pow10Tab
theorem S8.kept {S:Nat→Prop} {w w':World} (h:S8 w) (hk:Af S w w') (hS:∀b,S b→¬b=16):S8 w':=by
 unfold S8 Lib.TabIs World.var? at*
 have hg:Tryz.prog.globalNamed "internal/strconv.uint64pow10" =some 16:=by kernel_rfl
 have e:=hk.block 16 (fun hs=>hS _ hs rfl)
 rw[hg]at h ⊢
 simp only[R7]at h ⊢
 rw[e]
 exact h
theorem VF:∀(n:Nat),Lib.decDigits n=EN n:=by
 intro n
 induction n using Nat.strongRecOn with
 |_ n ih=>
  rw[Lib.decDigits,EN]
  by_cases h:n<10
  ·rw[dif_pos h,Ak h]
  ·rw[dif_neg h,Ad h,ih (n/10) (by omega)]
theorem Ko {n:Int} (h0:0≤n):Lib.decDigits n.toNat=Ca n:=VF n.toNat
theorem Zd {n:Int} (h0:0≤n):Lib.itoa n=Ca n:=by
 unfold Lib.itoa
 rw[Ad (by omega)]
 exact Ko h0
theorem S8.lt {w:World} (h:S8 w):16<w.heap.size:=by
 unfold S8 Lib.TabIs World.var? at h
 have hg:Tryz.prog.globalNamed "internal/strconv.uint64pow10" =some 16:=by kernel_rfl
 rw[hg]at h
 simp only[R7]at h
 rcases BP 16 w.heap.size with h1|h1
 ·exact h1
 ·rw[Ce h1]at h
  cases h
structure Yb (w:World) (gp:Nat) (vd vm:Value) (f:Int) (l:List Bf):Prop where
 pol:AM w gp 90 [vd,.int .i64 f,vm]
 decls:Sl (fun _=>True) w 86 3 vd l.length (l.flatMap D0)
 dw:Fv l
 tab:S8 w
section
variable {w w':World} {gp:Nat} {vd vm:Value} {f:Int} {l:List Bf}
theorem Yb.later (h:Yb w gp vd vm f l) (hk:Af (fun b=>w.heap.size≤b) w w'):Yb w' gp vd vm f l:=
 ⟨h.pol.kept hk (fun e=>by have:=h.pol.lt;omega),h.decls.kept hk (fun b hb e=>by have:=h.decls.lt hb;omega),h.dw,h.tab.kept hk (fun b hb e=>by subst e;have:=h.tab.lt;omega)⟩
theorem Yb.at_ (h:Yb w gp vd vm f l) {k:Int} (hk:Ix l.length k):∃(n gd cd:Nat),k=(n:Int)∧n<l.length∧vd= .slice (some ⟨gd,0,none⟩) l.length cd∧l.length≤cd∧cd≤9223372036854775807∧gd<w.heap.size∧gp<w.heap.size∧
  w.cell? ⟨gp,0,none⟩=some (.slice (some ⟨gd,0,none⟩) l.length cd)∧w.cell? ⟨gd,n*3+1,none⟩=some (vs (AI l k))∧(AI l k).length≤8:=by
 obtain⟨n,rfl⟩:∃n:Nat,k=(n:Int):=⟨k.toNat,by have:=hk.1;omega⟩
 have hn:n<l.length:=by have:=hk.2;omega
 obtain⟨gd,cd,rfl,_,q1,q2,q3⟩:=h.decls.form (by omega)
 have hx:l[n]?=some (Au l (n:Int)):=by unfold Au;rw[A3,Ah hn];rfl
 unfold maxLen at q2
 exact⟨n,gd,cd,rfl,hn,rfl,q1,q2,q3,h.pol.lt,h.pol.cell 0,h.decls.at_ (fun _=>rfl) hx (j:=1) (by omega),Dt h.dw _⟩
theorem B6 {P:Program} {a b:ByteArray} (h:a.size+b.size≤1000000000):∀W:World,(Op.stringOp .add a b).run P W= .ok (.string (a++b)) W:=fun W=>run_string_add_sum W _ _ (by omega)
theorem BI (a b:Ae):(⟨a.toArray⟩:ByteArray)++⟨b.toArray⟩=⟨(a++b).toArray⟩:=by
 apply ByteArray.ext
 simp[ByteArray.data_append]
theorem kH (h:Yb w gp vd vm f l) (v:O0) (hv:VK l v):Calls Tryz.prog 161 #[.pointer (some ⟨gp,0,none⟩),.agg (Du v).toArray] w (Do w (Dp l v)):=by
 have k0:=fun cs=>(Af.refl (fun b=>w.heap.size≤b) w).alloc (Ab _) (.cells cs 254)
 have K0:=Aa k0
 cases v with
 |num n=>
  have hit:=Tryz.strconv_Itoa n (by have:=hv.1;omega) (by have:=hv.2;omega)
  rw[Zd hv.1]at hit
  have HT:=Aa hit
  have H:=Aa h
  clear hit h k0
  show Calls _ _ _ _ (Do w (Ca n))
  unfold Du Fh D4 vs
  go_enter dr,X6
  go_wp2_with fail
  refine(HT.out _ (H.out.later (K0.out _)).tab).mono ?_
  rintro e w1 ⟨rfl,k,os,rfl⟩
  go_wp2
  go_ret
  exact⟨rfl,(K0.out _).trans (Af.grow_ _ k os (fun b hb=>by simp at hb;omega))⟩
 |len k=>
  obtain⟨n,gd,cd,rfl,hn,rfl,q1,q2,q3,q4,d0,d1,hl⟩:=h.at_ hv.1
  have e1:¬gp=w.heap.size:=by omega
  have e2:¬gd=w.heap.size:=by omega
  show Calls _ _ _ _ (Do w (G2++BE++AI l (n:Int)))
  generalize AI l (n:Int)=nm at*
  have s1:=B6 (P:=Tryz.prog) (a:=⟨#[108,101,110,32]⟩) (b:=⟨nm.toArray⟩) (by simp only[At,Ac,Aj];omega)
  clear h k0 hv
  unfold Du Fh D4 vs at*
  go_enter dr,X6
  go_wp2
  go_region
  go_wp2
  go_ret
  exact⟨by rw[BI];rfl,(K0.out _).drew⟩
 |var k=>
  obtain⟨n,gd,cd,rfl,hn,rfl,q1,q2,q3,q4,d0,d1,hl⟩:=h.at_ hv.1
  have e1:¬gp=w.heap.size:=by omega
  have e2:¬gd=w.heap.size:=by omega
  show Calls _ _ _ _ (Do w (AI l (n:Int)))
  generalize AI l (n:Int)=nm at*
  clear h k0 hv
  unfold Du Fh D4 vs at*
  go_enter dr,X6
  go_wp2
  go_region
  go_wp2
  go_ret
  exact⟨rfl,(K0.out _).drew⟩
 |freq=>
  clear h k0 hv
  show Calls _ _ _ _ (Do w BX)
  unfold Du Fh D4 vs at*
  go_enter dr,X6
  go_wp2
  go_ret
  exact⟨rfl,K0.out _⟩
theorem PC (c:Da):∃b0 n1 b2 n3,By c=[vs (Cg c.k),.int .i64 (BT c.k),vs b0,.int .i64 n1,vs b2,.int .i64 n3,.bool (Dg c.nots)]∧L9 c.k=[vs b0,.int .i64 n1,vs b2,.int .i64 n3]:=by
 obtain⟨b0,n1,b2,n3,hv⟩:∃b0 n1 b2 n3,L9 c.k=[vs b0,.int .i64 n1,vs b2,.int .i64 n3]:=by
  cases c.k with
  |less a b=>exact⟨_,_,_,_,rfl⟩
  |_=>exact⟨_,_,_,_,rfl⟩
 exact⟨b0,n1,b2,n3,by unfold By;rw[hv];rfl,hv⟩
theorem WP {u v:Ae} (h:vs u=vs v):u=v:=by
 unfold vs at h
 injection h with h
 have h2:=AL (fun b:ByteArray=>b.data.toList) h
 simpa using h2
def VE (b:Ae) (n:Int):O0:=if b=Bc then .num n else if b=G2 then .len n else if b=BX then .freq else .var n
theorem ZN {v:O0} {b:Ae} {n:Int} (h1:Fh v=b) (h2:D4 v=n):VE b n=v:=by
 subst h1 h2
 cases v<;>rfl
def Nn (c:Da):Ae:=if c.nots%2=1 then H6++BE else []
theorem gz (h:Yb w gp vd vm f l) (c:Da) (hc:XQ l c.k):Calls Tryz.prog 145 #[.pointer (some ⟨gp,0,none⟩),.agg (By c).toArray] w (Do w (CE l c)):=by
 have k0:=fun cs=>(Af.refl (fun b=>w.heap.size≤b) w).alloc (Ab _) (.cells cs 256)
 have K0:=Aa k0
 have ml:CE l c=Nn c++Is l c.k:=rfl
 have Xk:Nn c=if Dg c.nots then H6++BE else []:=by
  unfold Nn Dg
  by_cases hn:c.nots%2=1<;>simp[hn]
 have jH:(Nn c).length≤4:=by rw[Xk];split<;>simp[BE]
 obtain⟨b0,n1,b2,n3,he,hv⟩:=PC c
 rw[he,ml]
 clear he ml
 have simple:∀(k:Int) (kw:Ae),Cg c.k=kw→(kw=DT∨kw=CF∨kw=DS)→BT c.k=k→Ix l.length k→Is l c.k=kw++BE++AI l k→
   Calls Tryz.prog 145 #[.pointer (some ⟨gp,0,none⟩),.agg #[vs (Cg c.k),.int .i64 (BT c.k),vs b0,.int .i64 n1,vs b2,.int .i64 n3,.bool (Dg c.nots)]] w (Do w (Nn c++Is l c.k)):=by
  intro k kw e1 CV e2 Zw e3
  rw[e1,e2,e3]
  obtain⟨n,gd,cd,rfl,hn,rfl,q1,q2,q3,q4,d0,d1,hl⟩:=h.at_ Zw
  have f1:¬gp=w.heap.size:=by omega
  have f2:¬gd=w.heap.size:=by omega
  generalize AI l (n:Int)=nm at*
  generalize Nn c=nb at*
  generalize Dg c.nots=ob at*
  have aD:kw.length≤5:=by rcases CV with rfl|rfl|rfl<;>simp
  have ht:(((⟨nb.toArray⟩:ByteArray)++⟨kw.toArray⟩)++⟨#[32]⟩)++⟨nm.toArray⟩=⟨(nb++(kw++BE++nm)).toArray⟩:=by rw[BI,BI,BI];simp[BE]
  have s1:=B6 (P:=Tryz.prog) (a:=⟨nb.toArray⟩) (b:=⟨kw.toArray⟩) (by simp only[At];omega)
  have s2:=B6 (P:=Tryz.prog) (a:=⟨nb.toArray⟩++⟨kw.toArray⟩) (b:=⟨#[32]⟩) (by simp only[Ag,At,Ac,Aj];omega)
  have s3:=B6 (P:=Tryz.prog) (a:=⟨nb.toArray⟩++⟨kw.toArray⟩++⟨#[32]⟩) (b:=⟨nm.toArray⟩) (by simp only[Ag,At,Ac,Aj];omega)
  have HT:=Aa ht
  clear ht k0 h hv e1 e2 e3 hc Zw
  unfold vs at*
  cases ob with
  |false=>
   obtain rfl:nb=[]:=Xk
   rcases CV with rfl|rfl|rfl
   all_goals
    go_enter du,X8
    go_wp2
    go_region
    go_wp2
    go_ret
    exact⟨AL (fun x=>Ending.returned (.string x)) HT.out,(K0.out _).drew⟩
  |true=>
   obtain rfl:nb=[110,111,116,32]:=Xk
   rcases CV with rfl|rfl|rfl
   all_goals
    go_enter du,X8
    go_wp2
    go_region
    go_wp2
    go_ret
    exact⟨AL (fun x=>Ending.returned (.string x)) HT.out,(K0.out _).drew⟩
 cases XW:c.k with
 |full k=>rw[XW]at simple hc;exact simple k DT rfl (.inl rfl) rfl hc.1 rfl
 |empty k=>rw[XW]at simple hc;exact simple k CF rfl (.inr (.inl rfl)) rfl hc.1 rfl
 |warm k=>rw[XW]at simple hc;exact simple k DS rfl (.inr (.inr rfl)) rfl hc.1 rfl
 |less a b=>
  rw[XW]at hc hv
  have Xp:vs (Fh a)=vs b0∧Value.int .i64 (D4 a)= .int .i64 n1∧vs (Fh b)=vs b2∧Value.int .i64 (D4 b)= .int .i64 n3:=by
   unfold L9 Du at hv
   simpa only[A8,CH,J9,and_true]using hv
  have Gi:VE b0 n1=a:=ZN (WP Xp.1) (by have:=Xp.2.1;injection this)
  have Fp:VE b2 n3=b:=ZN (WP Xp.2.2.1) (by have:=Xp.2.2.2;injection this)
  have la:=IC h.dw hc.1
  have lb:=IC h.dw hc.2
  rw[←Gi]at la
  rw[←Fp]at lb
  have yL:∀W (_:Af (fun b=>w.heap.size≤b) w W) (cs:List Value) (_:AM W w.heap.size 256 cs) (bs:Ae) (m:Int),(bs=b0∧m=n1)∨(bs=b2∧m=n3)→
    Calls Tryz.prog 161 #[.pointer (some ⟨gp,0,none⟩),.agg #[vs bs,.int .i64 m]] W (fun y w'=>y= .returned (vs (Dp l (VE bs m)))∧Af (fun b=>w.heap.size≤b) w w'∧AM w' w.heap.size 256 cs):=by
   intro W hk cs hr bs m hor
   have Zu:∀v,VK l v→Du v=[vs bs,.int .i64 m]→VE bs m=v→Calls Tryz.prog 161 #[.pointer (some ⟨gp,0,none⟩),.agg #[vs bs,.int .i64 m]] W (fun y w'=>y= .returned (vs (Dp l (VE bs m)))∧Af (fun b=>w.heap.size≤b) w w'∧AM w' w.heap.size 256 cs):=by
    intro v hv he hd
    have hc:=kH (h.later hk) v hv
    rw[he]at hc
    refine hc.mono ?_
    rintro y w' ⟨h1,h2⟩
    rw[hd]
    exact⟨h1,hk.trans (h2.mono (fun b hb=>Ai hk.size hb)),hr.kept h2 (fun e=>by have:=hr.lt;omega)⟩
   rcases hor with⟨rfl,rfl⟩|⟨rfl,rfl⟩
   ·exact Zu a hc.1 (by show [vs (Fh a),.int .i64 (D4 a)]=_;rw[Xp.1,Xp.2.1]) Gi
   ·exact Zu b hc.2 (by show [vs (Fh b),.int .i64 (D4 b)]=_;rw[Xp.2.2.1,Xp.2.2.2]) Fp
  have Cp:Nn c++Is l (.less a b)=Nn c++(Dp l (VE b0 n1)++[32,60,32]++Dp l (VE b2 n3)):=by rw[Gi,Fp];rfl
  rw[Cp]
  show Calls _ _ #[.pointer (some ⟨gp,0,none⟩),.agg #[vs IG,.int .i64 0,vs b0,.int .i64 n1,vs b2,.int .i64 n3,.bool (Dg c.nots)]] w _
  generalize Nn c=nb at*
  generalize Dg c.nots=ob at*
  clear Cp Xp Gi Fp hc hv simple h
  generalize yS:(fun bs m=>Dp l (VE bs m))=sv at*
  have e1:∀bs m,Dp l (VE bs m)=sv bs m:=fun bs m=>by rw[←yS]
  simp only[e1]at*
  clear e1 yS XW
  have ht:(((⟨nb.toArray⟩:ByteArray)++⟨(sv b0 n1).toArray⟩)++⟨#[32,60,32]⟩)++⟨(sv b2 n3).toArray⟩=⟨(nb++(sv b0 n1++[32,60,32]++sv b2 n3)).toArray⟩:=by rw[BI,BI,BI];simp
  have s1:=B6 (P:=Tryz.prog) (a:=⟨nb.toArray⟩) (b:=⟨(sv b0 n1).toArray⟩) (by simp only[At];omega)
  have s2:=B6 (P:=Tryz.prog) (a:=⟨nb.toArray⟩++⟨(sv b0 n1).toArray⟩) (b:=⟨#[32,60,32]⟩) (by simp only[Ag,At,Ac,Aj];omega)
  have s3:=B6 (P:=Tryz.prog) (a:=⟨nb.toArray⟩++⟨(sv b0 n1).toArray⟩++⟨#[32,60,32]⟩) (b:=⟨(sv b2 n3).toArray⟩) (by simp only[Ag,At,Ac,Aj];omega)
  have HT:=Aa ht
  have rK:=Aa yL
  have r0:AM (w.alloc (.cells #[vs IG,.int .i64 0,vs b0,.int .i64 n1,vs b2,.int .i64 n3,.bool ob] 256)).drew w.heap.size 256 [vs IG,.int .i64 0,vs b0,.int .i64 n1,vs b2,.int .i64 n3,.bool ob]:=(AM.new w 256 _).drew
  have R0:=Aa r0
  have KD:=Aa (K0.out #[vs IG,.int .i64 0,vs b0,.int .i64 n1,vs b2,.int .i64 n3,.bool ob]).drew
  clear ht yL k0 r0 K0
  unfold vs at*
  cases ob with
  |false=>
   obtain rfl:nb=[]:=Xk
   go_enter du,X8
   go_wp2_with fail
   go_region_law (first
    |(go_simp;go_at_call 161;refine(rK.out _ ka _ ra _ _ ?_).mono ?_;(first|exact .inl ⟨rfl,rfl⟩|exact .inr ⟨rfl,rfl⟩);rintro y w3 ⟨rfl,kb,rb⟩)
    |(go_simp;go_at_call 161;refine(rK.out _ KD.out _ R0.out _ _ ?_).mono ?_;(first|exact .inl ⟨rfl,rfl⟩|exact .inr ⟨rfl,rfl⟩);rintro y w2 ⟨rfl,ka,ra⟩;have fB:=ra.cell 2;have t8:=ra.cell 3;have Rs:=ra.cell 4;have Rr:=ra.cell 5;simp at fB t8 Rs Rr))
   all_goals go_wp2
   all_goals go_ret
   all_goals exact⟨AL (fun x=>Ending.returned (.string x)) HT.out,kb⟩
  |true=>
   obtain rfl:nb=[110,111,116,32]:=Xk
   go_enter du,X8
   go_wp2_with fail
   go_region_law (first
    |(go_simp;go_at_call 161;refine(rK.out _ ka _ ra _ _ ?_).mono ?_;(first|exact .inl ⟨rfl,rfl⟩|exact .inr ⟨rfl,rfl⟩);rintro y w3 ⟨rfl,kb,rb⟩)
    |(go_simp;go_at_call 161;refine(rK.out _ KD.out _ R0.out _ _ ?_).mono ?_;(first|exact .inl ⟨rfl,rfl⟩|exact .inr ⟨rfl,rfl⟩);rintro y w2 ⟨rfl,ka,ra⟩;have fB:=ra.cell 2;have t8:=ra.cell 3;have Rs:=ra.cell 4;have Rr:=ra.cell 5;simp at fB t8 Rs Rr))
   all_goals go_wp2
   all_goals go_ret
   all_goals exact⟨AL (fun x=>Ending.returned (.string x)) HT.out,kb⟩
end
end Go.Proofs.YtemppijblfflgaaGreatDoor.Ev
