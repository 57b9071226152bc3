/- Parts of a proof that a law's walk returns true. Conditions: none. -/
import Derived.Test.YtemppijblfflgaaGreatDoorZa00
import Derived.Test.YtemppijblfflgaaGreatDoorZa01
import Derived.Test.YtemppijblfflgaaGreatDoorZa02
import Derived.Test.YtemppijblfflgaaGreatDoorZa05
set_option linter.all false
set_option maxRecDepth 100000
set_option maxHeartbeats 8000000
namespace Go.Proofs.YtemppijblfflgaaGreatDoor.Ev
open Go Go.RowKit
def PK (S:Nat→Prop) (w:World) (gm gg gp bm loops:Nat) (code:List Gl) (e:Ending) (w':World):Prop:=
 e= .returned (.tuple #[])∧Af S w w'∧∃vl,NB S w' gm gg gp bm vl loops code
section
variable {S:Nat→Prop} {w w':World} {gm gg gp bm loops:Nat} {vl:Value} {code:List Gl}
theorem NB.alloc (h:NB S w gm gg gp bm vl loops code) (o:Obj):NB S (w.alloc o) gm gg gp bm vl loops code:=
 ⟨h.row.alloc o,h.prog.alloc o,h.l.alloc o,h.sm,h.sg⟩
theorem Up.alloc {w:World} (h:Up S w) (o:Obj):Up S (w.alloc o):=fun b hb=>h b (Ai (by simp) hb)
theorem bx (h:NB S w gm gg gp bm vl loops code) (hS:Up S w) (hn:code.length≤1000000) (i:Gl) {op a b:Int} (h1:op=(i.op:Int)) (h2:a=i.a) (h3:b=i.b):
  Calls Tryz.prog 82 #[.pointer (some ⟨gm,0,none⟩),.agg #[.int .u8 op,.int .i64 a,.int .i64 b]] w fun e w'=>
   e= .returned (.int .i64 code.length)∧Af S w w'∧∃vl,NB S w' gm gg gp bm vl loops (code++[i]):=by
 subst h1 h2 h3
 exact pJ h hS hn i
theorem kn (h:NB S w gm gg gp bm vl loops code) (hS:Up S w) (hn:code.length≤1000000) (v:O0):
  Calls Tryz.prog 155 #[.pointer (some ⟨gm,0,none⟩),.agg (Du v).toArray] w fun e w'=>PK S w gm gg gp bm loops (code++[Gk v]) e w':=by
 have ha:=h.alloc (.cells (Du v).toArray 254)
 have hk:=(Af.refl S w).alloc (hS _ (Ab _)) (.cells (Du v).toArray 254)
 have hu:=hS.alloc (.cells (Du v).toArray 254)
 obtain⟨i,hi⟩:∃i,i=Gk v:=⟨_,rfl⟩
 rw[←hi]
 have HK:=Aa hk
 have HA:=Aa ha
 have HU:=Aa hu
 have HI:=Aa hi
 clear h ha hk hu hi
 cases v
 all_goals
  unfold Du vs at*
  simp only[Fh,D4]at*
  go_enter Tryz.func155,Tryz.ntmps155
  go_wp2_with fail
  refine(bx HA.out HU.out hn i (by rw[HI.out];rfl) (by rw[HI.out];rfl) (by rw[HI.out];rfl)).mono ?_
  rintro e w2 ⟨rfl,A4,vl2,h2⟩
  have F:=Aa (And.intro A4 h2)
  clear A4 h2
  go_wp2
  refine Dd (Cl rfl _ _ _) rfl ?_
  exact⟨rfl,HK.out.trans F.out.1,_,F.out.2⟩
abbrev tZ (S:Nat→Prop) (k:Nat):Nat→Prop:=fun b=>S b∧b≠k
theorem NB.mono {S':Nat→Prop} (h:NB S w gm gg gp bm vl loops code) (hS:∀b,S b→S' b):NB S' w gm gg gp bm vl loops code:=
 ⟨h.row,h.prog,h.l.mono hS,hS _ h.sm,hS _ h.sg⟩
theorem NB.but (h:NB S w gm gg gp bm vl loops code) (o:Obj):NB (tZ S w.heap.size) (w.alloc o) gm gg gp bm vl loops code:=
 ⟨h.row.alloc o,h.prog.alloc o,⟨(h.l.alloc o).1,fun g hg=>⟨h.l.2 g hg,fun e=>by have:=h.l.lt hg;omega⟩⟩,⟨h.sm,fun e=>by have:=h.row.lt;omega⟩,⟨h.sg,fun e=>by have:=h.prog.lt;omega⟩⟩
theorem Up.but (h:Up S w) (o:Obj):Up (tZ S w.heap.size) (w.alloc o):=fun b hb=>by
 have:(w.alloc o).heap.size=w.heap.size+1:=by simp
 exact⟨h b (by omega),by omega⟩
structure DI (S:Nat→Prop) (w0 w:World) (gm gg gp bm loops:Nat) (code:List Gl) (K:Nat) (t:TypeId) (cs:List Value):Prop where
 mr:∃vl,NB (tZ S K) w gm gg gp bm vl loops code
 up:Up (tZ S K) w
 row:AM w K t cs
 kept:Af S w0 w
section
variable {w0:World} {Ack K:Nat} {t:TypeId} {cs:List Value}
theorem DI.start (h:NB S w gm gg gp bm vl loops code) (hS:Up S w) (t:TypeId) (cs:List Value):DI S w (w.alloc (.cells cs.toArray t)) gm gg gp bm loops code w.heap.size t cs:=
 ⟨⟨_,h.but _⟩,hS.but _,AM.new w t cs,(Af.refl S w).alloc (hS _ (Ab _)) _⟩
theorem DI.call {loops':Nat} {ZQ:List Gl} (h:DI S w0 w gm gg gp bm loops code K t cs) (hk:Af (tZ S K) w w') (hm:∃vl,NB (tZ S K) w' gm gg gp bm vl loops' ZQ):DI S w0 w' gm gg gp bm loops' ZQ K t cs:=
 ⟨hm,h.up.kept hk,h.row.kept hk (fun e=>e.2 rfl),h.kept.trans (hk.mono (fun b hb=>hb.1))⟩
theorem DI.out (h:DI S w0 w gm gg gp bm loops code K t cs):PK S w0 gm gg gp bm loops code (.returned (.tuple #[])) w:=by
 obtain⟨vl,h1⟩:=h.mr
 exact⟨rfl,h.kept,vl,h1.mono (fun b hb=>hb.1)⟩
theorem DI.put (h:DI S w0 w gm gg gp bm loops code K t cs) (hn:code.length≤1000000) (i:Gl) {op a b:Int} (h1:op=(i.op:Int)) (h2:a=i.a) (h3:b=i.b):
  Calls Tryz.prog 82 #[.pointer (some ⟨gm,0,none⟩),.agg #[.int .u8 op,.int .i64 a,.int .i64 b]] w fun e w'=>
   e= .returned (.int .i64 code.length)∧DI S w0 w' gm gg gp bm loops (code++[i]) K t cs:=by
 obtain⟨vl,hm⟩:=h.mr
 refine(bx hm h.up hn i h1 h2 h3).mono ?_
 rintro e w' ⟨he,hk,Ic⟩
 exact⟨he,h.call hk Ic⟩
theorem DI.value (h:DI S w0 w gm gg gp bm loops code K t cs) (hn:code.length≤1000000) (v:O0):
  Calls Tryz.prog 155 #[.pointer (some ⟨gm,0,none⟩),.agg (Du v).toArray] w fun e w'=>
   e= .returned (.tuple #[])∧DI S w0 w' gm gg gp bm loops (code++[Gk v]) K t cs:=by
 obtain⟨vl,hm⟩:=h.mr
 refine(kn hm h.up hn v).mono ?_
 rintro e w' ⟨he,hk,Ic⟩
 exact⟨he,h.call hk Ic⟩
end
theorem qY {t:TypeId} {C:Nat} {d0 d1 d2 d3 d4 d5 d6:Value} (h:AM w C t [d0,d1,d2,d3,d4,d5,d6]):
  w.cell? ⟨C,0,none⟩=some d0∧w.cell? ⟨C,1,none⟩=some d1∧w.cell? ⟨C,2,none⟩=some d2∧w.cell? ⟨C,3,none⟩=some d3∧w.cell? ⟨C,4,none⟩=some d4∧w.cell? ⟨C,5,none⟩=some d5∧w.cell? ⟨C,6,none⟩=some d6:=
 ⟨h.cell 0,h.cell 1,h.cell 2,h.cell 3,h.cell 4,h.cell 5,h.cell 6⟩
theorem Y4 (h:NB S w gm gg gp bm vl loops code) (hS:Up S w) (hn:code.length≤900000) (a b:O0) (n:Nat):
  Calls Tryz.prog 140 #[.pointer (some ⟨gm,0,none⟩),.agg (By ⟨.less a b,n⟩).toArray] w fun e w'=>PK S w gm gg gp bm loops (code++Aq ⟨.less a b,n⟩) e w':=by
 have h0:=DI.start h hS 256 (By ⟨.less a b,n⟩)
 have hv:=h0.value (by omega) a
 have H0:=Aa h0
 have HV:=Aa hv
 clear h0 hv h hS
 unfold By Du vs at*
 simp only[Cg,BT,L9,Du,vs,A8,CH]at*
 go_enter dv,X9
 go_wp2_with fail
 refine HV.out.mono ?_
 rintro e w1 ⟨rfl,h1⟩
 obtain⟨d0,d1,d2,d3,d4,d5,d6⟩:=qY h1.row
 have hv:=h1.value (by simp;omega) b
 have dG:=Aa hv
 clear hv h1
 unfold Du vs at*
 go_wp2_with fail
 refine dG.out.mono ?_
 rintro e w2 ⟨rfl,h2⟩
 clear d0 d1 d2 d3 d4 d5 d6
 have H2:=Aa h2
 clear h2
 go_wp2_with fail
 refine(H2.out.put (by first|omega|(simp;omega)) .less rfl rfl rfl).mono ?_
 rintro e w3 ⟨rfl,h3⟩
 have d6:=h3.row.cell 6
 have H3:=Aa h3
 clear h3
 simp at d6
 cases ho:Dg n with
 |true=>
  rw[ho]at d6
  have A6:code++Aq ⟨.less a b,n⟩=code++[Gk a]++[Gk b]++[.less]++[.not]:=by
   unfold Dg at ho;simp[Aq,Ja,ho]
  have VU:=Aa A6
  clear ho A6
  go_wp2_with fail
  refine(H3.out.put (by first|omega|(simp;omega)) .not rfl rfl rfl).mono ?_
  rintro e w4 ⟨rfl,h4⟩
  have H4:=Aa h4
  clear h4
  go_wp2
  refine Dd (Cl rfl _ _ _) rfl ?_
  rw[VU.out]
  exact H4.out.out
 |false=>
  rw[ho]at d6
  have A6:code++Aq ⟨.less a b,n⟩=code++[Gk a]++[Gk b]++[.less]:=by
   unfold Dg at ho;simp[Aq,Ja,ho]
  have VU:=Aa A6
  clear ho A6
  go_wp2
  refine Dd (Cl rfl _ _ _) rfl ?_
  rw[VU.out]
  exact H3.out.out
theorem Y5 (h:NB S w gm gg gp bm vl loops code) (hS:Up S w) (hn:code.length≤900000) (q:Int) (n:Nat):
  Calls Tryz.prog 140 #[.pointer (some ⟨gm,0,none⟩),.agg (By ⟨.full q,n⟩).toArray] w fun e w'=>PK S w gm gg gp bm loops (code++Aq ⟨.full q,n⟩) e w':=by
 have h0:=DI.start h hS 256 (By ⟨.full q,n⟩)
 have H0:=Aa h0
 clear h0 h hS
 unfold By vs at*
 simp only[Cg,BT,L9,vs,A8,CH]at*
 go_enter dv,X9
 go_wp2_with fail
 refine(H0.out.put (by first|omega|(simp;omega)) (.full q) rfl rfl rfl).mono ?_
 rintro e w1 ⟨rfl,h1⟩
 have H1:=Aa h1
 clear h1
 have d6:=H1.out.row.cell 6
 simp at d6
 cases ho:Dg n with
 |true=>
  rw[ho]at d6
  have A6:code++Aq ⟨.full q,n⟩=code++[(.full q)]++[.not]:=by
   unfold Dg at ho;simp[Aq,Ja,ho]
  have VU:=Aa A6
  clear ho A6
  go_wp2_with fail
  refine(H1.out.put (by first|omega|(simp;omega)) .not rfl rfl rfl).mono ?_
  rintro e w9 ⟨rfl,h9⟩
  have H9:=Aa h9
  clear h9
  go_wp2
  refine Dd (Cl rfl _ _ _) rfl ?_
  rw[VU.out]
  exact H9.out.out
 |false=>
  rw[ho]at d6
  have A6:code++Aq ⟨.full q,n⟩=code++[(.full q)]:=by
   unfold Dg at ho;simp[Aq,Ja,ho]
  have VU:=Aa A6
  clear ho A6
  go_wp2
  refine Dd (Cl rfl _ _ _) rfl ?_
  rw[VU.out]
  exact H1.out.out
theorem Y3 (h:NB S w gm gg gp bm vl loops code) (hS:Up S w) (hn:code.length≤900000) (q:Int) (n:Nat):
  Calls Tryz.prog 140 #[.pointer (some ⟨gm,0,none⟩),.agg (By ⟨.warm q,n⟩).toArray] w fun e w'=>PK S w gm gg gp bm loops (code++Aq ⟨.warm q,n⟩) e w':=by
 have h0:=DI.start h hS 256 (By ⟨.warm q,n⟩)
 have H0:=Aa h0
 clear h0 h hS
 unfold By vs at*
 simp only[Cg,BT,L9,vs,A8,CH]at*
 go_enter dv,X9
 go_wp2_with fail
 refine(H0.out.put (by first|omega|(simp;omega)) (.warm q) rfl rfl rfl).mono ?_
 rintro e w1 ⟨rfl,h1⟩
 have H1:=Aa h1
 clear h1
 have d6:=H1.out.row.cell 6
 simp at d6
 cases ho:Dg n with
 |true=>
  rw[ho]at d6
  have A6:code++Aq ⟨.warm q,n⟩=code++[(.warm q)]++[.not]:=by
   unfold Dg at ho;simp[Aq,Ja,ho]
  have VU:=Aa A6
  clear ho A6
  go_wp2_with fail
  refine(H1.out.put (by first|omega|(simp;omega)) .not rfl rfl rfl).mono ?_
  rintro e w9 ⟨rfl,h9⟩
  have H9:=Aa h9
  clear h9
  go_wp2
  refine Dd (Cl rfl _ _ _) rfl ?_
  rw[VU.out]
  exact H9.out.out
 |false=>
  rw[ho]at d6
  have A6:code++Aq ⟨.warm q,n⟩=code++[(.warm q)]:=by
   unfold Dg at ho;simp[Aq,Ja,ho]
  have VU:=Aa A6
  clear ho A6
  go_wp2
  refine Dd (Cl rfl _ _ _) rfl ?_
  rw[VU.out]
  exact H1.out.out
theorem W6 (h:NB S w gm gg gp bm vl loops code) (hS:Up S w) (hn:code.length≤900000) (q:Int) (n:Nat):
  Calls Tryz.prog 140 #[.pointer (some ⟨gm,0,none⟩),.agg (By ⟨.empty q,n⟩).toArray] w fun e w'=>PK S w gm gg gp bm loops (code++Aq ⟨.empty q,n⟩) e w':=by
 have h0:=DI.start h hS 256 (By ⟨.empty q,n⟩)
 have H0:=Aa h0
 clear h0 h hS
 unfold By vs at*
 simp only[Cg,BT,L9,vs,A8,CH]at*
 go_enter dv,X9
 go_wp2_with fail
 refine(H0.out.put (by first|omega|(simp;omega)) (.len q) rfl rfl rfl).mono ?_
 rintro e w1 ⟨rfl,h1⟩
 have H1:=Aa h1
 clear h1
 go_wp2_with fail
 refine(H1.out.put (by first|omega|(simp;omega)) (.num 1) rfl rfl rfl).mono ?_
 rintro e w2 ⟨rfl,h2⟩
 have H2:=Aa h2
 clear h2
 go_wp2_with fail
 refine(H2.out.put (by first|omega|(simp;omega)) .less rfl rfl rfl).mono ?_
 rintro e w3 ⟨rfl,h3⟩
 have H3:=Aa h3
 clear h3
 have d6:=H3.out.row.cell 6
 simp at d6
 cases ho:Dg n with
 |true=>
  rw[ho]at d6
  have A6:code++Aq ⟨.empty q,n⟩=code++[(.len q)]++[(.num 1)]++[.less]++[.not]:=by
   unfold Dg at ho;simp[Aq,Ja,ho]
  have VU:=Aa A6
  clear ho A6
  go_wp2_with fail
  refine(H3.out.put (by first|omega|(simp;omega)) .not rfl rfl rfl).mono ?_
  rintro e w9 ⟨rfl,h9⟩
  have H9:=Aa h9
  clear h9
  go_wp2
  refine Dd (Cl rfl _ _ _) rfl ?_
  rw[VU.out]
  exact H9.out.out
 |false=>
  rw[ho]at d6
  have A6:code++Aq ⟨.empty q,n⟩=code++[(.len q)]++[(.num 1)]++[.less]:=by
   unfold Dg at ho;simp[Aq,Ja,ho]
  have VU:=Aa A6
  clear ho A6
  go_wp2
  refine Dd (Cl rfl _ _ _) rfl ?_
  rw[VU.out]
  exact H3.out.out
theorem qU (h:NB S w gm gg gp bm vl loops code) (hS:Up S w) (hn:code.length≤900000) (c:Da):
  Calls Tryz.prog 140 #[.pointer (some ⟨gm,0,none⟩),.agg (By c).toArray] w fun e w'=>PK S w gm gg gp bm loops (code++Aq c) e w':=by
 obtain⟨k,n⟩:=c
 cases k with
 |full q=>exact Y5 h hS hn q n
 |empty q=>exact W6 h hS hn q n
 |warm q=>exact Y3 h hS hn q n
 |less a b=>exact Y4 h hS hn a b n
def T9:D9→Int×Int
 | .put _ _=>(0,1)
 | .shift _ _ _=>(3,4)
 | .evict _=>(2,2)
 | .cool _=>(8,8)
 | .drop=>(5,5)
 |_=>(7,7)
theorem gZ (p:D9) (w:World) (hp:∀v,p≠.inc v∧p≠.dec v):Calls Tryz.prog 141 #[vs (ES p)] w fun e w'=>e= .returned (.tuple #[.int .u8 (T9 p).1,.int .u8 (T9 p).2])∧w'=w:=by
 unfold vs
 cases p
 case inc v=>exact absurd rfl (hp v).1
 case dec v=>exact absurd rfl (hp v).2
 all_goals
  clear hp
  unfold ES
  go_enter Tryz.func141,Tryz.ntmps141
  go_wp2
  refine Av (results_tmp2 Tryz.results141 _ _ _) rfl ?_
  exact⟨rfl,rfl⟩
end
theorem N8 (name:Ae):∀(l:List Bf) (k:Nat),C7 name l k= -1∨∃(i:Nat) (d:Bf),l[i]?=some d∧C7 name l k=((k+i:Nat):Int)
 | [],k=>.inl rfl
 |d::l,k=>by
  by_cases h:d.name=name
  ·exact .inr ⟨0,d,rfl,by rw[C7,Ak h];rfl⟩
  ·rcases N8 name l (k+1)with h1|⟨i,d',h1,h2⟩
   ·exact .inl (by rw[C7,Ad h,h1])
   ·exact .inr ⟨i+1,d',by simpa using h1,by rw[C7,Ad h,h2];congr 1;omega⟩
theorem UF (l:List Bf) (name:Ae):find l name= -1∨∃(i:Nat) (d:Bf),l[i]?=some d∧find l name=(i:Int)∧Au l (i:Int)=d:=by
 rcases N8 name l 0 with h|⟨i,d,h1,h2⟩
 ·exact .inl h
 ·exact .inr ⟨i,d,h1,by unfold find;rw[h2,FA],by unfold Au;simp[h1]⟩
section
variable {B:Nat} {ea:Nat→Addr} {w:World} {g gp bm:Nat} {vd wp:Value} {s:Ae} {st:PS}
theorem DG.below (h:DG B ea w g gp bm vd wp s st) {w':World} (hb:Below w.heap.size w w'):DG B ea w' g gp bm vd wp s st:=
 h.kg_same (Af.of_below hb (fun k hk=>.inr hk)) (hb.block g h.row.lt)
theorem DG.drewN (h:DG B ea w g gp bm vd wp s st) (n:Nat):DG B ea (w.drewN n) g gp bm vd wp s st:=h.kg_same ((Af.refl _ w).drewN n) rfl
theorem IX {g:Nat} {w w':World} (hb:Below w.heap.size w w'):Kg g w w':=Af.of_below hb (fun k hk=>.inr hk)
theorem G0 (h:DG B ea w g gp bm vd wp s st) (Em:Bool):
  Calls Tryz.prog 122 #[.pointer (some ⟨g,0,none⟩),.bool Em] w fun e w'=>Di B ea w g gp bm s (name s Em st) (fun _ n v=>v= .int .i64 n) e w':=by
 by_cases hk:st.t.kind=BG
 ·have hw:want s BG st= .ok st.t (next s st):=by unfold want;rw[Ak hk]
  have e2:name s Em st= .ok (find (next s st).decls st.t.text) (Ch Em st.t (next s st)):=by
   unfold name;rw[hw];rfl
  rw[e2]
  have G5:=CD h BG
  rw[hw]at G5
  have HW:=Aa G5
  clear G5 e2 hw hk h
  generalize next s st=st1 at*
  unfold vs at*
  go_enter Tryz.func122,Tryz.ntmps122
  go_wp2_with fail
  refine HW.out.mono ?_
  rintro e w1 ⟨v,rfl,rfl,Bi,OM,Vk,h1⟩
  have Ny:=h1.alloc (.cells #[vs st.t.kind,vs st.t.text,.int .i64 st.t.pos] 170)
  have hA:=Ny.drewN 1
  have oM:=(Bi.alloc (.inr Bi.size) (.cells #[vs st.t.kind,vs st.t.text,.int .i64 st.t.pos] 170)).drewN 1
  have x0:=(AM.new w1 170 [vs st.t.kind,vs st.t.text,.int .i64 st.t.pos])
  have G8:=QJ st.t.text gp st1.decls OM _ hA.decls hA.dl hA.pol.lt (hA.pol.cell 0)
  obtain⟨_,_,_,_,_,c5,_⟩:=AV Ny.row
  have d1:=x0.cell 1
  simp at d1
  have HF:=Aa G8
  have HA:=Aa hA
  have HKA:=Aa oM
  have X0:=Aa x0
  have H1:=Aa h1
  clear G8 hA Ny oM x0 h1 Bi
  unfold GB
  go_wp2_with fail
  (refine DM 6 (by kernel_rfl) (by kernel_rfl) ?_;simp only[Aw,AO,Ax,AK];repeat still_step)
  refine Cf ?_
  go_wp2_with fail
  refine HF.out.mono ?_
  rintro e w2 ⟨rfl,Hy⟩
  have h2:=HA.out.below Hy
  have A4:=Kg.trans HKA.out (IX Hy)
  have x2:AM w2 w1.heap.size 170 [vs st.t.kind,vs st.t.text,.int .i64 st.t.pos]:=(Hy.block _ (by simp)).trans X0.out
  have d2:=x2.cell 2
  simp at d2
  obtain⟨_,_,_,_,_,_J,_⟩:=AV h2.row
  have p0:=h2.pol.cell 0
  have en:w2.cell? ⟨9,0,none⟩=some (.iface 315 (.pointer (some (ea 5)))):=h2.env.err 5 (by omega) (by omega)
  have ek:w2.cell? ⟨10,0,none⟩=some (.iface 315 (.pointer (some (ea 6)))):=h2.env.err 6 (by omega) (by omega)
  have n5:=GZ h2 5 st.t.pos
  have n6:=GZ h2 6 st.t.pos
  have N5:=Aa n5
  have N6:=Aa n6
  have DL:=Aa h2.decls
  have H2:=Aa h2
  have Ll:=Aa A4
  clear n5 n6 h2 A4 x2 Hy c5 d1
  rcases UF st1.decls st.t.text with hf|⟨i,d,hi,hf,hd⟩
  ·have ev:Ch Em st.t st1=note WA st.t.pos st1:=by unfold Ch;rw[hf];rfl
   rw[hf]
   go_wp2_with fail
   refine N5.out.mono ?_
   rintro e w3 ⟨rfl,BY,jz,h3⟩
   have F:=Aa (And.intro BY h3)
   clear BY h3
   go_wp2
   go_ret
   refine⟨_,rfl,by rw[hf];rfl,Kg.trans Ll.out F.out.1,OM,jz,?_⟩
   rw[ev]
   exact F.out.2
  ·obtain⟨ao,cap,rfl⟩:=H2.out.decls.any_
   obtain⟨gd,rfl,Ws,GH⟩:=DL.out.get_ (fun _=>rfl) hi
   have q0:w2.cell? ⟨gd,i*3,none⟩=some (.int .i64 d.kind):=GH 0 (by omega)
   have hil:i<st1.decls.length:=(Ap.1 hi).1
   have ev:Ch Em st.t st1=if(d.kind==2)!=Em then note SI st.t.pos st1 else st1:=by
    unfold Ch;rw[hf,Ad (by omega),hd]
   clear GH hd hi
   rw[hf]
   by_cases h2:d.kind=2
   ·have LZ:(d.kind:Int)=2:=by omega
    cases Em with
    |true=>
     have ev:Ch true st.t st1=st1:=by rw[ev,h2];rfl
     clear h2
     go_wp2
     go_ret
     refine⟨_,rfl,by rw[hf];rfl,Ll.out,.slice (some ⟨gd,0,none⟩) st1.decls.length cap,Vk,?_⟩
     rw[ev]
     exact H2.out
    |false=>
     have ev:Ch false st.t st1=note SI st.t.pos st1:=by rw[ev,h2];rfl
     clear h2
     go_wp2_with fail
     refine N6.out.mono ?_
     rintro e w3 ⟨rfl,BY,jz,h3⟩
     have F:=Aa (And.intro BY h3)
     clear BY h3
     go_wp2
     go_ret
     refine⟨_,rfl,by rw[hf];rfl,Kg.trans Ll.out F.out.1,.slice (some ⟨gd,0,none⟩) st1.decls.length cap,jz,?_⟩
     rw[ev]
     exact F.out.2
   ·have LZ:¬(d.kind:Int)=2:=by omega
    have h2b:(d.kind==2)=false:=by simpa using h2
    have h2c:((d.kind:Int)==2)=false:=by simpa using LZ
    cases Em with
    |true=>
     have ev:Ch true st.t st1=note SI st.t.pos st1:=by rw[ev,h2b];rfl
     clear h2 h2b
     go_wp2_with fail
     refine N6.out.mono ?_
     rintro e w3 ⟨rfl,BY,jz,h3⟩
     have F:=Aa (And.intro BY h3)
     clear BY h3
     go_wp2
     go_ret
     refine⟨_,rfl,by rw[hf];rfl,Kg.trans Ll.out F.out.1,.slice (some ⟨gd,0,none⟩) st1.decls.length cap,jz,?_⟩
     rw[ev]
     exact F.out.2
    |false=>
     have ev:Ch false st.t st1=st1:=by rw[ev,h2b];rfl
     clear h2 h2b
     go_wp2
     go_ret
     refine⟨_,rfl,by rw[hf];rfl,Ll.out,.slice (some ⟨gd,0,none⟩) st1.decls.length cap,Vk,?_⟩
     rw[ev]
     exact H2.out
 ·have hw:want s BG st= .bad D1 st.t.pos:=by unfold want fail;rw[Ad hk]
  have e2:name s Em st= .bad D1 st.t.pos:=by unfold name;rw[hw];rfl
  rw[e2]
  have G5:=CD h BG
  rw[hw]at G5
  have HW:=Aa G5
  clear G5 e2 hw hk h
  unfold vs at*
  go_enter Tryz.func122,Tryz.ntmps122
  go_wp2_with fail
  refine HW.out.mono ?_
  rintro e w1 ⟨gf,rfl,hF⟩
  go_wp2
  exact⟨rfl,gf,rfl,hF⟩
end
theorem AG {P:Program} {fn:Func} {r:Nat} {t:TypeId} {e:TypeId} {R:Nat} {cs:List Value} {w:World} {tmps:Array Value} (h:fn.results=#[.cell r t])
  (ha:∀w,(isAgg t).run P w= .ok true w) (hz:∀w,(Go.sizeOf t).run P w= .ok cs.length w) (hp:tmps.getD r undef= .pointer (some ⟨R,0,none⟩)) (hr:AM w R e cs):
  (results fn tmps).run P w= .ok (.agg cs.toArray) w:=by
 have hl:=run_loadCells_list (P:=P) (w:=w) ⟨R,0,none⟩ cs (fun j v hj=>by
  have:=hr.cell j
  rw[hj]at this
  by_cases xI:j=0
  ·subst xI;simpa[Addr.add]using this
  ·simpa[Addr.add,xI]using this)
 have hq:tmps[r]?.getD undef= .pointer (some ⟨R,0,none⟩):=by simpa[Array.getD_eq_getD_getElem?]using hp
 simp[results,h,hq,asAddr,loadVar,ha,hz,hl]
structure Lk (B:Nat) (ea:Nat→Addr) (g gp bm:Nat) (vd wp:Value) (s:Ae) (st:PS) (w0 w:World) (R:Nat) (T:TypeId) (cs:List Value):Prop where
 rd:DG B ea w g gp bm vd wp s st
 kg:Kg g w0 w
 row:AM w R T cs
 new:w0.heap.size≤R
 b:B≤R
 t:T≠90∧T≠86∧T≠110∧T≠172
section
variable {B:Nat} {ea:Nat→Addr} {w w0:World} {g gp bm R:Nat} {vd wp:Value} {s:Ae} {st:PS} {T:TypeId} {cs:List Value}
theorem Lk.start (h:DG B ea w g gp bm vd wp s st) (T:TypeId) (cs:List Value) (ht:T≠90∧T≠86∧T≠110∧T≠172):
  Lk B ea g gp bm vd wp s st w (w.alloc (.cells cs.toArray T)) w.heap.size T cs:=
 ⟨h.alloc _,(Af.refl _ _).alloc (.inr (Ab _)) _,AM.new _ _ _,Ab _,h.env.size,ht⟩
theorem Lk.ne (h:Lk B ea g gp bm vd wp s st w0 w R T cs):R≠g:=h.row.ne_ h.rd.row h.t.2.2.2
theorem Lk.call (h:Lk B ea g gp bm vd wp s st w0 w R T cs) {w':World} {st':PS} {Nu U9:Value} (hk:Kg g w w') (hr:DG B ea w' g gp bm Nu U9 s st'):Lk B ea g gp bm Nu U9 s st' w0 w' R T cs:=
 ⟨hr,Kg.trans h.kg hk,(Hw hk h.row.lt h.ne).trans h.row,h.new,h.b,h.t⟩
theorem Lk.set_ (h:Lk B ea g gp bm vd wp s st w0 w R T cs) (hs:T≠258) (i:Nat) (u:Value):Lk B ea g gp bm vd wp s st w0 (w.setCell ⟨R,i,none⟩ u) R T (cs.set i u):=
 ⟨h.rd.set_ h.b h.row ⟨h.t.1,h.t.2.1,hs,h.t.2.2.1⟩ h.t.2.2.2 i u,h.kg.setCell (p:=⟨R,i,none⟩) (.inr h.new) u,h.row.set_ i u,h.new,h.b,h.t⟩
end
section
variable {B:Nat} {ea:Nat→Addr} {w:World} {g gp bm:Nat} {vd wp:Value} {s:Ae} {st:PS}
theorem Th (w:World):(Go.sizeOf 254).run Tryz.prog w= .ok 2 w:=by kernel_rfl
theorem XE (w:World):(isAgg 254).run Tryz.prog w= .ok true w:=by kernel_rfl
theorem Ru {α:Type} {x:AJ α} {f:α→O0} {n:α→Int} {k:Ae} (hf:∀a,Du (f a)=[vs k,.int .i64 (n a)]) {W w0:World} {stv:PS} {vd0 OL:Value} {T:Type} (hA:Lk B ea g gp bm vd0 OL s stv w0 W w0.heap.size 254 [vs [],.int .i64 0])
  {e:Ending} {w1:World} (ho:Di B ea W g gp bm s x (fun _ a v=>v= .int .i64 (n a)) e w1):
  (∃a st1,x= .ok a st1∧e= .returned (.int .i64 (n a))∧(∀j,w1.frozen? ⟨w0.heap.size,j,none⟩=false)∧w1.cell? ⟨w0.heap.size,0,none⟩=some (vs [])∧w1.cell? ⟨w0.heap.size,1,none⟩=some (.int .i64 0)∧
   ∃vd wp,DG B ea ((w1.setCell ⟨w0.heap.size,0,none⟩ (vs k)).setCell ⟨w0.heap.size,1,none⟩ (.int .i64 (n a))) g gp bm vd wp s st1∧Kg g w0 ((w1.setCell ⟨w0.heap.size,0,none⟩ (vs k)).setCell ⟨w0.heap.size,1,none⟩ (.int .i64 (n a)))∧
    AM ((w1.setCell ⟨w0.heap.size,0,none⟩ (vs k)).setCell ⟨w0.heap.size,1,none⟩ (.int .i64 (n a))) w0.heap.size 254 (Du (f a)))∨
  (∃k pos,x= .bad k pos∧Ri B ea w0 e w1 k pos):=by
 cases x with
 |ok a st1=>
  obtain⟨v,rfl,rfl,Bi,OM,Vk,h1⟩:=ho
  have H1:=hA.call Bi h1
  have H3:=(H1.set_ (by decide) 0 (vs k)).set_ (by decide) 1 (.int .i64 (n a))
  exact .inl ⟨a,st1,rfl,rfl,fun j=>H1.row.frozen j,H1.row.cell 0,H1.row.cell 1,_,_,H3.rd,H3.kg,by rw[hf];exact H3.row⟩
 |bad k pos=>
  obtain⟨gf,h1,h2,h3,h4⟩:=ho
  refine .inr ⟨k,pos,rfl,gf,h1,?_,h3,h4⟩
  exact Af.trans (hA.kg.mono (fun b hb=>by
   rcases hb with rfl|hb
   ·exact hA.rd.g0
   ·exact Ai (Nat.le_of_lt_succ (Nat.lt_succ_of_le (hA.b))) hb)) h2
theorem fH (h:DG B ea w g gp bm vd wp s st) (ok:st.Ok s) (hk:st.t.kind=Bc):
  Calls Tryz.prog 169 #[.pointer (some ⟨g,0,none⟩)] w fun e w'=>Di B ea w g gp bm s ((number s 0 999 st).map .num) (fun _ a v=>v= .agg (Du a).toArray) e w':=by
 have hA:=Lk.start h 254 [vs [],.int .i64 0] (by decide)
 have hn:=Iu hA.rd ok 0 999
 obtain⟨_,_,c2,_⟩:=AV hA.rd.row
 have HA:=Aa hA
 have HN:=Aa hn
 have Xn:=hA.ne
 clear hA hn h ok
 rw[hk]at c2
 clear hk
 unfold vs at*
 go_enter dq,X5
 go_wp2_with fail
 refine HN.out.mono ?_
 rintro e w1 ho
 rcases Ru (f:=.num) (n:=id) (k:=Bc) (T:=Unit) (fun _=>rfl) HA.out ho with⟨a,st1,hx,rfl,z,d0,d1,OM,Vk,hr,iG,BQ⟩|⟨k,pos,hx,gf,rfl,hF⟩
 ·have HX:=Aa hx
  have F:=Aa (And.intro hr (And.intro iG BQ))
  clear hr iG BQ hx ho
  unfold vs id at*
  go_wp2
  refine Av (AG (cs:=Du (.num a)) Tp XE Th rfl F.out.2.2) rfl ?_
  rw[HX.out]
  exact⟨_,rfl,rfl,F.out.2.1,OM,Vk,F.out.1⟩
 ·have HX:=Aa hx
  clear ho hx
  go_wp2
  rw[HX.out]
  exact⟨rfl,gf,rfl,hF⟩
theorem KH {k:Ae} (hk:st.t.kind=k):take s k st=(true,next s st):=by unfold take;rw[Ak hk]
theorem Kb {k:Ae} (hk:st.t.kind≠k):take s k st=(false,st):=by unfold take;rw[Ad hk]
theorem fI (h:DG B ea w g gp bm vd wp s st) (hk:st.t.kind=G2):
  Calls Tryz.prog 169 #[.pointer (some ⟨g,0,none⟩)] w fun e w'=>Di B ea w g gp bm s ((name s false (next s st)).map .len) (fun _ a v=>v= .agg (Du a).toArray) e w':=by
 have hA:=Lk.start h 254 [vs [],.int .i64 0] (by decide)
 have ht:=Gn hA.rd G2
 rw[KH hk]at ht
 obtain⟨_,_,c2,_⟩:=AV hA.rd.row
 have HA:=Aa hA
 have HT:=Aa ht
 clear hA ht h
 rw[hk]at c2
 clear hk
 unfold vs at*
 go_enter dq,X5
 go_wp2_with fail
 refine HT.out.mono ?_
 rintro e w0 ⟨rfl,Gh,h0⟩
 have Ny:=HA.out.call Gh h0
 have hn:=G0 Ny.rd false
 have pd:=Aa Ny
 have HN:=Aa hn
 clear Gh h0 Ny hn
 go_wp2_with fail
 refine HN.out.mono ?_
 rintro e w1 ho
 rcases Ru (f:=.len) (n:=id) (k:=G2) (T:=Unit) (fun _=>rfl) pd.out ho with⟨a,st1,hx,rfl,z,d0,d1,OM,Vk,hr,iG,BQ⟩|⟨k,pos,hx,gf,rfl,hF⟩
 ·have HX:=Aa hx
  have F:=Aa (And.intro hr (And.intro iG BQ))
  clear hr iG BQ hx ho
  unfold vs id at*
  go_wp2
  refine Av (AG (cs:=Du (.len a)) Tp XE Th rfl F.out.2.2) rfl ?_
  rw[HX.out]
  exact⟨_,rfl,rfl,F.out.2.1,OM,Vk,F.out.1⟩
 ·have HX:=Aa hx
  clear ho hx
  go_wp2
  rw[HX.out]
  exact⟨rfl,gf,rfl,hF⟩
theorem aK (h:DG B ea w g gp bm vd wp s st) (hk:st.t.kind=BX):
  Calls Tryz.prog 169 #[.pointer (some ⟨g,0,none⟩)] w fun e w'=>Di B ea w g gp bm s (.ok .freq (next s st)) (fun _ a v=>v= .agg (Du a).toArray) e w':=by
 have hA:=Lk.start h 254 [vs [],.int .i64 0] (by decide)
 have ht:=Gn hA.rd G2
 rw[Kb (by rw[hk];decide)]at ht
 obtain⟨_,_,c2,_⟩:=AV hA.rd.row
 have HA:=Aa hA
 have HT:=Aa ht
 clear hA ht h
 have HK:=Aa hk
 rw[hk]at c2
 clear hk
 unfold vs at*
 go_enter dq,X5
 go_wp2_with fail
 refine HT.out.mono ?_
 rintro e w0 ⟨rfl,Gh,h0⟩
 have Ny:=HA.out.call Gh h0
 have Sz:=Gn Ny.rd BX
 rw[KH HK.out]at Sz
 have pd:=Aa Ny
 have Rg:=Aa Sz
 clear Gh h0 Ny Sz
 go_wp2_with fail
 refine Rg.out.mono ?_
 rintro e w1 ⟨rfl,Bi,h1⟩
 have LK:=pd.out.call Bi h1
 have z:=fun j=>LK.row.frozen j
 have d0:=LK.row.cell 0
 have d1:=LK.row.cell 1
 have F:=Aa ((LK.set_ (by decide) 0 (vs BX)).set_ (by decide) 1 (.int .i64 0))
 clear Bi h1 LK
 simp at d0 d1
 unfold vs at*
 go_wp2
 refine Av (AG (cs:=Du .freq) Tp XE Th rfl F.out.row) rfl ?_
 exact⟨_,rfl,rfl,F.out.kg,_,_,F.out.rd⟩
theorem fG (h:DG B ea w g gp bm vd wp s st) (Bi:st.t.kind≠Bc) (A4:st.t.kind≠G2) (BY:st.t.kind≠BX):
  Calls Tryz.prog 169 #[.pointer (some ⟨g,0,none⟩)] w fun e w'=>Di B ea w g gp bm s ((name s true st).map .var) (fun _ a v=>v= .agg (Du a).toArray) e w':=by
 have hA:=Lk.start h 254 [vs [],.int .i64 0] (by decide)
 have ht:=Gn hA.rd G2
 rw[Kb A4]at ht
 obtain⟨_,_,c2,_⟩:=AV hA.rd.row
 have HA:=Aa hA
 have HT:=Aa ht
 have Yf:=Aa BY
 have e1:(st.t.kind==Bc)=false:=by simpa using Bi
 clear hA ht h Bi A4 BY
 unfold vs at*
 go_enter dq,X5
 go_wp2_with fail
 refine HT.out.mono ?_
 rintro e w0 ⟨rfl,Gh,h0⟩
 have Ny:=HA.out.call Gh h0
 have Sz:=Gn Ny.rd BX
 rw[Kb Yf.out]at Sz
 have pd:=Aa Ny
 have Rg:=Aa Sz
 clear Gh h0 Ny Sz
 go_wp2_with fail
 refine Rg.out.mono ?_
 rintro e w1 ⟨rfl,Bi,h1⟩
 have LK:=pd.out.call Bi h1
 have hn:=G0 LK.rd true
 have xh:=Aa LK
 have HN:=Aa hn
 clear Bi h1 LK hn
 go_wp2_with fail
 refine HN.out.mono ?_
 rintro e w2 ho
 rcases Ru (f:=.var) (n:=id) (k:=IY) (T:=Unit) (fun _=>rfl) xh.out ho with⟨a,st1,hx,rfl,z,d0,d1,OM,Vk,hr,iG,BQ⟩|⟨k,pos,hx,gf,rfl,hF⟩
 ·have HX:=Aa hx
  have F:=Aa (And.intro hr (And.intro iG BQ))
  clear hr iG BQ hx ho
  unfold vs id at*
  go_wp2
  refine Av (AG (cs:=Du (.var a)) Tp XE Th rfl F.out.2.2) rfl ?_
  rw[HX.out]
  exact⟨_,rfl,rfl,F.out.2.1,OM,Vk,F.out.1⟩
 ·have HX:=Aa hx
  clear ho hx
  go_wp2
  rw[HX.out]
  exact⟨rfl,gf,rfl,hF⟩
theorem V2 (h:DG B ea w g gp bm vd wp s st) (ok:st.Ok s):
  Calls Tryz.prog 169 #[.pointer (some ⟨g,0,none⟩)] w fun e w'=>Di B ea w g gp bm s (value s st) (fun _ a v=>v= .agg (Du a).toArray) e w':=by
 unfold value
 by_cases h1:st.t.kind=Bc
 ·rw[Ak h1];exact fH h ok h1
 ·by_cases h2:st.t.kind=G2
  ·rw[Ad h1,Ak h2];exact fI h h2
  ·by_cases h3:st.t.kind=BX
   ·rw[Ad h1,Ad h2,Ak h3];exact aK h h3
   ·rw[Ad h1,Ad h2,Ad h3];exact fG h h1 h2 h3
end
structure Lj (B:Nat) (ea:Nat→Addr) (g gp bm:Nat) (vd wp:Value) (s:Ae) (st:PS) (w0 w:World) (R C:Nat) (T:TypeId) (cs ds:List Value):Prop where
 rd:DG B ea w g gp bm vd wp s st
 kg:Kg g w0 w
 row:AM w R T cs
 row2:AM w C T ds
 new:w0.heap.size≤R
 new2:w0.heap.size≤C
 ne:R≠C
 t:T≠90∧T≠86∧T≠110∧T≠172
section
variable {B:Nat} {ea:Nat→Addr} {w w0:World} {g gp bm R C:Nat} {vd wp:Value} {s:Ae} {st:PS} {T:TypeId} {cs ds:List Value}
theorem Lk.alloc_ (h:Lk B ea g gp bm vd wp s st w0 w R T cs) (o:Obj):Lk B ea g gp bm vd wp s st w0 (w.alloc o) R T cs:=
 ⟨h.rd.alloc o,h.kg.alloc (.inr h.kg.size) o,h.row.alloc o,h.new,h.b,h.t⟩
theorem Lj.b (h:Lj B ea g gp bm vd wp s st w0 w R C T cs ds) (h0:B≤w0.heap.size):B≤R∧B≤C:=⟨Ai h0 h.new,Ai h0 h.new2⟩
theorem Lj.start (h:Lk B ea g gp bm vd wp s st w0 w R T cs) (hs:T≠258) (ds:List Value):Lj B ea g gp bm vd wp s st w0 (w.alloc (.cells ds.toArray T)) R w.heap.size T cs ds:=
 ⟨h.rd.alloc _,h.kg.alloc (.inr h.kg.size) _,h.row.alloc _,AM.new _ _ _,h.new,h.kg.size,fun e=>by have:=h.row.lt;omega,h.t⟩
theorem Lj.call (h:Lj B ea g gp bm vd wp s st w0 w R C T cs ds) {w':World} {st':PS} {Nu U9:Value} (hk:Kg g w w') (hr:DG B ea w' g gp bm Nu U9 s st'):Lj B ea g gp bm Nu U9 s st' w0 w' R C T cs ds:=
 ⟨hr,Kg.trans h.kg hk,(Hw hk h.row.lt (h.row.ne_ h.rd.row h.t.2.2.2)).trans h.row,(Hw hk h.row2.lt (h.row2.ne_ h.rd.row h.t.2.2.2)).trans h.row2,h.new,h.new2,h.ne,h.t⟩
theorem Lj.set_ (h:Lj B ea g gp bm vd wp s st w0 w R C T cs ds) (h0:B≤w0.heap.size) (hs:T≠258) (i:Nat) (u:Value):Lj B ea g gp bm vd wp s st w0 (w.setCell ⟨R,i,none⟩ u) R C T (cs.set i u) ds:=
 ⟨h.rd.set_ (h.b h0).1 h.row ⟨h.t.1,h.t.2.1,hs,h.t.2.2.1⟩ h.t.2.2.2 i u,h.kg.setCell (p:=⟨R,i,none⟩) (.inr h.new) u,h.row.set_ i u,h.row2.far (fun e=>h.ne e.symm) u,h.new,h.new2,h.ne,h.t⟩
theorem Lj.set2 (h:Lj B ea g gp bm vd wp s st w0 w R C T cs ds) (h0:B≤w0.heap.size) (hs:T≠258) (i:Nat) (u:Value):Lj B ea g gp bm vd wp s st w0 (w.setCell ⟨C,i,none⟩ u) R C T cs (ds.set i u):=
 ⟨h.rd.set_ (h.b h0).2 h.row2 ⟨h.t.1,h.t.2.1,hs,h.t.2.2.1⟩ h.t.2.2.2 i u,h.kg.setCell (p:=⟨C,i,none⟩) (.inr h.new2) u,h.row.far h.ne u,h.row2.set_ i u,h.new,h.new2,h.ne,h.t⟩
theorem A9 {W:World} {e:Ending} {w':World} {k pos:Nat} (hB:B≤w0.heap.size) (hg:B≤g) (iG:Kg g w0 W) (h:Ri B ea W e w' k pos):Ri B ea w0 e w' k pos:=by
 obtain⟨gf,h1,h2,h3⟩:=h
 exact⟨gf,h1,Af.trans (iG.mono (fun b hb=>hb.elim (fun e=>e▸hg) (fun hb=>Ai hB hb))) h2,h3⟩
theorem Fl (c:CK):∃b0 n1 b2 n3,L9 c=[vs b0,.int .i64 n1,vs b2,.int .i64 n3]:=by
 cases c<;>exact⟨_,_,_,_,rfl⟩
theorem TO (w:World):(Go.sizeOf 256).run Tryz.prog w= .ok 7 w:=by kernel_rfl
theorem XF (w:World):(isAgg 256).run Tryz.prog w= .ok true w:=by kernel_rfl
theorem hI (n:Nat):Dg (n+1)=!Dg n:=by
 unfold Dg
 rcases Nat.mod_two_eq_zero_or_one n with h|h
 ·have:(n+1)%2=1:=by omega
  rw[h,this];rfl
 ·have:(n+1)%2=0:=by omega
  rw[h,this];rfl
theorem nw {n:Nat} (yX:∀(w:World) (vd wp:Value),DG B ea w g gp bm vd wp s (next s st)→Calls Tryz.prog 154 #[.pointer (some ⟨g,0,none⟩)] w fun e w'=>Di B ea w g gp bm s (cond s n (next s st)) (fun _ a v=>v= .agg (By a).toArray) e w')
  (h:DG B ea w g gp bm vd wp s st) (hk:st.t.kind=H6):
  Calls Tryz.prog 154 #[.pointer (some ⟨g,0,none⟩)] w fun e w'=>Di B ea w g gp bm s ((cond s n (next s st)).map fun c=>⟨c.k,c.nots+1⟩) (fun _ a v=>v= .agg (By a).toArray) e w':=by
 have hA:=Lk.start h 256 [vs [],.int .i64 0,vs [],.int .i64 0,vs [],.int .i64 0,.bool false] (by decide)
 have ht:=Gn hA.rd H6
 rw[KH hk]at ht
 have HA:=Aa hA
 have HT:=Aa ht
 have HR:=Aa yX
 have hB:=h.env.size
 have hg:=h.g0
 clear hA ht h hk yX
 unfold vs at*
 go_enter Tryz.func154,Tryz.ntmps154
 go_wp2_with fail
 refine HT.out.mono ?_
 rintro e w0 ⟨rfl,Gh,h0⟩
 have Ny:=HA.out.call Gh h0
 have hn:=HR.out _ _ _ Ny.rd
 have pd:=Aa Ny
 have HN:=Aa hn
 clear Gh h0 Ny hn
 go_wp2_with fail
 refine HN.out.mono ?_
 rintro e w1 ho
 cases hx:cond s n (next s st)with
 |bad k pos=>
  rw[hx]at ho
  obtain⟨gf,rfl,hF⟩:=A9 hB hg pd.out.kg ho
  have HX:=Aa hx
  clear hx
  go_wp2
  rw[HX.out]
  exact⟨rfl,gf,rfl,hF⟩
 |ok c st1=>
  rw[hx]at ho
  obtain⟨v,rfl,rfl,Bi,OM,Vk,h1⟩:=ho
  obtain⟨b0,n1,b2,n3,hv⟩:=Fl c.k
  have LK:=pd.out.call Bi h1
  have z:=fun j=>LK.row.frozen j
  have Cy:=LK.row.lt
  have Cu:¬w.heap.size=w1.heap.size:=by omega
  have e0:By c=[vs (Cg c.k),.int .i64 (BT c.k),vs b0,.int .i64 n1,vs b2,.int .i64 n3,.bool (Dg c.nots)]:=by unfold By;rw[hv];rfl
  have e1:By ⟨c.k,c.nots+1⟩=[vs (Cg c.k),.int .i64 (BT c.k),vs b0,.int .i64 n1,vs b2,.int .i64 n3,.bool !Dg c.nots]:=by unfold By;rw[hv,hI];rfl
  have q4:=(((((((LK.set_ (by decide) 0 (vs (Cg c.k))).set_ (by decide) 1 (.int .i64 (BT c.k))).set_ (by decide) 2 (vs b0)).set_ (by decide) 3 (.int .i64 n1)).set_ (by decide) 4 (vs b2)).set_ (by decide) 5 (.int .i64 n3)).set_ (by decide) 6 (.bool !Dg c.nots)).alloc_
   (.cells #[vs (Cg c.k),.int .i64 (BT c.k),vs b0,.int .i64 n1,vs b2,.int .i64 n3,.bool !Dg c.nots] 256)
  rw[e0]
  have d0:=LK.row.cell 0
  have d1:=LK.row.cell 1
  have d2:=LK.row.cell 2
  have d3:=LK.row.cell 3
  have d4:=LK.row.cell 4
  have d5:=LK.row.cell 5
  have d6:=LK.row.cell 6
  have Q4:=Aa q4
  have E1:=Aa e1
  have HX:=Aa hx
  clear q4 LK e0 e1 hv Bi h1 hx
  simp at d0 d1 d2 d3 d4 d5 d6
  unfold vs at*
  go_wp2
  have BQ:=Q4.out.row
  have sz:∀w,(Go.sizeOf 256).run Tryz.prog w= .ok (By ⟨c.k,c.nots+1⟩).length w:=by rw[ZI];exact TO
  refine Av (AG (cs:=By ⟨c.k,c.nots+1⟩) nM XF sz rfl (by rw[E1.out];exact BQ)) rfl ?_
  rw[HX.out]
  exact⟨_,rfl,rfl,Q4.out.kg,_,_,Q4.out.rd⟩
theorem RO (k:Ae) (mk:Int→CK) (Pg:∀n,By ⟨mk n,0⟩=[vs k,.int .i64 n,vs [],.int .i64 0,vs [],.int .i64 0,.bool false]) (BY:k=DT∨k=CF∨k=DS)
  (h:DG B ea w g gp bm vd wp s st) (hk:st.t.kind=k):
  Calls Tryz.prog 154 #[.pointer (some ⟨g,0,none⟩)] w fun e w'=>Di B ea w g gp bm s ((name s false (next s st)).map fun n=>⟨mk n,0⟩) (fun _ a v=>v= .agg (By a).toArray) e w':=by
 have hA:=Lk.start h 256 [vs [],.int .i64 0,vs [],.int .i64 0,vs [],.int .i64 0,.bool false] (by decide)
 have hnk:st.t.kind≠H6:=by rw[hk];rcases BY with rfl|rfl|rfl<;>decide
 have ht:=Gn hA.rd H6
 rw[Kb hnk]at ht
 have HA:=Aa hA
 have HT:=Aa ht
 have hB:=h.env.size
 have hg:=h.g0
 have HK:=Aa hk
 have HM:=Aa Pg
 clear hA ht h hk hnk Pg
 rcases BY with rfl|rfl|rfl
 all_goals
  unfold vs at*
  go_enter Tryz.func154,Tryz.ntmps154
  go_wp2_with fail
  refine HT.out.mono ?_
  rintro e w0 ⟨rfl,Gh,h0⟩
  have Ny:=HA.out.call Gh h0
  obtain⟨_,_,c2,_⟩:=AV Ny.rd.row
  have Nx:=HK.out
  rw[Nx]at c2
  clear Nx
  have hn:=Dy (Ny.alloc_ (.cells #[vs st.t.kind,.int .i64 0,vs [],.int .i64 0,vs [],.int .i64 0,.bool false] 256)).rd
  have q0:=Lj.start Ny (by decide) [vs st.t.kind,.int .i64 0,vs [],.int .i64 0,vs [],.int .i64 0,.bool false]
  rw[HK.out]at hn q0
  have Q0:=Aa q0
  have HN:=Aa hn
  clear Gh h0 Ny hn q0
  unfold vs at*
  go_wp2_with fail
  refine HN.out.mono ?_
  rintro e w1 ⟨rfl,Bi,h1⟩
  have q1:=Q0.out.call Bi h1
  have hn:=G0 q1.rd false
  have Q1:=Aa q1
  have tV:=Aa hn
  clear Bi h1 q1 hn
  go_wp2_with fail
  refine tV.out.mono ?_
  rintro e w2 ho
  cases hx:name s false (next s st)with
  |bad k pos=>
   rw[hx]at ho
   obtain⟨gf,rfl,hF⟩:=A9 hB hg Q1.out.kg ho
   have HX:=Aa hx
   clear hx
   go_wp2
   rw[HX.out]
   exact⟨rfl,gf,rfl,hF⟩
  |ok n st1=>
   rw[hx]at ho
   obtain⟨v,rfl,rfl,A4,oG,jA,h2⟩:=ho
   have q2:=Q1.out.call A4 h2
   have z:=fun j=>q2.row.frozen j
   have z2:=fun j=>q2.row2.frozen j
   have Cu:¬w.heap.size=w0.heap.size:=q2.ne
   have Vw:¬w0.heap.size=w.heap.size:=fun e=>Cu e.symm
   have d0:=q2.row.cell 0
   have d1:=q2.row.cell 1
   have d2:=q2.row.cell 2
   have d3:=q2.row.cell 3
   have d4:=q2.row.cell 4
   have d5:=q2.row.cell 5
   have d6:=q2.row.cell 6
   have e0:=q2.row2.cell 0
   have e1:=q2.row2.cell 1
   have e2:=q2.row2.cell 2
   have e3:=q2.row2.cell 3
   have e4:=q2.row2.cell 4
   have e5:=q2.row2.cell 5
   have e6:=q2.row2.cell 6
   have q4:=(((((((q2.set2 hB (by decide) 1 (.int .i64 n)).set_ hB (by decide) 0 (vs st.t.kind)).set_ hB (by decide) 1 (.int .i64 n)).set_ hB (by decide) 2 (vs [])).set_ hB (by decide) 3 (.int .i64 0)).set_ hB (by decide) 4 (vs [])).set_ hB (by decide) 5 (.int .i64 0)).set_ hB (by decide) 6 (.bool false)
   rw[HK.out]at q4
   have Q4:=Aa q4
   have HX:=Aa hx
   clear q2 q4 A4 h2 hx
   simp at d0 d1 d2 d3 d4 d5 d6 e0 e1 e2 e3 e4 e5 e6
   unfold vs at*
   go_wp2
   refine Av (AG (cs:=[vs _,.int .i64 n,vs [],.int .i64 0,vs [],.int .i64 0,.bool false]) nM XF TO rfl Q4.out.row) rfl ?_
   rw[HX.out]
   exact⟨_,rfl,(by show _=Value.agg (By ⟨mk n,0⟩).toArray;rw[HM.out]),Q4.out.kg,_,_,Q4.out.rd⟩
theorem iV (h:DG B ea w g gp bm vd wp s st) (ok:st.Ok s) (Gh:st.t.kind≠H6) (Bi:st.t.kind≠DT) (A4:st.t.kind≠CF) (BY:st.t.kind≠DS):
  Calls Tryz.prog 154 #[.pointer (some ⟨g,0,none⟩)] w fun e w'=>Di B ea w g gp bm s
   ((value s st).bind fun a st=>(want s Eu st).bind fun _ st=>(value s st).map fun b=>⟨.less a b,0⟩) (fun _ a v=>v= .agg (By a).toArray) e w':=by
 have hA:=Lk.start h 256 [vs [],.int .i64 0,vs [],.int .i64 0,vs [],.int .i64 0,.bool false] (by decide)
 have ht:=Gn hA.rd H6
 rw[Kb Gh]at ht
 have HA:=Aa hA
 have HT:=Aa ht
 have hB:=h.env.size
 have hg:=h.g0
 have x1:(st.t.kind==DT)=false:=by simpa using Bi
 have x2:(st.t.kind==CF)=false:=by simpa using A4
 have x3:(st.t.kind==DS)=false:=by simpa using BY
 clear hA ht h Gh Bi A4 BY
 unfold vs at*
 go_enter Tryz.func154,Tryz.ntmps154
 go_wp2_with fail
 refine HT.out.mono ?_
 rintro e w0 ⟨rfl,Gh,h0⟩
 have Ny:=HA.out.call Gh h0
 obtain⟨_,_,c2,_⟩:=AV Ny.rd.row
 have q0:=Lj.start Ny (by decide) [vs IG,.int .i64 0,vs [],.int .i64 0,vs [],.int .i64 0,.bool false]
 have hn:=V2 q0.rd ok
 have Q0:=Aa q0
 have HN:=Aa hn
 clear Gh h0 Ny hn q0
 unfold vs at*
 go_wp2_with fail
 refine HN.out.mono ?_
 rintro e w1 ho
 cases hx:value s st with
 |bad k pos=>
  rw[hx]at ho
  obtain⟨gf,rfl,hF⟩:=A9 hB hg Q0.out.kg ho
  have HX:=Aa hx
  clear hx
  go_wp2
  rw[HX.out]
  exact⟨rfl,gf,rfl,hF⟩
 |ok a st1=>
  rw[hx]at ho
  obtain⟨v,rfl,rfl,Bi,OM,Vk,h1⟩:=ho
  have Mg:=(PZ ok hx).1.ok
  have q1:=Q0.out.call Bi h1
  have q2:=(q1.set2 hB (by decide) 2 (vs (Fh a))).set2 hB (by decide) 3 (.int .i64 (D4 a))
  have z2:=fun j=>q1.row2.frozen j
  have e2:=q1.row2.cell 2
  have e3:=q1.row2.cell 3
  have hn:=CD q2.rd Eu
  have Q2:=Aa q2
  have tV:=Aa hn
  have HX:=Aa hx
  have HO:=Aa Mg
  clear Bi h1 q1 q2 hn hx Mg
  simp at e2 e3
  unfold Du vs at*
  go_wp2_with fail
  refine tV.out.mono ?_
  rintro e w2 ho
  cases hy:want s Eu st1 with
  |bad k pos=>
   rw[hy]at ho
   obtain⟨gf,rfl,hF⟩:=A9 hB hg Q2.out.kg ho
   have HY:=Aa hy
   clear hy
   go_wp2
   refine⟨rfl,?_⟩
   rw[HX.out]
   show Di _ _ _ _ _ _ _ ((want s Eu st1).bind _) _ _ _
   rw[HY.out]
   exact⟨gf,rfl,hF⟩
  |ok t AP=>
   rw[hy]at ho
   obtain⟨v,rfl,rfl,A4,oG,jA,h2⟩:=ho
   have Va:AP.Ok s:=by obtain⟨_,_,e⟩:=Bw hy;rw[e];exact BF HO.out
   have q3:=Q2.out.call A4 h2
   have hn:=V2 q3.rd Va
   have Q3:=Aa q3
   have HN3:=Aa hn
   have HY:=Aa hy
   clear A4 h2 q3 hn hy Va
   go_wp2_with fail
   refine HN3.out.mono ?_
   rintro e w3 ho
   cases hz:value s AP with
   |bad k pos=>
    rw[hz]at ho
    obtain⟨gf,rfl,hF⟩:=A9 hB hg Q3.out.kg ho
    have HZ:=Aa hz
    clear hz
    go_wp2
    refine⟨rfl,?_⟩
    rw[HX.out]
    show Di _ _ _ _ _ _ _ ((want s Eu st1).bind _) _ _ _
    rw[HY.out]
    show Di _ _ _ _ _ _ _ ((value s AP).map _) _ _ _
    rw[HZ.out]
    exact⟨gf,rfl,hF⟩
   |ok b Cb=>
    rw[hz]at ho
    obtain⟨v,rfl,rfl,BY,xt,jz,h3⟩:=ho
    have q4:=Q3.out.call BY h3
    have z:=fun j=>q4.row.frozen j
    have z2':=fun j=>q4.row2.frozen j
    have Cu:¬w.heap.size=w0.heap.size:=q4.ne
    have Vw:¬w0.heap.size=w.heap.size:=fun e=>Cu e.symm
    have d0:=q4.row.cell 0
    have d1:=q4.row.cell 1
    have d2:=q4.row.cell 2
    have d3:=q4.row.cell 3
    have d4:=q4.row.cell 4
    have d5:=q4.row.cell 5
    have d6:=q4.row.cell 6
    have f0:=q4.row2.cell 0
    have f1:=q4.row2.cell 1
    have f2:=q4.row2.cell 2
    have f3:=q4.row2.cell 3
    have f4:=q4.row2.cell 4
    have f5:=q4.row2.cell 5
    have f6:=q4.row2.cell 6
    have q5:=((((((((q4.set2 hB (by decide) 4 (vs (Fh b))).set2 hB (by decide) 5 (.int .i64 (D4 b))).set_ hB (by decide) 0 (vs IG)).set_ hB (by decide) 1 (.int .i64 0)).set_ hB (by decide) 2 (vs (Fh a))).set_ hB (by decide) 3 (.int .i64 (D4 a))).set_ hB (by decide) 4 (vs (Fh b))).set_ hB (by decide) 5 (.int .i64 (D4 b))).set_ hB (by decide) 6 (.bool false)
    have Q5:=Aa q5
    have HZ:=Aa hz
    clear q4 q5 BY h3 hz z2 e2 e3
    simp at d0 d1 d2 d3 d4 d5 d6 f0 f1 f2 f3 f4 f5 f6
    unfold Du vs at*
    go_wp2
    refine Av (AG (cs:=[vs IG,.int .i64 0,vs (Fh a),.int .i64 (D4 a),vs (Fh b),.int .i64 (D4 b),.bool false]) nM XF TO rfl Q5.out.row) rfl ?_
    rw[HX.out]
    show Di _ _ _ _ _ _ _ ((want s Eu st1).bind _) _ _ _
    rw[HY.out]
    show Di _ _ _ _ _ _ _ ((value s AP).map _) _ _ _
    rw[HZ.out]
    exact⟨_,rfl,rfl,Q5.out.kg,_,_,Q5.out.rd⟩
theorem UR:∀(n:Nat) (st:PS) (w:World) (vd wp:Value),DG B ea w g gp bm vd wp s st→st.Ok s→left s st<n→
  Calls Tryz.prog 154 #[.pointer (some ⟨g,0,none⟩)] w fun e w'=>Di B ea w g gp bm s (cond s n st) (fun _ a v=>v= .agg (By a).toArray) e w'
 |0,st,w,vd,wp,h,ok,hl=>by omega
 |n+1,st,w,vd,wp,h,ok,hl=>by
  unfold cond
  by_cases h0:st.t.kind=H6
  ·rw[Ak h0]
   exact nw (fun w vd wp h=>UR n (next s st) w vd wp h (BF ok) (by have:=DY ok h0 (by decide) (by decide);omega)) h h0
  ·rw[Ad h0]
   unfold Eh
   by_cases h1:st.t.kind=DT
   ·rw[Ak h1];exact RO DT .full (fun _=>rfl) (.inl rfl) h h1
   ·by_cases h2:st.t.kind=CF
    ·rw[Ad h1,Ak h2];exact RO CF .empty (fun _=>rfl) (.inr (.inl rfl)) h h2
    ·by_cases h3:st.t.kind=DS
     ·rw[Ad h1,Ad h2,Ak h3];exact RO DS .warm (fun _=>rfl) (.inr (.inr rfl)) h h3
     ·rw[Ad h1,Ad h2,Ad h3];exact iV h ok h0 h1 h2 h3
end
section
variable {B:Nat} {ea:Nat→Addr} {w w0:World} {g gp bm:Nat} {vd wp:Value} {s:Ae} {st:PS}
theorem DG.setDepth (h:DG B ea w g gp bm vd wp s st) (n:Nat) {i:Int} (hi:i=n):DG B ea (w.setCell ⟨g,7,none⟩ (.int .i64 i)) g gp bm vd wp s {st with depth:=n}:=by
 subst hi
 have k1:Kg g w (w.setCell ⟨g,7,none⟩ (.int .i64 n)):=Af.setCell (p:=⟨g,7,none⟩) (Af.refl _ _) (.inl rfl) _
 exact h.turn (st':={st with depth:=n}) (h.kg k1) (h.row.set_ 7 (.int .i64 n)) rfl rfl rfl (h.wrong.quiet (h.kg k1)) h.i
theorem DG.setLoops (h:DG B ea w g gp bm vd wp s st) (n:Nat) {i:Int} (hi:i=n):DG B ea (w.setCell ⟨g,8,none⟩ (.int .i64 i)) g gp bm vd wp s {st with loops:=n}:=by
 subst hi
 have k1:Kg g w (w.setCell ⟨g,8,none⟩ (.int .i64 n)):=Af.setCell (p:=⟨g,8,none⟩) (Af.refl _ _) (.inl rfl) _
 exact h.turn (st':={st with loops:=n}) (h.kg k1) (h.row.set_ 8 (.int .i64 n)) rfl rfl rfl (h.wrong.quiet (h.kg k1)) h.i
theorem Kg.cell (g:Nat) (w:World) (i:Nat) (u:Value):Kg g w (w.setCell ⟨g,i,none⟩ u):=Af.setCell (p:=⟨g,i,none⟩) (Af.refl _ _) (.inl rfl) u
def StF (cs:List Value):Prop:=∃(k:Ae) (n m:Int) (t:Bool) (b0:Ae) (i1:Int) (b2:Ae) (i3:Int) (b4:Ae) (i5:Int) (o:Bool) (a1:Option Addr) (n1 c1:Nat) (a2:Option Addr) (n2 c2:Nat),
 cs=[vs k,.int .i64 n,.int .i64 m,.bool t,vs b0,.int .i64 i1,vs b2,.int .i64 i3,vs b4,.int .i64 i5,.bool o,.slice a1 n1 c1,.slice a2 n2 c2]
def Jq (w0 w':World) (b:AC) (v:Value):Prop:=∃cs,v= .agg cs.toArray∧b.length=1∧StF cs∧A5 (fun k=>w0.heap.size≤k) w' b cs
def nN (B:Nat) (ea:Nat→Addr) (g gp bm:Nat) (s:Ae) (m:Nat):Prop:=
 ∀(st:PS) (w:World) (vd wp:Value),DG B ea w g gp bm vd wp s st→st.Ok s→st.depth≤8→st.loops≤2→2*left s st+1≤m→
  Calls Tryz.prog 139 #[.pointer (some ⟨g,0,none⟩)] w fun e w'=>Di B ea w g gp bm s (stmt s m st) (Jq w) e w'
def U8 (B:Nat) (ea:Nat→Addr) (g gp bm:Nat) (s:Ae) (m:Nat):Prop:=
 ∀(st:PS) (w:World) (vd wp:Value),DG B ea w g gp bm vd wp s st→st.Ok s→st.depth≤8→st.loops≤2→2*left s st+1≤m→
  Calls Tryz.prog 123 #[.pointer (some ⟨g,0,none⟩)] w fun e w'=>Di B ea w g gp bm s (block s m st) (fun w' b v=>Dv (fun k=>w.heap.size≤k) w' v b) e w'
theorem M8:∀(b:AC),b.app .nil=b
 | .nil=>rfl
 | .prim p r=>by simp[AC.app,M8 r]
 | .ite c t o e r=>by simp[AC.app,M8 r]
 | .rep n c b r=>by simp[AC.app,M8 r]
theorem Hq:∀(a b c:AC),(a.app b).app c=a.app (b.app c)
 | .nil,_,_=>rfl
 | .prim p r,b,c=>by simp[AC.app,Hq r]
 | .ite _ _ _ _ r,b,c=>by simp[AC.app,Hq r]
 | .rep _ _ _ r,b,c=>by simp[AC.app,Hq r]
theorem lX:(Tryz.prog.info? 258).map (fun i=>(i.zero,i.size,i.bytes))=
  some (some (.agg #[vs [],.int .i64 0,.int .i64 0,.bool false,vs [],.int .i64 0,vs [],.int .i64 0,vs [],.int .i64 0,.bool false,.slice none 0 0,.slice none 0 0]),13,168):=by kernel_rfl
theorem IB.row_kept {S1:Nat→Prop} {w':World} {wp:Value} {x:Option (Nat×Nat)} (h:IB B ea w wp x) (hk:Af S1 w w') (hS:∀b cs,AM w b 110 cs→¬S1 b):IB B ea w' wp x:=by
 cases x with
 |none=>exact h
 |some y=>
  obtain⟨gf,h1,h2,h3⟩:=h
  exact⟨gf,h1,h2,h3.kept hk (hS _ _ h3)⟩
theorem DG.later (h:DG B ea w g gp bm vd wp s st) {w':World} {st':PS} {U9:Value} (hk:Kg g w w') (hr:AM w' g 172 (Dq s st' gp U9)) (hd:st'.decls=st.decls) (hf:st'.freq=st.freq) (IJ:st'.rules=st.rules)
  (hw:IB B ea w' U9 st'.wrong) (hi:st'.i≤s.length):DG B ea w' g gp bm vd U9 s st':=h.turn (h.kg hk) hr hd hf IJ hw hi
theorem LH:∀(b:AC),b.length≤b.size
 | .nil=>Ab _
 | .prim _ r=>by have:=LH r;simp only[AC.length,AC.size];omega
 | .ite _ _ _ _ r=>by have:=LH r;simp only[AC.length,AC.size];omega
 | .rep _ _ _ r=>by have:=LH r;simp only[AC.length,AC.size];omega
structure oD (B:Nat) (ea:Nat→Addr) (g gp bm:Nat) (s:Ae) (w0:World) (E5:PS) (n k:Nat) (v:Value) (wr:World) (st':PS) (done:AC) (m:Nat) (cs:List Value) (gl cap:Nat) (wp:Value):Prop where
 ghost:left s st'≤k
 fuel:2*left s st'+2≤m
 mn:m≤n
 eq:DH s n E5=(DH s m st').map (fun r=>done.app r)
 ok:st'.Ok s
 fwd:Gm s E5 st'
 len:done.length+left s st'≤701
 kg:Kg g w0 wr
 row:AM wr g 172 (Dq s st' gp wp)
 wrong:IB B ea wr wp st'.wrong
 shape:v= .slice (some ⟨gl,0,none⟩) done.length cap
 sl:Sl (fun b=>w0.heap.size≤b) wr 258 13 v done.length cs
 stm:A5 (fun b=>w0.heap.size≤b∧b≠gl) wr done cs
def inner (s:Ae) (st:PS):PS:={next s st with depth:=st.depth+1}
theorem p6 (s:Ae) (st:PS):left s st≤s.length+1:=by unfold left;omega
theorem cP (n:Nat) (CP:∀m,m<n+1→nN B ea g gp bm s m):U8 B ea g gp bm s (n+1):=by
 intro st w vd wp h ok hd hl hn
 obtain⟨_,_,c2,_,_,_,_,c7,_⟩:=AV h.row
 have hB:=h.env.size
 have hg:=h.g0
 have Ki:w.cell? ⟨7,0,none⟩=some (.iface 315 (.pointer (some (ea 3)))):=h.env.err 3 (by omega) (by omega)
 have SY:7<w.heap.size:=AD (h.env.lt 3 (by omega) (by omega)) h.env.size
 have HR:=Aa h
 have Vh:=Aa CP
 have IL:=Aa ok
 by_cases hk:st.t.kind=Bo
 ·have hw:want s Bo st= .ok st.t (next s st):=by unfold want;rw[Ak hk]
  by_cases h8:st.depth=8
  ·have e2:block s (n+1) st= .bad QP st.t.pos:=by unfold block;rw[Ak ⟨hk,h8⟩];rfl
   rw[e2]
   have hf:=QK h 3
   have HF:=Aa hf
   rw[hk]at c2
   rw[h8]at c7
   clear e2 hf h CP ok hw hk h8
   unfold vs Dn at*
   go_enter Tryz.func123,Tryz.ntmps123
   go_wp2_with fail
   refine HF.out.mono ?_
   rintro e w1 ⟨gf,rfl,hF⟩
   go_wp2
   exact⟨rfl,gf,rfl,hF⟩
  ·have e2:block s (n+1) st=(DH s n (inner s st)).bind fun b st=>.ok b (next s {st with depth:=st.depth-1}):=by
    unfold block;rw[Ad (by rintro⟨_,x⟩;exact h8 x),hw];rfl
   rw[e2]
   have G5:=CD h Bo
   rw[hw]at G5
   have HW:=Aa G5
   have e8:((st.depth:Int)==8)=false:=by simp;omega
   rw[hk]at c2
   have HK:=Aa hk
   have HN:=Aa hn
   have jO:st.depth<8:=by omega
   clear e2 G5 hw h CP ok h8 hk hn Ki SY
   unfold vs at*
   go_enter Tryz.func123,Tryz.ntmps123
   go_wp2_with fail
   refine HW.out.mono ?_
   rintro e w1 ⟨v,rfl,rfl,Bi,OM,Vk,h1⟩
   obtain⟨_,_,_,_,_,_,_,c7',_⟩:=AV h1.row
   have Aox:w1.cell? ⟨g,7,none⟩=some (.int .i64 st.depth):=c7'
   have f7:=h1.row.frozen 7
   have hg1:=h1.row.lt
   have h2:=h1.setDepth (st.depth+1) (i:=(st.depth:Int)+1) rfl
   have k2:Kg g w (w1.setCell ⟨g,7,none⟩ (.int .i64 ((st.depth:Int)+1))):=Kg.trans Bi (Kg.cell g w1 7 _)
   have yR:w.heap.size≤w1.heap.size:=Bi.size
   have b8:(st.depth:Int)<8:=by omega
   have b0:(0:Int)≤(st.depth:Int):=by omega
   have Ve:(next s st).depth=st.depth:=rfl
   have Mg:(inner s st).Ok s:=by have:=BF IL.out;exact⟨this.i,this.pos,this.more,this.num,this.name⟩
   have J6:left s (inner s st)<left s st:=DY IL.out HK.out (by decide) (by decide)
   have mo:=h2.s
   have xG:=p6 s (inner s st)
   have NX:oD B ea g gp bm s w (inner s st) n (left s st) (.slice (some ⟨w1.heap.size,0,none⟩) 0 0) ((w1.setCell ⟨g,7,none⟩ (.int .i64 ((st.depth:Int)+1))).alloc (.cells #[] 258)) (inner s st) .nil n [] w1.heap.size 0 Vk:=by
    have Wv:=h2.alloc (.cells #[] 258)
    have hN:=HN.out
    refine⟨by omega,by omega,Ab _,?_,Mg,Gm.refl Mg,by simp only[AC.length];omega,k2.alloc (.inr k2.size) _,Wv.row,Wv.wrong,rfl,?_,rfl⟩
    ·cases DH s n (inner s st)<;>rfl
    ·have hr:=AM.new (w1.setCell ⟨g,7,none⟩ (.int .i64 ((st.depth:Int)+1))) 258 []
     have e:(w1.setCell ⟨g,7,none⟩ (.int .i64 ((st.depth:Int)+1))).heap.size=w1.heap.size:=by simp
     rw[e]at hr
     exact Sl.of_row hr yR rfl (by unfold maxLen;omega)
   have HSt:=Aa NX
   have Ll:=Aa k2
   clear h1 Bi h2 k2 c7' NX Mg J6 Ve yR mo xG
   unfold GB vs at*
   obtain⟨i0,Lt,KX,Ls,Lr⟩:=Cj lX
   go_wp2_with fail
   go_loopg [3] (left s st) (fun kk v3 wr=>∃st' done m cs gl cap wpr,oD B ea g gp bm s w (inner s st) n kk v3 wr st' done m cs gl cap wpr)
   case atStart=>exact⟨_,_,_,_,_,_,_,HSt.out⟩
   case round=>
    obtain⟨st',done,m,cs,gl,cap,wpr,hL⟩:=hrel
    have hv:=hL.shape
    subst hv
    obtain⟨_,_,c2,_,_,_,_,c7,_⟩:=AV hL.row
    have f7':=hL.row.frozen 7
    have Adz:=hL.row.lt
    have dp:st'.depth=st.depth+1:=hL.fwd.depth
    obtain⟨m,rfl⟩:∃x,m=x+2:=⟨m-2,by have:=hL.fuel;omega⟩
    have oI:DG B ea wr g gp bm vd wpr s st':=HR.out.later hL.kg hL.row hL.fwd.decls hL.fwd.freq hL.fwd.rules hL.wrong hL.ok.i
    have hlen:=hL.len
    have yc:=Aa oI
    have Rh:=Aa hL
    clear oI hL
    by_cases hc:st'.t.kind=AU
    ·rw[hc]at c2
     rw[dp]at c7
     have h3:=yc.out.setDepth st.depth (i:=(st.depth:Int)) rfl
     have k3:Kg g w (wr.setCell ⟨g,7,none⟩ (.int .i64 (st.depth:Int))):=Kg.trans Rh.out.kg (Kg.cell g wr 7 _)
     have FF:=Dy h3
     have Pi:Dv (fun b=>w.heap.size≤b) wr (.slice (some ⟨gl,0,none⟩) done.length cap) done:=⟨cs,⟨Rh.out.sl,_,_,rfl⟩,A5.mono (fun _ _ x=>x.1) _ _ Rh.out.stm⟩
     have ec:(((st.depth+1:Nat):Int)-1)=(st.depth:Int):=by omega
     have H3:=Aa h3
     have K3:=Aa k3
     have oX:=Aa FF
     have HBV:=Aa Pi
     have HC:=Aa hc
     have EC:=Aa ec
     clear h3 k3 FF Pi hc ec
     unfold vs at*
     go_wp2_with fail
     refine oX.out.mono ?_
     rintro e w3 ⟨rfl,CU,h4⟩
     have F:=Aa (And.intro CU h4)
     clear CU h4
     go_wp2
     go_ret
     have A6:Dv (fun b=>w.heap.size≤b) w3 (.slice (some ⟨gl,0,none⟩) done.length cap) done:=by
      refine HBV.out.kept (fun k cs hk hr=>?_)
      have h1:k<wr.heap.size:=hr.lt
      have h2:k≠g:=hr.ne_ Rh.out.row (by decide)
      have e1:=Hw F.out.1 (b:=k) (by simpa using h1) h2
      have e2:=Hw (Kg.cell g wr 7 (.int .i64 (st.depth:Int))) h1 h2
      exact e1.trans e2
     have Air:=Rh.out.fuel
     have Ii:((DH s n (inner s st)).bind fun b st=>AJ.ok b (next s {st with depth:=st.depth-1}))= .ok done (next s {st' with depth:=st.depth}):=by
      rw[Rh.out.eq,DH,Ak HC.out]
      show AJ.ok (done.app .nil) (next s {st' with depth:=st'.depth-1})=_
      rw[M8,dp]
      rfl
     rw[Ii]
     exact⟨_,rfl,A6,Kg.trans K3.out F.out.1,_,_,F.out.2⟩
    ·have HC:=Aa hc
     have iy:=Vh.out (m+1) (by have:=Rh.out.mn;omega) st' wr _ _ yc.out Rh.out.ok (by rw[dp];omega) (by rw[Rh.out.fwd.loops];exact hl) (by have:=Rh.out.fuel;omega)
     have e1:(st'.t.kind==AU)=false:=by simpa using hc
     have rL:=Aa iy
     clear iy hc
     go_wp2_with fail
     refine rL.out.mono ?_
     rintro e w2 ho
     cases hx:stmt s (m+1) st' with
     |bad k pos=>
      rw[hx]at ho
      obtain⟨gf,rfl,hF⟩:=A9 hB hg Rh.out.kg ho
      have HX:=Aa hx
      clear hx
      go_wp2
      have Ii:((DH s n (inner s st)).bind fun b st=>AJ.ok b (next s {st with depth:=st.depth-1}))= .bad k pos:=by
       rw[Rh.out.eq,DH,Ad HC.out,HX.out]
       rfl
      rw[Ii]
      exact⟨rfl,gf,rfl,hF⟩
     |ok x AP=>
      rw[hx]at ho
      obtain⟨v,rfl,⟨cs2,rfl,J6,⟨k_,n_,m_,t_,XB,Xg,XA,Xf,Xz,Xe,o_,RW,Rz,RS,RU,Ry,RR,aE⟩,Xi⟩,A4,oG,jA,h2⟩:=ho
      have Vx:=WT Rh.out.ok (by rw[dp];omega) (by rw[Rh.out.fwd.loops];exact hl) hx
      have Fw:=Vx.size
      have aB:=LH x
      have OQ:left s AP<left s st':=by omega
      have Ad0:gl<wr.heap.size:=Rh.out.sl.lt rfl
      have vQ:gl≠g:=fun e=>Rh.out.sl.ne_row Rh.out.row (by decide) (by rw[e];rfl)
      have sh:=Rh.out.sl.kept A4 (fun b hb=>by
       injection hb with hb
       simp only at hb
       subst hb
       rintro(hb|hb)
       ·exact vQ hb
       ·omega)
      have NY:=A4.size
      have vz:=Rh.out.kg.size
      subst aE
      obtain⟨L13,we⟩:∃L:List Value,[vs k_,.int .i64 n_,.int .i64 m_,.bool t_,vs XB,.int .i64 Xg,vs XA,.int .i64 Xf,vs Xz,.int .i64 Xe,.bool o_,.slice RW Rz RS,.slice RU Ry RR]=L:=⟨_,rfl⟩
      rw[we]at Xi
      have px:=sh.alloc (.cells #[vs k_,.int .i64 n_,.int .i64 m_,.bool t_,vs XB,.int .i64 Xg,vs XA,.int .i64 Xf,vs Xz,.int .i64 Xe,.bool o_,.slice RW Rz RS,.slice RU Ry RR] 258)
      have q1:w.heap.size≤(w2.alloc (.cells #[vs k_,.int .i64 n_,.int .i64 m_,.bool t_,vs XB,.int .i64 Xg,vs XA,.int .i64 Xf,vs Xz,.int .i64 Xe,.bool o_,.slice RW Rz RS,.slice RU Ry RR] 258)).heap.size:=by simp;omega
      have q2:=FN w2 [vs k_,.int .i64 n_,.int .i64 m_,.bool t_,vs XB,.int .i64 Xg,vs XA,.int .i64 Xf,vs Xz,.int .i64 Xe,.bool o_,.slice RW Rz RS,.slice RU Ry RR] 258
      have q3:∀u∈ [vs k_,.int .i64 n_,.int .i64 m_,.bool t_,vs XB,.int .i64 Xg,vs XA,.int .i64 Xf,vs Xz,.int .i64 Xe,.bool o_,.slice RW Rz RS,.slice RU Ry RR],u.oneCell'=true:=by
       intro u hu
       simp at hu
       rcases hu with rfl|rfl|rfl|rfl|rfl|rfl|rfl|rfl|rfl|rfl|rfl|rfl|rfl<;>rfl
      have q4:done.length+1≤maxLen:=by unfold maxLen;omega
      have q5:(done.length+1)*168≤140737488355328:=by omega
      have A6:∀(g2 Er:Nat) (w3:World),Sl (fun b=>w.heap.size≤b) w3 258 13 (.slice (some ⟨g2,0,none⟩) (done.length+1) Er) (done.length+1) (cs++L13)→
        Af (fun b=>(Value.slice (some ⟨gl,0,none⟩) done.length cap).ownBlock=some b∨(w2.alloc (.cells #[vs k_,.int .i64 n_,.int .i64 m_,.bool t_,vs XB,.int .i64 Xg,vs XA,.int .i64 Xf,vs Xz,.int .i64 Xe,.bool o_,.slice RW Rz RS,.slice RU Ry RR] 258)).heap.size≤b)
         (w2.alloc (.cells #[vs k_,.int .i64 n_,.int .i64 m_,.bool t_,vs XB,.int .i64 Xg,vs XA,.int .i64 Xf,vs Xz,.int .i64 Xe,.bool o_,.slice RW Rz RS,.slice RU Ry RR] 258)) w3→
        ((Value.slice (some ⟨gl,0,none⟩) done.length cap).ownBlock=some g2∨g2=(w2.alloc (.cells #[vs k_,.int .i64 n_,.int .i64 m_,.bool t_,vs XB,.int .i64 Xg,vs XA,.int .i64 Xf,vs Xz,.int .i64 Xe,.bool o_,.slice RW Rz RS,.slice RU Ry RR] 258)).heap.size)→
        oD B ea g gp bm s w (inner s st) n (left s AP) (.slice (some ⟨g2,0,none⟩) (done.length+1) Er) w3 AP (done.app x) (m+1) (cs++L13) g2 Er jA:=by
       have hsW:(w2.alloc (.cells #[vs k_,.int .i64 n_,.int .i64 m_,.bool t_,vs XB,.int .i64 Xg,vs XA,.int .i64 Xf,vs Xz,.int .i64 Xe,.bool o_,.slice RW Rz RS,.slice RU Ry RR] 258)).heap.size=w2.heap.size+1:=by simp
       have Wv:=h2.alloc (.cells #[vs k_,.int .i64 n_,.int .i64 m_,.bool t_,vs XB,.int .i64 Xg,vs XA,.int .i64 Xf,vs Xz,.int .i64 Xe,.bool o_,.slice RW Rz RS,.slice RU Ry RR] 258)
       have Zv:Af (fun b=>w2.heap.size≤b) w2 (w2.alloc (.cells #[vs k_,.int .i64 n_,.int .i64 m_,.bool t_,vs XB,.int .i64 Xg,vs XA,.int .i64 Xf,vs Xz,.int .i64 Xe,.bool o_,.slice RW Rz RS,.slice RU Ry RR] 258)):=(Af.refl _ _).alloc (Ab _) _
       generalize (w2.alloc (.cells #[vs k_,.int .i64 n_,.int .i64 m_,.bool t_,vs XB,.int .i64 Xg,vs XA,.int .i64 Xf,vs Xz,.int .i64 Xe,.bool o_,.slice RW Rz RS,.slice RU Ry RR] 258))=W at*
       intro g2 Er w3 Fo BY EE
       have el:(done.app x).length=done.length+1:=by rw[AC.length_app,J6]
       have hfu:=Rh.out.fuel
       have hle:=Rh.out.len
       have iE:=Rh.out.mn
       have far:∀b,b≠gl→b<W.heap.size→¬((Value.slice (some ⟨gl,0,none⟩) done.length cap).ownBlock=some b∨W.heap.size≤b):=by
        intro b h1 h2
        rintro(h3|h3)
        ·injection h3 with h3;exact h1 h3.symm
        ·omega
       have k3:Kg g w w3:=by
        have k1:Kg g w W:=Kg.trans (Kg.trans Rh.out.kg A4) (Zv.mono (fun b hb=>.inr hb))
        refine Af.trans k1 (BY.mono (fun b hb=>.inr ?_))
        rcases hb with hb|hb
        ·exact Rh.out.sl.2 b hb
        ·omega
       have sq:∀(k:Nat) cs,(w.heap.size≤k∧k≠gl∧k<W.heap.size)→AM W k 258 cs→w3.heap[k]?=W.heap[k]?:=fun k cs hk hr=>BY.block k (far k hk.2.1 hk.2.2)
       have yv:∀k,k<w3.heap.size→(w.heap.size≤k∧k≠gl∧k<W.heap.size)→(w.heap.size≤k∧k≠g2):=fun k _ hk=>⟨hk.1,by
        rcases EE with h1|h1
        ·injection h1 with h1;simp only at h1;subst h1;exact hk.2.1
        ·rw[h1];omega⟩
       refine⟨Ab _,by omega,by omega,?_,Vx.fwd.ok,Rh.out.fwd.trans Vx.fwd,by rw[el];omega,k3,Wv.row.kept BY (far g (fun e=>vQ e.symm) Wv.row.lt),Wv.wrong.row_kept BY (fun b cs hr=>far b (fun e=>by
        have s4:=px
        exact s4.ne_row (e▸hr) (by decide) rfl) hr.lt),by rw[el],by rw[el];exact Fo,?_⟩
       ·rw[Rh.out.eq,DH,Ad HC.out,hx]
        show((DH s (m+1) AP).map (fun r=>x.app r)).map (fun r=>done.app r)=_
        cases DH s (m+1) AP with
        |ok r Cb=>show AJ.ok (done.app (x.app r)) Cb=AJ.ok ((done.app x).app r) Cb;rw[Hq]
        |bad e p=>rfl
       ·have p1:=A5.mono (N':=fun k=>w.heap.size≤k∧k≠gl∧k<W.heap.size) (fun k hk hN=>⟨hN.1,hN.2,by omega⟩) _ _ Rh.out.stm
        have p2:=A5.kept (w':=W) (fun k cs hk hr=>by
         have h1:k<wr.heap.size:=hr.lt
         have h2:k≠g:=hr.ne_ Rh.out.row (by decide)
         exact(Zv.block k (by omega)).trans (Hw A4 h1 h2)) _ _ p1
        have p3:=A5.mono yv _ _ (A5.kept sq _ _ p2)
        have r1:=A5.mono (N':=fun k=>w.heap.size≤k∧k≠gl∧k<W.heap.size) (fun k hk hN=>⟨by omega,by omega,by omega⟩) _ _ Xi
        have r2:=A5.kept (w':=W) (fun k cs hk hr=>Zv.block k (by have:=hr.lt;omega)) _ _ r1
        have r3:=A5.mono yv _ _ (A5.kept sq _ _ r2)
        exact A5.app _ _ _ _ p3 r3
      have HF:=Aa A6
      have wD:=Aa px
      have Q1:=Aa q1
      have Q2:=Aa q2
      have Q3:=Aa q3
      have Agg:=Aa we
      have vR:=Rh.out.ghost
      clear A6 px q1 q2 q3 sh Xi h2 Vx aB Fw NY vz hx Ad0 vQ we
      unfold vs at*
      go_wp2_with (at_builtin;go_must (refine Fq Tryz.underlying174 Lt KX Ls Lr rfl (by decide) wD.out Q1.out rfl _ _ rfl rfl ⟨w2.heap.size,0,none⟩ 1 1 [.string ⟨k_.toArray⟩,.int .i64 n_,.int .i64 m_,.bool t_,.string ⟨XB.toArray⟩,.int .i64 Xg,.string ⟨XA.toArray⟩,.int .i64 Xf,.string ⟨Xz.toArray⟩,.int .i64 Xe,.bool o_,.slice RW Rz RS,.slice RU Ry RR] rfl rfl Q2.out Q3.out q4 q5 (E0 _) ?_;intro g2 Er w3 Fo BY EE;have rH:=Aa Fo;have fd:=Aa BY;have js:=Aa EE;clear Fo BY EE))
      go_roundg (left s AP)
      case measure=>omega
      case rel=>exact⟨_,_,_,_,_,_,_,HF.out g2 Er w3 (by rw[←Agg.out];exact rH.out) fd.out js.out⟩
 ·have hw:want s Bo st= .bad D1 st.t.pos:=by unfold want fail;rw[Ad hk]
  have e2:block s (n+1) st= .bad D1 st.t.pos:=by unfold block;rw[Ad (by rintro⟨x,_⟩;exact hk x),hw];rfl
  rw[e2]
  have G5:=CD h Bo
  rw[hw]at G5
  have HW:=Aa G5
  have e1:(st.t.kind==Bo)=false:=by simpa using hk
  clear G5 e2 hw hk h Ki SY CP ok
  unfold vs at*
  go_enter Tryz.func123,Tryz.ntmps123
  go_wp2_with fail
  refine HW.out.mono ?_
  rintro e w1 ⟨gf,rfl,hF⟩
  go_wp2
  exact⟨rfl,gf,rfl,hF⟩
end
abbrev pg:List Value:=[vs [],.int .i64 0,.int .i64 0,.bool false,vs [],.int .i64 0,vs [],.int .i64 0,vs [],.int .i64 0,.bool false,.slice none 0 0,.slice none 0 0]
structure Fa (B:Nat) (ea:Nat→Addr) (g gp bm:Nat) (vd:Value) (s:Ae) (E5:PS) (w0:World) (OL:Value) (st:PS) (w:World) (wp:Value) (R C:Nat) (cs ds:List Value):Prop where
 base:DG B ea w0 g gp bm vd OL s E5
 decls:st.decls=E5.decls
 freq:st.freq=E5.freq
 rules:st.rules=E5.rules
 i:st.i≤s.length
 kg:Kg g w0 w
 row:AM w g 172 (Dq s st gp wp)
 wrong:IB B ea w wp st.wrong
 rowR:AM w R 258 cs
 rowC:AM w C 258 ds
 newR:w0.heap.size≤R
 newC:w0.heap.size≤C
 ne:R≠C
section
variable {B:Nat} {ea:Nat→Addr} {w w0:World} {g gp bm R C:Nat} {vd wp OL:Value} {s:Ae} {st E5:PS} {cs ds:List Value}
theorem Fa.rd (h:Fa B ea g gp bm vd s E5 w0 OL st w wp R C cs ds):DG B ea w g gp bm vd wp s st:=h.base.later h.kg h.row h.decls h.freq h.rules h.wrong h.i
theorem Fa.start (h:DG B ea w g gp bm vd wp s st) (ds:List Value):
  Fa B ea g gp bm vd s st w wp st ((w.alloc (.cells #[vs [],.int .i64 0,.int .i64 0,.bool false,vs [],.int .i64 0,vs [],.int .i64 0,vs [],.int .i64 0,.bool false,.slice none 0 0,.slice none 0 0] 258)).alloc (.cells ds.toArray 258)) wp w.heap.size (w.heap.size+1) [vs [],.int .i64 0,.int .i64 0,.bool false,vs [],.int .i64 0,vs [],.int .i64 0,vs [],.int .i64 0,.bool false,.slice none 0 0,.slice none 0 0] ds:=by
 have hA:=(h.alloc (.cells #[vs [],.int .i64 0,.int .i64 0,.bool false,vs [],.int .i64 0,vs [],.int .i64 0,vs [],.int .i64 0,.bool false,.slice none 0 0,.slice none 0 0] 258)).alloc (.cells ds.toArray 258)
 have e:(w.alloc (.cells #[vs [],.int .i64 0,.int .i64 0,.bool false,vs [],.int .i64 0,vs [],.int .i64 0,vs [],.int .i64 0,.bool false,.slice none 0 0,.slice none 0 0] 258)).heap.size=w.heap.size+1:=by simp
 have hr:=AM.new (w.alloc (.cells #[vs [],.int .i64 0,.int .i64 0,.bool false,vs [],.int .i64 0,vs [],.int .i64 0,vs [],.int .i64 0,.bool false,.slice none 0 0,.slice none 0 0] 258)) 258 ds
 rw[e]at hr
 exact⟨h,rfl,rfl,rfl,h.i,((Af.refl _ w).alloc (.inr (Ab _)) _).alloc (.inr (by simp)) _,hA.row,hA.wrong,(AM.new w 258 [vs [],.int .i64 0,.int .i64 0,.bool false,vs [],.int .i64 0,vs [],.int .i64 0,vs [],.int .i64 0,.bool false,.slice none 0 0,.slice none 0 0]).alloc _,hr,Ab _,by omega,by omega⟩
theorem Fa.call (h:Fa B ea g gp bm vd s E5 w0 OL st w wp R C cs ds) {w':World} {st':PS} {Nu U9:Value} (hk:Kg g w w') (hr:DG B ea w' g gp bm Nu U9 s st') (hd:st'.decls=st.decls) (hf:st'.freq=st.freq) (IJ:st'.rules=st.rules):
  Fa B ea g gp bm vd s E5 w0 OL st' w' U9 R C cs ds:=
 ⟨h.base,hd.trans h.decls,hf.trans h.freq,IJ.trans h.rules,hr.i,Kg.trans h.kg hk,hr.row,hr.wrong,(Hw hk h.rowR.lt (h.rowR.ne_ h.row (by decide))).trans h.rowR,(Hw hk h.rowC.lt (h.rowC.ne_ h.row (by decide))).trans h.rowC,h.newR,h.newC,h.ne⟩
theorem Fa.setR (h:Fa B ea g gp bm vd s E5 w0 OL st w wp R C cs ds) (i:Nat) (u:Value):Fa B ea g gp bm vd s E5 w0 OL st (w.setCell ⟨R,i,none⟩ u) wp R C (cs.set i u) ds:=
 ⟨h.base,h.decls,h.freq,h.rules,h.i,h.kg.setCell (p:=⟨R,i,none⟩) (.inr h.newR) u,h.row.far (h.row.ne_ h.rowR (by decide)) u,h.wrong.row_kept (Af.one w ⟨R,i,none⟩ u) (fun b cs hr e=>hr.ne_ h.rowR (by decide) e),h.rowR.set_ i u,h.rowC.far (fun e=>h.ne e.symm) u,h.newR,h.newC,h.ne⟩
theorem Fa.setC (h:Fa B ea g gp bm vd s E5 w0 OL st w wp R C cs ds) (i:Nat) (u:Value):Fa B ea g gp bm vd s E5 w0 OL st (w.setCell ⟨C,i,none⟩ u) wp R C cs (ds.set i u):=
 ⟨h.base,h.decls,h.freq,h.rules,h.i,h.kg.setCell (p:=⟨C,i,none⟩) (.inr h.newC) u,h.row.far (h.row.ne_ h.rowC (by decide)) u,h.wrong.row_kept (Af.one w ⟨C,i,none⟩ u) (fun b cs hr e=>hr.ne_ h.rowC (by decide) e),h.rowR.far h.ne u,h.rowC.set_ i u,h.newR,h.newC,h.ne⟩
abbrev copied (w:World) (R:Nat) (d0 d1 d2 d3 d4 d5 d6 d7 d8 d9 OW OV OU:Value):World:=
 ((((((((((((w.setCell ⟨R,0,none⟩ d0).setCell ⟨R,1,none⟩ d1).setCell ⟨R,2,none⟩ d2).setCell ⟨R,3,none⟩ d3).setCell ⟨R,4,none⟩ d4).setCell ⟨R,5,none⟩ d5).setCell ⟨R,6,none⟩ d6).setCell ⟨R,7,none⟩ d7).setCell ⟨R,8,none⟩ d8).setCell ⟨R,9,none⟩ d9).setCell ⟨R,10,none⟩ OW).setCell ⟨R,11,none⟩ OV).setCell ⟨R,12,none⟩ OU
theorem Fa.copy (h:Fa B ea g gp bm vd s E5 w0 OL st w wp R C pg ds) (d0 d1 d2 d3 d4 d5 d6 d7 d8 d9 OW OV OU:Value):
  Fa B ea g gp bm vd s E5 w0 OL st (copied w R d0 d1 d2 d3 d4 d5 d6 d7 d8 d9 OW OV OU) wp R C [d0,d1,d2,d3,d4,d5,d6,d7,d8,d9,OW,OV,OU] ds:=
 ((((((((((((h.setR 0 d0).setR 1 d1).setR 2 d2).setR 3 d3).setR 4 d4).setR 5 d5).setR 6 d6).setR 7 d7).setR 8 d8).setR 9 d9).setR 10 OW).setR 11 OV).setR 12 OU
theorem Br {t:TypeId} {d0 d1 d2 d3 d4 d5 d6 d7 d8 d9 OW OV OU:Value} (h:AM w C t [d0,d1,d2,d3,d4,d5,d6,d7,d8,d9,OW,OV,OU]):
  w.cell? ⟨C,0,none⟩=some d0∧w.cell? ⟨C,1,none⟩=some d1∧w.cell? ⟨C,2,none⟩=some d2∧w.cell? ⟨C,3,none⟩=some d3∧w.cell? ⟨C,4,none⟩=some d4∧w.cell? ⟨C,5,none⟩=some d5∧w.cell? ⟨C,6,none⟩=some d6∧
  w.cell? ⟨C,7,none⟩=some d7∧w.cell? ⟨C,8,none⟩=some d8∧w.cell? ⟨C,9,none⟩=some d9∧w.cell? ⟨C,10,none⟩=some OW∧w.cell? ⟨C,11,none⟩=some OV∧w.cell? ⟨C,12,none⟩=some OU:=
 ⟨h.cell 0,h.cell 1,h.cell 2,h.cell 3,h.cell 4,h.cell 5,h.cell 6,h.cell 7,h.cell 8,h.cell 9,h.cell 10,h.cell 11,h.cell 12⟩
theorem GS (w:World):(Go.sizeOf 258).run Tryz.prog w= .ok 13 w:=by kernel_rfl
theorem Je (w:World):(isAgg 258).run Tryz.prog w= .ok true w:=by kernel_rfl
theorem GX (w0 w':World) (p:D9):Jq w0 w' (.prim p .nil) (.agg (Kl p).toArray):=
 ⟨Kl p,rfl,rfl,⟨_,_,_,_,_,_,_,_,_,_,_,_,_,_,_,_,_,rfl⟩,⟨[],by simp,rfl⟩⟩
end
def PI:AC→Prop
 | .nil=>True
 | .prim _ r=>PI r
 | .ite _ t o e r=>PI t∧PI e∧PI r∧(o=false→e= .nil)
 | .rep _ _ b r=>PI b∧PI r
theorem OJ:∀(a b:AC),(a.app b).loops=a.loops+b.loops
 | .nil,b=>by simp[AC.app,AC.loops]
 | .prim p r,b=>by simp[AC.app,AC.loops,OJ r b]
 | .ite c t o e r,b=>by simp[AC.app,AC.loops,OJ r b];omega
 | .rep n c x r,b=>by simp[AC.app,AC.loops,OJ r b];omega
theorem Oe:∀(a b:AC) (c o:Nat),PI a→BR c o (a.app b)=BR c o a++BR (c+a.loops) (o+(BR c o a).length) b
 | .nil,b,c,o,_=>by simp[AC.app,BR,AC.loops]
 | .prim p r,b,c,o,h=>by
  have ih:=Oe r b c (o+1) h
  simp only[AC.app,BR,AC.loops,A8,Ac,ih]
  rw[show o+((BR c (o+1) r).length+1)=o+1+(BR c (o+1) r).length by omega]
 | .ite k t o' e r,b,c,o,h=>by
  cases o' with
  |true=>
   have ih:=fun x y=>Oe r b x y h.2.2.1
   simp only[AC.app,BR,AC.loops,A0]
   rw[ih]
   simp only[Al,A8,Ao,Ac]
   simp only[E3,FC,Nat.add_left_comm]
  |false=>
   have he:=h.2.2.2 rfl
   subst he
   have ih:=fun x y=>Oe r b x y h.2.2.1
   simp only[AC.app,BR,AC.loops,An,A1,Ta]
   rw[ih]
   simp only[Al,A8,Ao,Ac]
   simp only[E3,FC,Nat.add_left_comm]
 | .rep n k x r,b,c,o,h=>by
  have ih:=fun y z=>Oe r b y z h.2
  simp only[AC.app,BR,AC.loops]
  rw[ih]
  simp only[Al,A8,Ao,Ac]
  congr 8
  ·omega
  ·omega
theorem Kp (c:Da):(Aq c).length≤4:=by
 unfold Aq
 have:(Ja c.k).length≤3:=by cases c.k<;>simp[Ja]
 split<;>simp<;>omega
theorem Hb:∀(b:AC) (c o:Nat),(BR c o b).length≤8*b.size
 | .nil,c,o=>by simp[BR]
 | .prim p r,c,o=>by
  have:=Hb r c (o+1)
  simp only[BR,AC.size,Ac];omega
 | .ite k t o' e r,c,o=>by
  have h0:=Kp k
  have h1:=fun x y=>Hb t x y
  have h2:=fun x y=>Hb e x y
  have h3:=fun x y=>Hb r x y
  simp only[BR,AC.size]
  split
  ·simp only[Ao,Ac]
   have a:=h1 c (o+(Aq k).length+1)
   have b:=h2 (c+t.loops) (o+(Aq k).length+1+(BR c (o+(Aq k).length+1) t).length+1)
   have d:=h3 (c+t.loops+e.loops) (o+(Aq k).length+1+(BR c (o+(Aq k).length+1) t).length+1+(BR (c+t.loops) (o+(Aq k).length+1+(BR c (o+(Aq k).length+1) t).length+1) e).length)
   omega
  ·simp only[Ao,Ac]
   have a:=h1 c (o+(Aq k).length+1)
   have d:=h3 (c+t.loops) (o+(Aq k).length+1+(BR c (o+(Aq k).length+1) t).length)
   omega
 | .rep n k x r,c,o=>by
  have h0:=Kp k
  have h1:=fun y z=>Hb x y z
  have h3:=fun y z=>Hb r y z
  simp only[BR,AC.size,Ao,Ac]
  have a:=h1 (c+1) (o+2+(Aq k).length+1)
  have d:=h3 (c+1+x.loops) (o+2+(Aq k).length+1+(BR (c+1) (o+2+(Aq k).length+1) x).length+1)
  omega
section
variable {S:Nat→Prop} {w w':World} {gm gg gp bm loops:Nat} {vl:Value} {code:List Gl}
theorem NB.turn {gl n cap:Nat} (h:NB S w gm gg gp bm (.slice (some ⟨gl,0,none⟩) n cap) loops code) (hn:n=code.length) {k j:Nat} {i0 i:Gl} {u:Value} (hk:code[k]?=some i0) (hj:j<3) (he:Cr i=(Cr i0).set j u):
  Af S w (w.setCell ⟨gl,k*3+j,none⟩ u)∧NB S (w.setCell ⟨gl,k*3+j,none⟩ u) gm gg gp bm (.slice (some ⟨gl,0,none⟩) n cap) loops (code.set k i):=by
 subst hn
 have Nh:Af (fun b=>b=gl) w (w.setCell ⟨gl,k*3+j,none⟩ u):=Af.one w ⟨gl,k*3+j,none⟩ u
 obtain⟨cs,hr⟩:=h.l.row rfl
 have hs:=h.l.set_ (fun _=>rfl) hk hj he
 rw[BU]at hs
 refine⟨Nh.mono (fun b hb=>hb▸h.l.2 gl rfl),h.row.kept Nh (h.row.ne_ hr (by decide)),h.prog.kept Nh (h.prog.ne_ hr (by decide)),?_,h.sm,h.sg⟩
 rw[BU]
 exact hs
theorem pL (h:NB S w gm gg gp bm vl loops code) (hS:Up S w) (hn:code.length≤900000) (p:D9):
  Calls Tryz.prog 127 #[.pointer (some ⟨gm,0,none⟩),.agg (Kl p).toArray] w fun e w'=>PK S w gm gg gp bm loops (code++[.prim p]) e w':=by
 have h0:=DI.start h hS 258 (Kl p)
 obtain⟨d0,d1,d2,d3,_⟩:=Br h0.row
 have SW:=fun(x:∀v,p≠.inc v∧p≠.dec v) w=>gZ p w x
 obtain⟨i,hi⟩:∃i,i=Gl.prim p:=⟨_,rfl⟩
 rw[←hi]
 have H0:=Aa h0
 have HI:=Aa hi
 have HP:=Aa SW
 clear h0 h hS hi SW
 cases p
 case inc v=>
  clear d0 d1 d2 d3
  simp only[Kl,ES,Mq,Ms,FK,LR,Bx,vs,A8,CH]at*
  go_enter S6,Re
  go_wp2_with fail
  refine(H0.out.put (by omega) i (by rw[HI.out];rfl) (by rw[HI.out];rfl) (by rw[HI.out];rfl)).mono ?_
  rintro e w2 ⟨rfl,h2⟩
  have F:=Aa h2
  clear h2
  go_wp2
  refine Dd (Cl rfl _ _ _) rfl ?_
  exact F.out.out
 case dec v=>
  clear d0 d1 d2 d3
  simp only[Kl,ES,Mq,Ms,FK,LR,Bx,vs,A8,CH]at*
  go_enter S6,Re
  go_wp2_with fail
  refine(H0.out.put (by omega) i (by rw[HI.out];rfl) (by rw[HI.out];rfl) (by rw[HI.out];rfl)).mono ?_
  rintro e w2 ⟨rfl,h2⟩
  have F:=Aa h2
  clear h2
  go_wp2
  refine Dd (Cl rfl _ _ _) rfl ?_
  exact F.out.out
 all_goals
  clear d0 d1 d2 d3
  simp only[Kl,ES,Mq,Ms,FK,LR,Bx,vs,A8,CH]at*
  go_enter S6,Re
  go_wp2_with fail
  refine(HP.out (fun v=>⟨by simp,by simp⟩) _).mono ?_
  rintro e w2 ⟨rfl,rfl⟩
  simp only[T9]
  try cases ‹Bool›
 all_goals
  go_wp2_with fail
  refine(H0.out.put (by omega) i (by rw[HI.out];rfl) (by rw[HI.out];rfl) (by rw[HI.out];rfl)).mono ?_
  rintro e w2 ⟨rfl,h2⟩
  have F:=Aa h2
  clear h2
  go_wp2
  refine Dd (Cl rfl _ _ _) rfl ?_
  exact F.out.out
end
theorem V0:∃a n c,Bx= .slice a n c:=⟨none,0,0,rfl⟩
theorem A5.part {N:Nat→Prop} {w:World}:∀(b:AC) (cs:List Value),b≠.nil→A5 N w b cs→∃x tl JT Nr,b=x.app tl∧x.length=1∧cs=JT++Nr∧StF JT∧A5 N w x JT∧A5 N w tl Nr∧b.length=tl.length+1∧x.size+tl.size=b.size
 | .nil,cs,h,_=>absurd rfl h
 | .prim p r,cs,_,⟨rest,h1,h2⟩=>
  ⟨.prim p .nil,r,Kl p,rest,rfl,rfl,h1,⟨_,_,_,_,_,_,_,_,_,_,_,_,_,_,_,_,_,rfl⟩,⟨[],by simp,rfl⟩,h2,by simp[AC.length],by simp[AC.size]⟩
 | .ite c t o e r,cs,_,⟨vt,ve,rest,h1,ht,he,hr⟩=>by
  obtain⟨ct,⟨_,gt,cN,bP⟩,_⟩:=id ht
  have Vt:∃a n c,ve= .slice a n c:=by
   cases o with
   |true=>
    rw[Ak rfl]at he
    obtain⟨ce,⟨_,ge,_G,Vt⟩,_⟩:=he
    exact⟨_,_,_,Vt⟩
   |false=>
    rw[Ad Bg]at he
    exact he.1▸V0
  obtain⟨a2,n2,c2,Vt⟩:=Vt
  obtain⟨b0,n1,b2,n3,hv⟩:=Fl c.k
  refine⟨.ite c t o e .nil,r,Le c vt ve,rest,rfl,rfl,h1,?_,⟨vt,ve,[],by simp,ht,he,rfl⟩,hr,by simp[AC.length],by simp[AC.size];try omega⟩
  unfold Le By
  rw[hv,bP,Vt]
  exact⟨_,_,_,_,_,_,_,_,_,_,_,_,_,_,_,_,_,rfl⟩
 | .rep n c b r,cs,_,⟨vt,rest,h1,ht,hr⟩=>by
  obtain⟨ct,⟨_,gt,cN,bP⟩,_⟩:=id ht
  obtain⟨b0,n1,b2,n3,hv⟩:=Fl c.k
  refine⟨.rep n c b .nil,r,Iz n c vt,rest,rfl,rfl,h1,?_,⟨vt,[],by simp,ht,rfl⟩,hr,by simp[AC.length],by simp[AC.size];try omega⟩
  unfold Iz By
  rw[hv,bP]
  exact⟨_,_,_,_,_,_,_,_,_,_,_,_,_,_,_,_,_,rfl⟩
theorem A5.tidy {N:Nat→Prop} {w:World}:∀(b:AC) (cs:List Value),A5 N w b cs→PI b
 | .nil,_,_=>trivial
 | .prim p r,_,⟨rest,_,h2⟩=>A5.tidy r rest h2
 | .ite c t o e r,_,⟨vt,ve,rest,_,⟨ct,_,ht⟩,he,hr⟩=>by
  refine⟨A5.tidy t ct ht,?_,A5.tidy r rest hr,?_⟩
  ·cases o with
   |true=>
    rw[Ak rfl]at he
    obtain⟨ce,_,h⟩:=he
    exact A5.tidy e ce h
   |false=>
    rw[Ad Bg]at he
    rw[he.2];trivial
  ·intro ho
   subst ho
   rw[Ad Bg]at he
   exact he.2
 | .rep n c b r,_,⟨vt,rest,_,⟨ct,_,ht⟩,hr⟩=>⟨A5.tidy b ct ht,A5.tidy r rest hr⟩
def fb (m:Nat):Prop:=∀(S:Nat→Prop) (w:World) (gm gg gp bm loops:Nat) (vl:Value) (code:List Gl) (x:AC) (cs:List Value),
 NB S w gm gg gp bm vl loops code→Up S w→x.length=1→x.size≤m→A5 (fun k=>¬S k) w x cs→code.length+8*x.size≤900000→loops+x.size≤1000000→
  Calls Tryz.prog 127 #[.pointer (some ⟨gm,0,none⟩),.agg cs.toArray] w fun e w'=>PK S w gm gg gp bm (loops+x.loops) (code++BR loops code.length x) e w'
def Sh (m:Nat):Prop:=∀(S:Nat→Prop) (w:World) (gm gg gp bm loops:Nat) (vl:Value) (code:List Gl) (b:AC) (v:Value),
 NB S w gm gg gp bm vl loops code→Up S w→b.size≤m→Dv (fun k=>¬S k) w v b→code.length+8*b.size≤900000→loops+b.size≤1000000→
  Calls Tryz.prog 81 #[.pointer (some ⟨gm,0,none⟩),v] w fun e w'=>PK S w gm gg gp bm (loops+b.loops) (code++BR loops code.length b) e w'
structure U0 (S:Nat→Prop) (w0:World) (gm gg gp bm loops:Nat) (code:List Gl) (b:AC) (cs:List Value) (k:Nat) (wr:World) (done rest:AC) (QU Nz:List Value):Prop where
 eq:b=done.app rest
 cs:cs=QU++Nz
 csl:QU.length=k*13
 k:k+rest.length=b.length
 tidy:PI done
 sz:done.size+rest.size=b.size
 stm:A5 (fun k=>¬S k) w0 rest Nz
 mr:∃vl,NB S wr gm gg gp bm vl (loops+done.loops) (code++BR loops code.length done)
 kept:Af S w0 wr
theorem IU:∀(b:AC),b.loops≤b.size
 | .nil=>Ab _
 | .prim p r=>by have:=IU r;simp only[AC.loops,AC.size];omega
 | .ite c t o e r=>by have:=IU t;have:=IU e;have:=IU r;simp only[AC.loops,AC.size];omega
 | .rep n c b r=>by have:=IU b;have:=IU r;simp only[AC.loops,AC.size];omega
theorem P4:∀(a b:AC),PI a→PI b→PI (a.app b)
 | .nil,b,_,h=>by simpa[AC.app]using h
 | .prim p r,b,h,h'=>by simpa[AC.app,PI]using P4 r b h h'
 | .ite c t o e r,b,h,h'=>by
  show PI (.ite c t o e (r.app b))
  exact⟨h.1,h.2.1,P4 r b h.2.2.1 h',h.2.2.2⟩
 | .rep n c x r,b,h,h'=>by
  show PI (.rep n c x (r.app b))
  exact⟨h.1,P4 r b h.2 h'⟩
section
variable {S:Nat→Prop} {w0 wr:World} {gm gg gp bm loops k:Nat} {code:List Gl} {b done rest:AC} {cs QU Nz:List Value}
theorem U0.next {g cap:Nat} (h:U0 S w0 gm gg gp bm loops code b cs k wr done rest QU Nz) (hs:Sl (fun k=>¬S k) w0 258 13 (.slice (some ⟨g,0,none⟩) b.length cap) b.length cs) (hk:k<b.length):
  ∃x tl JT Nr,rest=x.app tl∧x.length=1∧Nz=JT++Nr∧StF JT∧A5 (fun k=>¬S k) w0 x JT∧A5 (fun k=>¬S k) w0 tl Nr∧rest.length=tl.length+1∧x.size+tl.size=rest.size∧
   (∀j,j<13→wr.cell? ⟨g,k*13+j,none⟩=JT[j]?)∧g<wr.heap.size:=by
 have Cu:rest≠.nil:=by
  rintro rfl
  have:=h.k
  simp[AC.length]at this
  omega
 obtain⟨x,tl,JT,Nr,e1,e2,e3,e4,e5,e6,e7,e8⟩:=A5.part rest Nz Cu h.stm
 have bN:JT.length=13:=by
  obtain⟨_,_,_,_,_,_,_,_,_,_,_,_,_,_,_,_,_,rfl⟩:=e4
  rfl
 refine⟨x,tl,JT,Nr,e1,e2,e3,e4,e5,e6,e7,e8,fun j hj=>?_,AD (hs.lt rfl) h.kept.size⟩
 have hb:k*13+j<b.length*13:=by omega
 have h1:=hs.1.cellAt _ hb
 have h2:cs[k*13+j]?=JT[j]?:=by
  rw[h.cs,e3,Ck (by rw[h.csl];omega),h.csl,Dj,B7 (by omega)]
 exact((h.kept.cell (p:=⟨g,k*13+j,none⟩) (hs.2 g rfl)).trans h1).trans h2
theorem U0.step {x tl:AC} {JT Nr:List Value} {w':World} (h:U0 S w0 gm gg gp bm loops code b cs k wr done rest QU Nz) (e1:rest=x.app tl) (e3:Nz=JT++Nr) (hx:JT.length=13) (e5:A5 (fun k=>¬S k) w0 x JT) (e6:A5 (fun k=>¬S k) w0 tl Nr)
  (e7:rest.length=tl.length+1) (e8:x.size+tl.size=rest.size) (hk:Af S wr w')
  (hm:∃vl,NB S w' gm gg gp bm vl (loops+done.loops+x.loops) (code++BR loops code.length done++BR (loops+done.loops) (code++BR loops code.length done).length x)):
  U0 S w0 gm gg gp bm loops code b cs (k+1) w' (done.app x) tl (QU++JT) Nr:=by
 refine⟨by rw[h.eq,e1,Hq],by rw[h.cs,e3,Al],by rw[Ao,h.csl,hx];omega,by have:=h.k;omega,P4 _ _ h.tidy (A5.tidy _ _ e5),by rw[Jd];have:=h.sz;omega,e6,?_,h.kept.trans hk⟩
 obtain⟨vl,hm⟩:=hm
 refine⟨vl,?_⟩
 rw[OJ,Oe done x loops code.length h.tidy,←E3,←Al]
 rw[Ao]at hm
 exact hm
end
theorem ZV {m:Nat} (CP:fb m):Sh m:=by
 intro S w gm gg gp bm loops vl code b v h hS Fw hb Nw Tj
 obtain⟨cs,⟨hs,g,cap,rfl⟩,Zm⟩:=hb
 have Vd:U0 S w gm gg gp bm loops code b cs 0 w .nil b [] cs:=⟨by simp[AC.app],by simp,by simp,by omega,trivial,by simp[AC.size],Zm,⟨vl,by simpa[BR,AC.loops]using h⟩,Af.refl _ _⟩
 have OH:b.length≤900000:=by
  have:∀b:AC,b.length≤b.size:=by
   intro b
   induction b with
   |nil=>simp[AC.length]
   |prim p r ih=>simp[AC.length,AC.size];omega
   |ite c t o e r _ _ ih=>simp[AC.length,AC.size];omega
   |rep n c b r _ ih=>simp[AC.length,AC.size];omega
  have:=this b
  omega
 have Vh:=Aa CP
 have HU:=Aa hS
 have tM:=Aa hs
 have HL0:=Aa Vd
 have HCL:=Aa Nw
 have ya:=Aa Fw
 clear CP h hS hs Vd Zm Nw Fw
 go_enter Tryz.func81,Tryz.ntmps81
 go_wp2_with fail
 go_loopg [8] b.length (fun _s s8 wr=>∃k done rest QU Nz,k≤b.length∧b.length-k≤_s∧s8= .int .i64 (k:Nat)∧U0 S w gm gg gp bm loops code b cs k wr done rest QU Nz)
 case atStart=>exact⟨0,.nil,b,[],cs,Bn _,by omega,rfl,HL0.out⟩
 case round=>
  obtain⟨k,done,rest,QU,Nz,Jj,hg,rfl,hL⟩:=hrel
  by_cases Cy:k<b.length
  ·obtain⟨x,tl,JT,Nr,e1,e2,e3,e4,e5,e6,e7,e8,hc,SX⟩:=hL.next tM.out Cy
   have bN:JT.length=13:=by
    obtain⟨_,_,_,_,_,_,_,_,_,_,_,_,_,_,_,_,_,rfl⟩:=id e4
    rfl
   have HE:=Aa (And.intro e1 (And.intro e2 (And.intro e3 (And.intro bN (And.intro e5 (And.intro e6 (And.intro e7 e8)))))))
   obtain⟨k_,n_,m_,t_,XB,Xg,XA,Xf,Xz,Xe,o_,RW,Rz,RS,RU,Ry,RR,rfl⟩:=e4
   have x0:=hc 0 (by omega)
   have x1:=hc 1 (by omega)
   have x2:=hc 2 (by omega)
   have x3:=hc 3 (by omega)
   have x4:=hc 4 (by omega)
   have x5:=hc 5 (by omega)
   have x6:=hc 6 (by omega)
   have x7:=hc 7 (by omega)
   have x8:=hc 8 (by omega)
   have x9:=hc 9 (by omega)
   have ub:=hc 10 (by omega)
   have pi:=hc 11 (by omega)
   have j8:=hc 12 (by omega)
   have HL:=Aa hL
   clear hL hc e1 e2 e3 e5 e6 e7 e8 bN
   unfold vs at*
   simp only[Eb,Bm,Ta]at x0 x1 x2 x3 x4 x5 x6 x7 x8 x9 ub pi j8
   go_wp2_with fail
   obtain⟨vl2,LV⟩:=HL.out.mr
   have ka:Af S wr (wr.alloc (.cells #[.string ⟨k_.toArray⟩,.int .i64 n_,.int .i64 m_,.bool t_,.string ⟨XB.toArray⟩,.int .i64 Xg,.string ⟨XA.toArray⟩,.int .i64 Xf,.string ⟨Xz.toArray⟩,.int .i64 Xe,.bool o_,.slice RW Rz RS,.slice RU Ry RR] 258)):=(Af.refl S wr).alloc (HU.out.kept HL.out.kept _ (Ab _)) _
   have CV:=HL.out.kept.trans ka
   have Nw:=Hb done loops code.length
   refine(Vh.out S _ gm gg gp bm (loops+done.loops) vl2 (code++BR loops code.length done) x _ (LV.alloc _) ((HU.out.kept HL.out.kept).alloc _) HE.out.2.1 (by have:=HL.out.sz;have:=HE.out.2.2.2.2.2.2.2;have:=ya.out;omega)
    (A5.kept (fun k cs hk _=>CV.block k hk) _ _ HE.out.2.2.2.2.1) (by rw[Ao];have:=HL.out.sz;have:=HE.out.2.2.2.2.2.2.2;have:=HCL.out;omega) (by have:=HL.out.sz;have:=HE.out.2.2.2.2.2.2.2;have:=IU done;omega)).mono ?_
   rintro e w2 ⟨rfl,A4,Pz⟩
   have F:=Aa (HL.out.step HE.out.1 HE.out.2.2.1 HE.out.2.2.2.1 HE.out.2.2.2.2.1 HE.out.2.2.2.2.2.1 HE.out.2.2.2.2.2.2.1 HE.out.2.2.2.2.2.2.2 (ka.trans A4) Pz)
   clear LV ka CV Nw A4 Pz
   go_wp2
   go_roundg (b.length-(k+1))
   case measure=>omega
   case rel=>exact⟨k+1,_,_,_,_,by omega,by omega,by go_num,F.out⟩
  ·have Uv:rest= .nil:=by
    have:=hL.k
    cases rest with
    |nil=>rfl
    |prim p r=>simp[AC.length]at this;omega
    |ite c t o e r=>simp[AC.length]at this;omega
    |rep n c b r=>simp[AC.length]at this;omega
   have Ph:b=done:=by rw[hL.eq,Uv];exact M8 done
   have F:=Aa (And.intro hL.kept (And.intro hL.mr Ph))
   clear hL Uv Ph
   go_wp2
   refine Dd (Cl rfl _ _ _) rfl ?_
   obtain⟨a1,a2,a3⟩:=F.out
   rw[a3]
   exact⟨rfl,a1,a2⟩
def Lw:Nat→Prop:=fun _=>True
def rA (m:Nat):Prop:=∀(w:World) (gp:Nat) (vd vm:Value) (f:Int) (l:List Bf) (x:AC) (cs:List Value) (s:Ae),Yb w gp vd vm f l→x.length=1→x.size≤m→x.size≤1000→EG l x→A5 Lw w x cs→As l x=BE++s→
  Calls Tryz.prog 131 #[.pointer (some ⟨gp,0,none⟩),.agg cs.toArray] w (Do w s)
def jn (m:Nat):Prop:=∀(w:World) (gp:Nat) (vd vm:Value) (f:Int) (l:List Bf) (b:AC) (v:Value),Yb w gp vd vm f l→b.size≤m→b.size≤1000→EG l b→Dv Lw w v b→
  Calls Tryz.prog 95 #[.pointer (some ⟨gp,0,none⟩),v] w (Do w (BJ l b))
theorem Sk {N:Nat→Prop} {w w':World} (hk:Af (fun b=>w.heap.size≤b) w w') {b:AC} {cs:List Value} (h:A5 N w b cs):A5 N w' b cs:=
 A5.kept (fun k _ _ hr=>hk.block k (fun hh=>by have:=hr.lt;omega)) b cs h
theorem WB {N:Nat→Prop} {w w':World} (hk:Af (fun b=>w.heap.size≤b) w w') {b:AC} {v:Value} (h:Dv N w v b):Dv N w' v b:=by
 obtain⟨cs,h1,h2⟩:=h
 exact⟨cs,h1.kept (fun k _ _ hr=>hk.block k (fun hh=>by have:=hr.lt;omega)),Sk hk h2⟩
theorem YB (l:List Bf):∀(x:AC),x.length=1→∃s,As l x=BE++s
 | .nil,h=>by cases h
 | .prim p r,_=>⟨_,by rw[As,Al]⟩
 | .ite c t o e r,_=>⟨_,by rw[As,Al]⟩
 | .rep n c b r,_=>⟨_,by rw[As,Al]⟩
structure UY (w0:World) (b:AC) (cs:List Value) (k:Nat) (wr:World) (done rest:AC) (QU Nz:List Value):Prop where
 eq:b=done.app rest
 cs:cs=QU++Nz
 csl:QU.length=k*13
 k:k+rest.length=b.length
 sz:done.size+rest.size=b.size
 stm:A5 Lw w0 rest Nz
 kept:Af (fun b=>w0.heap.size≤b) w0 wr
section
variable {w0 wr:World} {k:Nat} {b done rest:AC} {cs QU Nz:List Value}
theorem UY.next {g cap:Nat} (h:UY w0 b cs k wr done rest QU Nz) (hs:Sl Lw w0 258 13 (.slice (some ⟨g,0,none⟩) b.length cap) b.length cs) (hk:k<b.length):
  ∃x tl JT Nr,rest=x.app tl∧x.length=1∧Nz=JT++Nr∧StF JT∧A5 Lw w0 x JT∧A5 Lw w0 tl Nr∧rest.length=tl.length+1∧x.size+tl.size=rest.size∧
   (∀j,j<13→wr.cell? ⟨g,k*13+j,none⟩=JT[j]?)∧g<wr.heap.size:=by
 have Cu:rest≠.nil:=by
  rintro rfl
  have:=h.k
  simp[AC.length]at this
  omega
 obtain⟨x,tl,JT,Nr,e1,e2,e3,e4,e5,e6,e7,e8⟩:=A5.part rest Nz Cu h.stm
 have bN:JT.length=13:=by
  obtain⟨_,_,_,_,_,_,_,_,_,_,_,_,_,_,_,_,_,rfl⟩:=e4
  rfl
 refine⟨x,tl,JT,Nr,e1,e2,e3,e4,e5,e6,e7,e8,fun j hj=>?_,AD (hs.lt rfl) h.kept.size⟩
 have hb:k*13+j<b.length*13:=by omega
 have h1:=hs.1.cellAt _ hb
 have h2:cs[k*13+j]?=JT[j]?:=by
  rw[h.cs,e3,Ck (by rw[h.csl];omega),h.csl,Dj,B7 (by omega)]
 have SX:=hs.lt (g:=g) rfl
 exact((h.kept.cell (p:=⟨g,k*13+j,none⟩) (fun hh=>by simp only at hh;omega)).trans h1).trans h2
theorem UY.step {x tl:AC} {JT Nr:List Value} {w':World} (h:UY w0 b cs k wr done rest QU Nz) (e1:rest=x.app tl) (e3:Nz=JT++Nr) (hx:JT.length=13) (e6:A5 Lw w0 tl Nr)
  (e7:rest.length=tl.length+1) (e8:x.size+tl.size=rest.size) (hk:Af (fun b=>wr.heap.size≤b) wr w'):UY w0 b cs (k+1) w' (done.app x) tl (QU++JT) Nr:=
 ⟨by rw[h.eq,e1,Hq],by rw[h.cs,e3,Al],by rw[Ao,h.csl,hx];omega,by have:=h.k;omega,by rw[Jd];have:=h.sz;omega,e6,h.kept.trans (hk.mono (fun b hb=>Ai h.kept.size hb))⟩
end
theorem TR {m:Nat} (CP:rA m):jn m:=by
 intro w gp vd vm f l b v h Fw JS hW hb
 obtain⟨cs,⟨hs,g,cap,rfl⟩,Zm⟩:=hb
 have Vd:UY w b cs 0 w .nil b [] cs:=⟨by simp[AC.app],by simp,by simp,by omega,by simp[AC.size],Zm,Af.refl _ _⟩
 have OH:b.length≤1000:=by
  have:∀b:AC,b.length≤b.size:=by
   intro b
   induction b with
   |nil=>simp[AC.length]
   |prim p r ih=>simp[AC.length,AC.size];omega
   |ite c t o e r _ _ ih=>simp[AC.length,AC.size];omega
   |rep n c b r _ ih=>simp[AC.length,AC.size];omega
  have:=this b
  omega
 have LW:∀d r:AC,b=d.app r→(Bo++As l d).length≤200000:=by
  intro d r e
  rw[e,Pn]at hW
  rw[e,Jd]at JS
  have:=Ed h.dw d hW.1
  simp only[Ao,Ac,Aj]
  omega
 have Vh:=Aa CP
 have H:=Aa h
 have tM:=Aa hs
 have HL0:=Aa Vd
 have ya:=Aa Fw
 have wN:=Aa JS
 have HW:=Aa hW
 have XL:=Aa LW
 clear CP h hs Vd Zm Fw JS hW LW
 go_enter Tryz.func95,Tryz.ntmps95
 go_wp2_with fail
 go_loopg [10,5] b.length (fun _s us s5 wr=>∃k done rest QU Nz,k≤b.length∧b.length-k≤_s∧us= .int .i64 (k:Nat)∧s5= .string ⟨(Bo++As l done).toArray⟩∧UY w b cs k wr done rest QU Nz)
 case atStart=>exact⟨0,.nil,b,[],cs,Bn _,by omega,rfl,rfl,HL0.out⟩
 case round=>
  obtain⟨k,done,rest,QU,Nz,Jj,hg,rfl,rfl,hL⟩:=hrel
  have hlen:=XL.out done rest hL.eq
  by_cases Cy:k<b.length
  ·obtain⟨x,tl,JT,Nr,e1,e2,e3,e4,e5,e6,e7,e8,hc,SX⟩:=hL.next tM.out Cy
   have bN:JT.length=13:=by
    obtain⟨_,_,_,_,_,_,_,_,_,_,_,_,_,_,_,_,_,rfl⟩:=id e4
    rfl
   have MF:=XL.out (done.app x) tl (by rw[hL.eq,e1,Hq])
   rw[Fs]at MF
   obtain⟨sx,jF⟩:=YB l x e2
   rw[jF]at MF
   have bO:=HW.out
   rw[hL.eq,e1,Pn,Pn]at bO
   have HE:=Aa (And.intro e1 (And.intro e2 (And.intro e3 (And.intro bN (And.intro e5 (And.intro e6 (And.intro e7 (And.intro e8 bO.2.1))))))))
   obtain⟨k_,n_,m_,t_,XB,Xg,XA,Xf,Xz,Xe,o_,RW,Rz,RS,RU,Ry,RR,rfl⟩:=e4
   have x0:=hc 0 (by omega)
   have x1:=hc 1 (by omega)
   have x2:=hc 2 (by omega)
   have x3:=hc 3 (by omega)
   have x4:=hc 4 (by omega)
   have x5:=hc 5 (by omega)
   have x6:=hc 6 (by omega)
   have x7:=hc 7 (by omega)
   have x8:=hc 8 (by omega)
   have x9:=hc 9 (by omega)
   have ub:=hc 10 (by omega)
   have pi:=hc 11 (by omega)
   have j8:=hc 12 (by omega)
   have HL:=Aa hL
   have HSX:=Aa jF
   have ol:Bo++As l (done.app x)=(Bo++As l done)++(BE++sx):=by rw[Fs,jF,Al]
   simp only[Ao,Ac,Aj]at MF
   generalize hS:Bo++As l done=S at*
   have Mh:sx.length≤200000:=by omega
   have s1:=B6 (P:=Tryz.prog) (a:=⟨#[32]⟩) (b:=⟨sx.toArray⟩) (by simp only[At,Ac,Aj];omega)
   have s2:=B6 (P:=Tryz.prog) (a:=⟨S.toArray⟩) (b:=⟨#[32]⟩++⟨sx.toArray⟩) (by simp only[Ag,At,Ac,Aj];omega)
   have A6:(⟨S.toArray⟩:ByteArray)++(⟨#[32]⟩++⟨sx.toArray⟩)=⟨(Bo++As l (done.app x)).toArray⟩:=by rw[ol,BI,BI];rfl
   have Jo:=Aa A6
   clear hL hc e1 e2 e3 e5 e6 e7 e8 bN jF ol A6 hS bO MF Mh hlen
   unfold vs at*
   simp only[Eb,Bm,Ta]at x0 x1 x2 x3 x4 x5 x6 x7 x8 x9 ub pi j8
   go_wp2_with fail
   have ka:Af (fun b=>wr.heap.size≤b) wr (wr.alloc (.cells #[.string ⟨k_.toArray⟩,.int .i64 n_,.int .i64 m_,.bool t_,.string ⟨XB.toArray⟩,.int .i64 Xg,.string ⟨XA.toArray⟩,.int .i64 Xf,.string ⟨Xz.toArray⟩,.int .i64 Xe,.bool o_,.slice RW Rz RS,.slice RU Ry RR] 258)):=(Af.refl _ wr).alloc (Ab _) _
   have CV:Af (fun b=>w.heap.size≤b) w _:=HL.out.kept.trans (ka.mono (fun b hb=>Ai HL.out.kept.size hb))
   refine(Vh.out _ gp vd vm f l x _ sx (H.out.later CV) HE.out.2.1 (by have:=HL.out.sz;have:=HE.out.2.2.2.2.2.2.2.1;have:=ya.out;omega) (by have:=HL.out.sz;have:=HE.out.2.2.2.2.2.2.2.1;have:=wN.out;omega) HE.out.2.2.2.2.2.2.2.2 (Sk CV HE.out.2.2.2.2.1) HSX.out).mono ?_
   rintro e w2 ⟨rfl,A4⟩
   have F:=Aa (HL.out.step HE.out.1 HE.out.2.2.1 HE.out.2.2.2.1 HE.out.2.2.2.2.2.1 HE.out.2.2.2.2.2.2.1 HE.out.2.2.2.2.2.2.2.1 (ka.trans (A4.mono (fun b hb=>Ai ka.size hb))))
   clear ka CV A4
   go_wp2
   go_roundg (b.length-(k+1))
   case measure=>omega
   case rel=>exact⟨k+1,_,_,_,_,by omega,by omega,by go_num,AL Value.string Jo.out,F.out⟩
  ·have Uv:rest= .nil:=by
    have:=hL.k
    cases rest with
    |nil=>rfl
    |prim p r=>simp[AC.length]at this;omega
    |ite c t o e r=>simp[AC.length]at this;omega
    |rep n c b r=>simp[AC.length]at this;omega
   have Ph:b=done:=by rw[hL.eq,Uv];exact M8 done
   have A6:BJ l b=(Bo++As l done)++[32,125]:=by rw[Ph];simp[BJ,BE]
   have F:=Aa hL.kept
   generalize Bo++As l done=S at*
   have o7:=Aa A6
   have s1:=B6 (P:=Tryz.prog) (a:=⟨S.toArray⟩) (b:=⟨#[32,125]⟩) (by simp only[At,Ac,Aj];omega)
   clear hL Uv Ph A6
   go_wp2
   go_ret
   exact⟨by rw[o7.out];exact AL (fun x=>Ending.returned (.string x)) (BI _ _),F.out⟩
def C4 (t:Bool):Ae:=if t then [32,116,97,105,108]else []
theorem P6 (t:Bool):Fj t=C4 t:=by cases t<;>rfl
section
variable {w:World} {gp:Nat} {vd vm:Value} {f:Int} {l:List Bf}
theorem P9 (h:Yb w gp vd vm f l) (kw:Ae) (CV:kw=Hn∨kw=Db∨kw=Ew∨kw=Ia∨kw=Ib) {k:Int} (hk:Ix l.length k) (tl:Bool):
  Calls Tryz.prog 131 #[.pointer (some ⟨gp,0,none⟩),.agg ([vs kw,.int .i64 k,.int .i64 0,.bool tl]++LR++[Bx,Bx]).toArray] w (Do w (kw++BE++AI l k++C4 tl++Ar)):=by
 have k0:=fun cs=>(Af.refl (fun b=>w.heap.size≤b) w).alloc (Ab _) (.cells cs 258)
 have K0:=Aa k0
 obtain⟨n,gd,cd,rfl,hn,rfl,q1,q2,q3,q4,d0,d1,hl⟩:=h.at_ hk
 have f1:¬gp=w.heap.size:=by omega
 have f2:¬gd=w.heap.size:=by omega
 generalize AI l (n:Int)=nm at*
 have aD:kw.length≤5:=by rcases CV with rfl|rfl|rfl|rfl|rfl<;>simp
 have Kv:(C4 tl).length≤5:=by cases tl<;>simp[C4]
 have s1:=B6 (P:=Tryz.prog) (a:=⟨kw.toArray⟩) (b:=⟨#[32]⟩) (by simp only[At,Ac,Aj];omega)
 have s2:=B6 (P:=Tryz.prog) (a:=⟨kw.toArray⟩++⟨#[32]⟩) (b:=⟨nm.toArray⟩) (by simp only[Ag,At,Ac,Aj];omega)
 have s3:=B6 (P:=Tryz.prog) (a:=⟨kw.toArray⟩++⟨#[32]⟩++⟨nm.toArray⟩) (b:=⟨(C4 tl).toArray⟩) (by simp only[Ag,At,Ac,Aj];omega)
 have s4:=B6 (P:=Tryz.prog) (a:=⟨kw.toArray⟩++⟨#[32]⟩++⟨nm.toArray⟩++⟨(C4 tl).toArray⟩) (b:=⟨#[59]⟩) (by simp only[Ag,At,Ac,Aj];omega)
 have ht:(⟨kw.toArray⟩:ByteArray)++⟨#[32]⟩++⟨nm.toArray⟩++⟨(C4 tl).toArray⟩++⟨#[59]⟩=⟨(kw++BE++nm++C4 tl++Ar).toArray⟩:=by rw[BI,BI,BI,BI];rfl
 have HT:=Aa ht
 clear ht k0 h hk Kv aD
 unfold LR Bx vs at*
 cases tl with
 |false=>
  unfold C4 at s3 s4 HT
  rw[Ad Bg]at s3 s4
  rcases CV with rfl|rfl|rfl|rfl|rfl
  all_goals
   go_enter JD,II
   go_wp2
   go_region
   go_wp2
   go_ret
   exact⟨AL (fun x=>Ending.returned (.string x)) HT.out,(K0.out _).drew⟩
 |true=>
  unfold C4 at s3 s4 HT
  rw[Ak rfl]at s3 s4
  rcases CV with rfl|rfl|rfl|rfl|rfl
  all_goals
   go_enter JD,II
   go_wp2
   go_region
   go_wp2
   go_ret
   exact⟨AL (fun x=>Ending.returned (.string x)) HT.out,(K0.out _).drew⟩
theorem Yy (kw:Ae) (CV:kw=EJ∨kw=EK):
  Calls Tryz.prog 131 #[.pointer (some ⟨gp,0,none⟩),.agg ([vs kw,.int .i64 0,.int .i64 0,.bool false]++LR++[Bx,Bx]).toArray] w (Do w (kw++Ar)):=by
 have k0:=fun cs=>(Af.refl (fun b=>w.heap.size≤b) w).alloc (Ab _) (.cells cs 258)
 have K0:=Aa k0
 have aD:kw.length≤5:=by rcases CV with rfl|rfl<;>simp
 have s1:=B6 (P:=Tryz.prog) (a:=⟨kw.toArray⟩) (b:=⟨#[59]⟩) (by simp only[At,Ac,Aj];omega)
 have ht:(⟨kw.toArray⟩:ByteArray)++⟨#[59]⟩=⟨(kw++Ar).toArray⟩:=by rw[BI]
 have HT:=Aa ht
 clear ht k0 aD
 unfold LR Bx vs at*
 rcases CV with rfl|rfl
 all_goals
  go_enter JD,II
  go_wp2
  go_ret
  exact⟨AL (fun x=>Ending.returned (.string x)) HT.out,K0.out _⟩
theorem go (h:Yb w gp vd vm f l) {k j:Int} (hk:Ix l.length k) (hj:Ix l.length j) (tl:Bool):
  Calls Tryz.prog 131 #[.pointer (some ⟨gp,0,none⟩),.agg ([vs CN,.int .i64 k,.int .i64 j,.bool tl]++LR++[Bx,Bx]).toArray] w (Do w (CN++BE++AI l k++BE++AI l j++C4 tl++Ar)):=by
 have k0:=fun cs=>(Af.refl (fun b=>w.heap.size≤b) w).alloc (Ab _) (.cells cs 258)
 have K0:=Aa k0
 obtain⟨n,gd,cd,rfl,hn,hvd,q1,q2,q3,q4,d0,d1,hl⟩:=h.at_ hk
 obtain⟨n2,gd2,cd2,rfl,PR,vi,_,_,_,_,_,d2,Ik⟩:=h.at_ hj
 subst hvd
 injection vi with e1 _ e2
 injection e1 with e1
 injection e1 with e1
 subst e1 e2
 have f1:¬gp=w.heap.size:=by omega
 have f2:¬gd=w.heap.size:=by omega
 generalize AI l (n:Int)=nm at*
 generalize AI l (n2:Int)=bD at*
 have Kv:(C4 tl).length≤5:=by cases tl<;>simp[C4]
 have s1:=B6 (P:=Tryz.prog) (a:=⟨#[115,104,105,102,116,32]⟩) (b:=⟨nm.toArray⟩) (by simp only[At,Ac,Aj];omega)
 have s2:=B6 (P:=Tryz.prog) (a:=⟨#[115,104,105,102,116,32]⟩++⟨nm.toArray⟩) (b:=⟨#[32]⟩) (by simp only[Ag,At,Ac,Aj];omega)
 have s3:=B6 (P:=Tryz.prog) (a:=⟨#[115,104,105,102,116,32]⟩++⟨nm.toArray⟩++⟨#[32]⟩) (b:=⟨bD.toArray⟩) (by simp only[Ag,At,Ac,Aj];omega)
 have s4:=B6 (P:=Tryz.prog) (a:=⟨#[115,104,105,102,116,32]⟩++⟨nm.toArray⟩++⟨#[32]⟩++⟨bD.toArray⟩) (b:=⟨(C4 tl).toArray⟩) (by simp only[Ag,At,Ac,Aj];omega)
 have s5:=B6 (P:=Tryz.prog) (a:=⟨#[115,104,105,102,116,32]⟩++⟨nm.toArray⟩++⟨#[32]⟩++⟨bD.toArray⟩++⟨(C4 tl).toArray⟩) (b:=⟨#[59]⟩) (by simp only[Ag,At,Ac,Aj];omega)
 have ht:(⟨#[115,104,105,102,116,32]⟩:ByteArray)++⟨nm.toArray⟩++⟨#[32]⟩++⟨bD.toArray⟩++⟨(C4 tl).toArray⟩++⟨#[59]⟩=⟨(CN++BE++nm++BE++bD++C4 tl++Ar).toArray⟩:=by
  rw[BI,BI,BI,BI,BI]
  simp[BE]
 have HT:=Aa ht
 clear ht k0 h hk hj Kv
 unfold LR Bx vs at*
 cases tl with
 |false=>
  unfold C4 at s4 s5 HT
  rw[Ad Bg]at s4 s5
  go_enter JD,II
  go_wp2
  go_region
  go_wp2
  go_ret
  exact⟨AL (fun x=>Ending.returned (.string x)) HT.out,(K0.out _).drew⟩
 |true=>
  unfold C4 at s4 s5 HT
  rw[Ak rfl]at s4 s5
  go_enter JD,II
  go_wp2
  go_region
  go_wp2
  go_ret
  exact⟨AL (fun x=>Ending.returned (.string x)) HT.out,(K0.out _).drew⟩
end
end Go.Proofs.YtemppijblfflgaaGreatDoor.Ev
