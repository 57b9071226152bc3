/- Parts of a proof that a law's walk returns true. Conditions: none. -/
import Derived.Test.YtemppijblfflgaaGreatDoorZa00
import Derived.Test.YtemppijblfflgaaGreatDoorZa01
import Derived.Test.YtemppijblfflgaaGreatDoorZa10
import Derived.Test.YtemppijblfflgaaGreatDoorZa13
set_option linter.all false
set_option maxRecDepth 100000
set_option maxHeartbeats 8000000
namespace Go.Proofs.YtemppijblfflgaaGreatDoor.Ev
open Go Go.RowKit
section
variable {S:Nat→Prop} {w w0:World} {gm gg gp bm loops K:Nat} {vl:Value} {code:List Gl} {t:TypeId} {cs:List Value}
theorem DI.cells (h:DI S w0 w gm gg gp bm loops code K t cs):w.cell? ⟨gm,0,none⟩=some (.pointer (some ⟨gg,0,none⟩))∧w.cell? ⟨gg,2,none⟩=some (.int .i64 loops)∧w.frozen? ⟨gg,2,none⟩=false:=by
 obtain⟨vl,hm⟩:=h.mr
 exact⟨hm.row.cell 0,hm.prog.cell 2,hm.prog.frozen 2⟩
theorem DI.loop (h:DI S w0 w gm gg gp bm loops code K t cs):DI S w0 (w.setCell ⟨gg,2,none⟩ (.int .i64 ((loops:Int)+1))) gm gg gp bm (loops+1) code K t cs:=by
 obtain⟨vl,hm⟩:=h.mr
 have hk:Af (fun b=>b=gg) w (w.setCell ⟨gg,2,none⟩ (.int .i64 ((loops:Int)+1))):=Af.one w ⟨gg,2,none⟩ _
 exact h.call (hk.mono (fun b hb=>hb▸hm.sg)) ⟨vl,hm.row.kept hk (hm.row.ne_ hm.prog (by decide)),hm.prog.set_ 2 _,hm.l.kept hk (fun b hb e=>hm.l.ne_row hm.prog (by decide) (e▸hb)),hm.sm,hm.sg⟩
theorem uy {m:Nat} (hB:Sh m) (h:NB S w gm gg gp bm vl loops code) (hS:Up S w) {n:Int} {c:Da} {x:AC} {vt:Value} (CP:x.size≤m) (ht:Dv (fun k=>¬S k) w vt x) (Nw:code.length+8*(1+x.size)≤900000) (Tj:loops+(1+x.size)≤1000000):
  Calls Tryz.prog 127 #[.pointer (some ⟨gm,0,none⟩),.agg (Iz n c vt).toArray] w fun e' w'=>PK S w gm gg gp bm (loops+(1+x.loops)) (code++BR loops code.length (.rep n c x .nil)) e' w':=by
 have h0:=DI.start h hS 258 (Iz n c vt)
 have sZ:=Kp c
 have Kv:=Hb x (loops+1)
 obtain⟨Nr,⟨_,gt,cN,rfl⟩,_⟩:=id ht
 have HTV:=Aa ht
 have xZ:=Aa Kv
 have HB:=Aa hB
 obtain⟨b0,n1,b2,n3,hv⟩:=Fl c.k
 have UB:By c=[vs (Cg c.k),.int .i64 (BT c.k),vs b0,.int .i64 n1,vs b2,.int .i64 n3,.bool (Dg c.nots)]:=by unfold By;rw[hv];rfl
 have zK:Iz n c (.slice (some ⟨gt,0,none⟩) x.length cN)=[vs Bb,.int .i64 n,.int .i64 0,.bool false,vs (Cg c.k),.int .i64 (BT c.k),vs b0,.int .i64 n1,vs b2,.int .i64 n3,.bool (Dg c.nots),.slice (some ⟨gt,0,none⟩) x.length cN,.slice none 0 0]:=by unfold Iz;rw[UB];rfl
 rw[zK]at h0 ⊢
 have Pe:wrap64 ((loops:Int)+1)=(loops:Int)+1:=by unfold wrap64;omega
 obtain⟨g0,g2,gf⟩:=h0.cells
 have H0:=Aa h0
 have HCO:=Aa UB
 clear hB h0 h hS ht Kv hv UB zK
 unfold vs at*
 go_enter S6,Re
 go_wp2_with fail
 have h1:=H0.out.loop
 refine(h1.put' (by omega) (.count loops n) rfl rfl rfl).mono ?_
 rintro e1 w1 ⟨_,FM,rfl,_,Nk,h1⟩
 have l1:FM.length=code.length+1:=by rw[Nk];simp
 have H1:=Aa h1
 have Td:=Aa Nk
 clear h1 Nk g0 g2 gf
 go_wp2_with fail
 refine(H1.out.put' (by omega) (.again loops 0) rfl rfl rfl).mono ?_
 rintro e1 w2 ⟨a,Fx,rfl,ha,Nx,h2⟩
 have l2:Fx.length=FM.length+1:=by rw[Nx];simp
 obtain⟨_,_,_,_,x4,x5,x6,x7,x8,x9,ub,_,_⟩:=Br h2.row
 have hco:=h2.cond (by omega) c
 rw[HCO.out]at hco
 have Vj:=Aa Nx
 have HA:=Aa ha
 have xd:=Aa hco
 clear h2 Nx ha hco
 unfold vs at*
 go_wp2_with fail
 refine xd.out.mono ?_
 rintro e1 w3 ⟨rfl,h3⟩
 have H3:=Aa h3
 clear h3 x4 x5 x6 x7 x8 x9 ub
 go_wp2_with fail
 refine(H3.out.put' (by rw[Ao];omega) (.skip 0) rfl rfl rfl).mono ?_
 rintro e1 w4 ⟨b,GI,rfl,hb,XX,h4⟩
 obtain⟨_,_,_,_,_,_,_,_,_,_,_,pi,_⟩:=Br h4.row
 have l3:GI.length=Fx.length+(Aq c).length+1:=by rw[XX];simp;omega
 have LX:=h4.block HB.out CP HTV.out (by omega) (by omega)
 have pa:=Aa XX
 have ym:=Aa hb
 have Yg:=Aa LX
 clear h4 XX hb LX
 go_wp2_with fail
 refine Yg.out.mono ?_
 rintro e1 w5 ⟨rfl,h5⟩
 obtain⟨Jb,VA⟩:∃y,y=GI++BR (loops+1) GI.length x:=⟨_,rfl⟩
 rw[←VA]at h5
 have Kv:=xZ.out GI.length
 have l4:Jb.length=GI.length+(BR (loops+1) GI.length x).length:=by rw[VA,Ao]
 have l4b:Jb.length≤GI.length+8*x.size:=by omega
 have H5:=Aa h5
 have xe:=Aa VA
 clear h5 VA Kv pi l4
 go_wp2_with fail
 refine(H5.out.put' (by omega) (.jump a) rfl rfl rfl).mono ?_
 rintro e1 w6 ⟨_,JU,rfl,_,hc5,h6⟩
 have l5:JU.length=Jb.length+1:=by rw[hc5];simp
 have iK:JU[a]?=some (.again loops 0):=by
  rw[hc5,xe.out,pa.out,Vj.out]
  simp only[Al,A8,CH]
  exact Xr _ _ _ HA.out
 have Wv:a<JU.length:=(Ap.1 iK).1
 obtain⟨gl,cap,r1,rc,rt⟩:=h6.form (by omega)
 obtain⟨cA,fA⟩:=rc a _ iK 2 (by omega)
 have F6:=Aa (rt a (.again loops 0) (.again loops JU.length) 2 (.int .i64 JU.length) iK (by omega) rfl)
 have HC5:=Aa hc5
 have L5:=Aa l5
 clear rc rt iK hc5 h6 l5
 simp[Cr]at cA
 go_wp2_with fail
 go_region
 all_goals
  have h7:=F6.out.drew
  obtain⟨ZP,zZ⟩:∃y,y=JU.set a (.again loops JU.length):=⟨_,rfl⟩
  rw[←zZ]at h7
  have hl6:ZP.length=JU.length:=by rw[zZ,BU]
  have jK:ZP[b]?=some (.skip 0):=by
   rw[zZ,E8 (by rw[ym.out,HA.out,Vj.out];simp),HC5.out,xe.out,pa.out]
   simp only[Al,A8,CH]
   rw[←Al]
   exact Xr _ _ _ ym.out
  have OH:b<ZP.length:=(Ap.1 jK).1
  obtain⟨gl2,Er,r1,rc,rt⟩:=h7.form (by have:=L5.out;omega)
  obtain⟨cA,fA⟩:=rc b _ jK 1 (by omega)
  have F7:=Aa (rt b (.skip 0) (.skip ZP.length) 1 (.int .i64 ZP.length) jK (by omega) rfl)
  have HC6:=Aa zZ
  clear rc rt jK h7 zZ hl6
  simp[Cr]at cA
  go_wp2_with fail
  go_region
  all_goals
   go_wp2
   refine Dd (Cl rfl _ _ _) rfl ?_
   rw[←lh n c x loops code FM Fx GI Jb JU a b Td.out HA.out Vj.out ym.out pa.out xe.out HC5.out,←HC6.out]
   have A6:=F7.out.drew.out
   rw[E3]at A6
   exact A6
theorem ij:∀(b:AC),b.length=0→b= .nil
 | .nil,_=>rfl
 | .prim p r,h=>by simp[AC.length]at h
 | .ite c t o e r,h=>by simp[AC.length]at h
 | .rep n c b r,h=>by simp[AC.length]at h
theorem pr {m:Nat} (hB:Sh m):fb (m+1):=by
 intro S w gm gg gp bm loops vl code x cs h hS hl Fw CP Nw Tj
 cases x with
 |nil=>cases hl
 |prim p r=>
  have hr:=ij r (by simpa[AC.length]using hl)
  subst hr
  obtain⟨rest,rfl,rfl⟩:=CP
  simp only[AC.loops,AC.size,Ta,Bk,BR]at*
  exact pL h hS (by omega) p
 |ite c t o e r=>
  have hr:=ij r (by simpa[AC.length]using hl)
  subst hr
  obtain⟨vt,ve,rest,rfl,ht,he,rfl⟩:=CP
  have Ac6:1+t.size+e.size≤m+1:=by simpa[AC.size]using Fw
  have vZ:code.length+8*(1+t.size+e.size)≤900000:=by simpa[AC.size]using Nw
  have vN:loops+(1+t.size+e.size)≤1000000:=by simpa[AC.size]using Tj
  rw[Bk]
  show Calls _ _ _ _ fun e' w'=>PK S w gm gg gp bm (loops+(t.loops+e.loops+0)) _ e' w'
  exact yG hB h hS (by omega) (by omega) ht he vZ vN
 |rep n c b r=>
  have hr:=ij r (by simpa[AC.length]using hl)
  subst hr
  obtain⟨vt,rest,rfl,ht,rfl⟩:=CP
  have Ac6:1+b.size≤m+1:=by simpa[AC.size]using Fw
  have vZ:code.length+8*(1+b.size)≤900000:=by simpa[AC.size]using Nw
  have vN:loops+(1+b.size)≤1000000:=by simpa[AC.size]using Tj
  rw[Bk]
  show Calls _ _ _ _ fun e' w'=>PK S w gm gg gp bm (loops+(1+b.loops+0)) _ e' w'
  exact uy hB h hS (by omega) ht vZ vN
theorem Wl:∀m,fb m∧Sh m
 |0=>by
  have h:fb 0:=by
   intro S w gm gg gp bm loops vl code x cs h hS hl Fw
   cases x with
   |nil=>cases hl
   |prim p r=>simp[AC.size]at Fw
   |ite c t o e r=>simp[AC.size]at Fw
   |rep n c b r=>simp[AC.size]at Fw
  exact⟨h,ZV h⟩
 |m+1=>by
  have h:=pr (Wl m).2
  exact⟨h,ZV h⟩
theorem Xx (h:NB S w gm gg gp bm vl loops code) (hS:Up S w) {b:AC} {v:Value} (hb:Dv (fun k=>¬S k) w v b) (Nw:code.length+8*b.size≤900000) (Tj:loops+b.size≤1000000):
  Calls Tryz.prog 81 #[.pointer (some ⟨gm,0,none⟩),v] w fun e w'=>PK S w gm gg gp bm (loops+b.loops) (code++BR loops code.length b) e w':=
 (Wl b.size).2 S w gm gg gp bm loops vl code b v h hS (Ab _) hb Nw Tj
end
end Go.Proofs.YtemppijblfflgaaGreatDoor.Ev
namespace Go.Proofs.YtemppijblfflgaaGreatDoor.Ev
open Go Go.RowKit
open Go.ChangeMaps (setBlock)
def Jf (w:World) (r b:Nat) (k:IntKind) (M:GP) (sk:List Int):Prop:=
 ∃(es:Array MapEntry) (clock:Nat) (sb:Array Nat),w.heap[b]?=some (.map es clock)∧es.toList.map (fun e=>(e.key,e.val))=M.map (fun x=>(Value.int k x.1,x.2))∧(∀e∈es.toList,e.born<clock)∧(es.toList.map (·.born)).Nodup∧
  (M.map (·.1)).Nodup∧w.heap[r]?=some (.mapIter (some b) clock sb clock)∧∀(i:Nat) (e:MapEntry) (y:Int×Value),es.toList[i]?=some e→M[i]?=some y→(sb.contains e.born=true↔y.1∈sk)
theorem YZ {α:Type} {l:List α} (h:l.Nodup) {i j:Nat} {x:α} (hi:l[i]?=some x) (hj:l[j]?=some x):i=j:=by
 obtain⟨h1,e1⟩:=Ap.1 hi
 obtain⟨h2,e2⟩:=Ap.1 hj
 exact(List.getElem_inj h).1 (e1.trans e2.symm)
section
variable {P:Program} {w:World} {r b:Nat} {k:IntKind} {M:GP} {sk:List Int}
theorem BV.range (h:BV w b k M) {T K E:TypeId} (hT:P.underlying T=some (.map K E)):
  ∃clock,(Instr.range T (.map (some b))).run P w= .ok (.pointer (some ⟨w.heap.size,0,none⟩)) (w.alloc (.mapIter (some b) clock #[] clock))∧Jf (w.alloc (.mapIter (some b) clock #[] clock)) w.heap.size b k M []:=by
 obtain⟨es,clock,h1,h2,h3,h4,h5⟩:=h
 have Cy:b<w.heap.size:=BV.lt (k:=k) (M:=M) ⟨es,clock,h1,h2,h3,h4,h5⟩
 refine⟨clock,run_range_map w T K E b es clock hT h1,es,clock,#[],?_,h2,h3,h4,h5,OR w _,fun i e y _ _=>by simp⟩
 (first|rw[heap_alloc_old w _ Cy]|rw[heap_alloc_old w _ _ Cy]);exact h1
theorem Jf.next (h:Jf w r b k M sk) (ty:TypeId):
  ((∀y∈M,y.1∈sk)∧(Instr.next (.pointer (some ⟨r,0,none⟩)) false ty).run P w= .ok (.tuple #[.bool false]) w)∨
  ∃y∈M,y.1∉sk∧∃w',(Instr.next (.pointer (some ⟨r,0,none⟩)) false ty).run P w= .ok (.tuple #[.bool true,.int k y.1,y.2]) w'∧Jf w' r b k M (y.1::sk)∧Af (fun i=>i=r) w w'∧
   (Instr.entry (.pointer (some ⟨r,0,none⟩))).run P w'= .ok (.tuple #[.int k y.1,y.2]) w':=by
 obtain⟨es,clock,sb,h1,h2,h3,h4,h5,h6,h7⟩:=h
 have za:∀(i:Nat) (e:MapEntry),es.toList[i]?=some e→∃y,M[i]?=some y∧e.key= .int k y.1∧e.val=y.2:=by
  intro i e hi
  have:=AL (fun l=>l[i]?) h2
  simp only[Az,hi,CZ]at this
  cases hm:M[i]? with
  |none=>rw[hm]at this;cases this
  |some y=>
   rw[hm]at this
   simp only[CZ,De,Yc]at this
   exact⟨y,rfl,this.1,this.2⟩
 have vJ:∀(i:Nat) (y:Int×Value),M[i]?=some y→∃e,es.toList[i]?=some e:=by
  intro i y hi
  have:=AL (fun l=>l[i]?) h2
  simp only[Az,hi,CZ]at this
  cases hm:es.toList[i]? with
  |none=>rw[hm]at this;cases this
  |some e=>exact⟨e,rfl⟩
 have Cu:r≠b:=by
  rintro rfl
  rw[h1]at h6
  cases h6
 rcases run_next_at (P:=P) w ty r b clock clock sb es clock h6 h1 h3 (Ab _)with⟨hz,Cd⟩|⟨e,he,w1,Qx,Cd⟩
 ·left
  refine⟨fun y hy=>?_,Cd⟩
  obtain⟨i,hi⟩:=Jn hy
  obtain⟨e,he⟩:=vJ i y hi
  refine(h7 i e y he hi).1 ?_
  by_cases hc:sb.contains e.born=true
  ·exact hc
  ·have OG:e∈(leftOf es sb).toList:=by
    unfold leftOf
    have N0:e∈es.toList:=A7 he
    simp only[Array.toList_filter,DW]
    exact⟨N0,by simpa using hc⟩
   have:(leftOf es sb).toList.length=0:=by simpa using hz
   rw[jZ this]at OG
   cases OG
 ·right
  have N0:e∈es.toList∧¬sb.contains e.born=true:=by
   unfold leftOf at he
   simp only[Array.toList_filter,DW]at he
   exact⟨he.1,by simpa using he.2⟩
  obtain⟨i,hi⟩:=Jn N0.1
  obtain⟨y,hy,ek,ev⟩:=za i e hi
  have Vc:y.1∉sk:=fun hs=>N0.2 ((h7 i e y hi hy).2 hs)
  have qi:w1.heap=w.heap:=by rcases Qx with rfl|rfl<;>rfl
  have Xj:r<w.heap.size:=by
   rcases BP r w.heap.size with Cy|Xn
   ·exact Cy
   ·rw[Ce Xn]at h6;cases h6
  have Vf:(setBlock w1 r (.mapIter (some b) clock (sb.push e.born) clock)).heap[b]?=some (.map es clock):=by
   show(w1.heap.setIfInBounds r _)[b]?=_
   rw[qi,fx Cu];exact h1
  have Mj:(setBlock w1 r (.mapIter (some b) clock (sb.push e.born) clock)).heap[r]?=some (.mapIter (some b) clock (sb.push e.born) clock):=by
   show(w1.heap.setIfInBounds r _)[r]?=_
   rw[qi,Array.getElem?_setIfInBounds_self_of_lt Xj]
  refine⟨y,A7 hy,Vc,_,by rw[Cd,ek,ev],⟨es,clock,sb.push e.born,Vf,h2,h3,h4,h5,Mj,fun i' e' y' xJ Pd=>?_⟩,?_,?_⟩
  ·have hc:(sb.push e.born).contains e'.born=true↔sb.contains e'.born=true∨e'.born=e.born:=by simp
   rw[hc,h7 i' e' y' xJ Pd,Bt,or_comm]
   refine or_congr ⟨fun hb=>?_,fun hk=>?_⟩ Iff.rfl
   ·have:=YZ h4 (i:=i') (j:=i) (x:=e.born) (by simp[Az,xJ,hb]) (by simp[Az,hi])
    subst this
    rw[hy]at Pd
    injection Pd with Pd
    rw[Pd]
   ·have:=YZ h5 (i:=i') (j:=i) (x:=y.1) (by simp[Az,Pd,hk]) (by simp[Az,hy])
    subst this
    rw[hi]at xJ
    injection xJ with xJ
    rw[xJ]
  ·refine⟨by rcases Qx with rfl|rfl<;>rfl,by rcases Qx with rfl|rfl<;>rfl,by rcases Qx with rfl|rfl<;>rfl,?_,fun j hj=>?_⟩
   ·show w.heap.size≤(w1.heap.setIfInBounds r _).size
    rw[qi];simp
   ·show(w1.heap.setIfInBounds r _)[j]?=_
    rw[qi,fx (fun e=>hj e.symm)]
  ·rw[run_entry_at (P:=P) _ r b clock sb es clock e Mj Vf N0.1 h4,ek,ev]
end
theorem Jf.kept_ {w w':World} {r b:Nat} {k:IntKind} {M:GP} {sk:List Int} (h:Jf w r b k M sk) (hr:w'.heap[r]?=w.heap[r]?) (hb:w'.heap[b]?=w.heap[b]?):Jf w' r b k M sk:=by
 obtain⟨es,c,sb,h1,h2,h3,h4,h5,h6,h7⟩:=h
 exact⟨es,c,sb,hb.trans h1,h2,h3,h4,h5,hr.trans h6,h7⟩
theorem Jf.ne_row {w:World} {r b g:Nat} {k:IntKind} {M:GP} {sk:List Int} {t:TypeId} {cs:List Value} (h:Jf w r b k M sk) (hr:AM w g t cs):g≠r:=by
 rintro rfl
 obtain⟨es,c,sb,_,_,_,_,_,h6,_⟩:=h
 unfold AM at hr
 rw[hr]at h6
 cases h6
theorem W7 {M:GP} {x k:Int} {v u:Value} (h:FT M k=some u):FT (M++[(x,v)]) k=some u:=by
 unfold FT at*
 rw[Bj]at h
 obtain⟨y,h1,h2⟩:=h
 rw[Ek,h1]
 exact AL some h2
theorem W8 {M:GP} {x:Int} {v:Value} (h:FT M x=none):FT (M++[(x,v)]) x=some v:=by
 unfold FT at*
 rw[Im]at h
 rw[Ek,h]
 simp
theorem Vr {M:GP} {x k:Int} {v:Value} (h:FT M k=none) (hk:k≠x):FT (M++[(x,v)]) k=none:=by
 unfold FT at*
 rw[Im]at h
 rw[Ek,h]
 have:¬x=k:=fun e=>hk e.symm
 simp[this]
theorem Ue {M:GP} {x:Int} (v:Value) (h:FT M x=none):SP M x v=M++[(x,v)]:=by
 unfold SP
 rw[h]
 rfl
theorem NR:∀(a b:List Int),a.Nodup→(∀x∈a,x∈b)→a.length≤b.length
 | [],_,_,_=>Bn _
 |x::a,b,h,hs=>by
  have h1:=BK.1 h
  have hx:x∈b:=hs x (ac ..)
  have ih:=NR a (b.erase x) h1.2 (fun y hy=>by
   have Cu:y≠x:=fun e=>h1.1 (e▸hy)
   exact(List.mem_erase_of_ne Cu).2 (hs y (VP _ hy)))
  rw[List.length_erase_of_mem hx]at ih
  have:=List.length_pos_of_mem hx
  simp only[Ac]
  omega
end Go.Proofs.YtemppijblfflgaaGreatDoor.Ev
namespace Go.Proofs.YtemppijblfflgaaGreatDoor.Ev
open Go Go.RowKit
structure OfL (w wr:World) (gp bm:Nat) (rules:List (Int×AC)) (Mp:GP) (sk:List Int) (loops:Nat):Prop where
 rng:Jf wr (w.heap.size+1+1) bm .i64 Mp sk
 nd:sk.Nodup
 sub:∀k∈sk,k∈Mp.map (·.1)
 row:AM wr (w.heap.size+1) 94 [.pointer (some ⟨gp,0,none⟩),.map (some w.heap.size),.int .i64 loops]
 map:∃M:GP,BV wr w.heap.size .i64 M∧(∀k,k∈sk→∃v,FT M k=some v∧UZ (fun b=>w.heap.size≤b) wr rules loops k v)∧∀k,k∉sk→FT M k=none
 lo:loops≤700*sk.length
 kept:Af (fun b=>w.heap.size≤b) w wr
theorem UZ.kept {S S1:Nat→Prop} {w w':World} {rules:List (Int×AC)} {loops loops':Nat} {k:Int} {v:Value} (h:UZ S w rules loops k v) (hk:Af S1 w w') (hS:∀b cs,AM w b 147 cs→¬S1 b) (hl:loops≤loops'):UZ S w' rules loops' k v:=by
 obtain⟨b,c,h1,h2,h3⟩:=h
 refine⟨b,c,h1,h2.kept hk (fun g hg=>?_),by omega⟩
 obtain⟨cs,hr⟩:=h2.row hg
 exact hS g cs hr
theorem Wc:∀(l:List (Int×AC)) (i:Nat) (x:Int×AC),(l.map (·.1)).Nodup→l[i]?=some x→AE l x.1=some x.2
 | [],i,x,_,h=>by simp at h
 |y::l,0,x,_,h=>by
  simp only[Bm,De]at h
  subst h
  simp[AE]
 |y::l,i+1,x,hn,h=>by
  simp only[Eb]at h
  rw[Cq,BK]at hn
  have Cu:y.1≠x.1:=fun e=>hn.1 (e▸AT.2 ⟨x,A7 h,rfl⟩)
  have ih:=Wc l i x hn.2 h
  unfold AE at*
  rw[DE (by simpa using Cu)]
  exact ih
theorem O9:∀(l:List (Int×AC)) (x:Int×AC),x∈l→x.2.size≤J4 l
 | [],x,h=>by cases h
 |y::l,x,h=>by
  have e:J4 (y::l)=y.2.size+J4 l:=by simp[J4]
  rcases Bt.1 h with rfl|h
  ·omega
  ·have:=O9 l x h;omega
section
variable {B:Nat} {w:World} {gp bm:Nat} {vd:Value} {p:AF}
theorem uF (h:nQ B w gp bm vd p) (hp:EO p):Calls Tryz.prog 47 #[.pointer (some ⟨gp,0,none⟩)] w fun e w'=>
  ∃gg bc loops,e= .returned (.pointer (some ⟨gg,0,none⟩))∧Af (fun b=>w.heap.size≤b) w w'∧SN (fun b=>w.heap.size≤b) w' gg gp bc loops p.rules:=by
 have xD:=@jD Tryz.prog
 obtain⟨Mp,hM,eU,eT⟩:=h.rules
 have hMa:=(hM.alloc (.map #[] 0)).alloc (.cells #[.pointer (some ⟨gp,0,none⟩),.map (some w.heap.size),.int .i64 0] 94)
 obtain⟨clock,Cd,iz⟩:=hMa.range (P:=Tryz.prog) Fe
 have e1:(w.alloc (.map #[] 0)).heap.size=w.heap.size+1:=by simp
 have e2:((w.alloc (.map #[] 0)).alloc (.cells #[.pointer (some ⟨gp,0,none⟩),.map (some w.heap.size),.int .i64 0] 94)).heap.size=w.heap.size+1+1:=by simp
 rw[e2]at Cd iz
 have p2:=h.row.cell 2
 have pl:=h.row.lt
 simp at p2
 have HR:=Aa iz
 have HM:=Aa hM
 have ox:=Aa eU
 have wT:=Aa eT
 have HP:=Aa hp
 clear h hM hMa eU eT hp iz
 go_enter Tryz.func47,Tryz.ntmps47
 go_wp2_with fail
 go_loopg [] p.rules.length (fun kk wr=>∃sk loops,p.rules.length-sk.length≤kk∧OfL w wr gp bm p.rules Mp sk loops)
 case atStart=>
  have Gh:=(((Af.refl (fun b=>w.heap.size≤b) w).alloc (Ab _) (.map #[] 0)).alloc (by rw[e1];omega) (.cells #[.pointer (some ⟨gp,0,none⟩),.map (some w.heap.size),.int .i64 0] 94)).alloc (by rw[e2];omega) (.mapIter (some bm) clock #[] clock)
  have bT:=(AM.new (w.alloc (.map #[] 0)) 94 [.pointer (some ⟨gp,0,none⟩),.map (some w.heap.size),.int .i64 0]).alloc (.mapIter (some bm) clock #[] clock)
  rw[e1]at bT
  exact⟨[],0,by simp,HR.out,rB,(fun k hk=>absurd hk jp),bT,⟨[],((BV.new w .i64).alloc _).alloc _,(fun k hk=>absurd hk jp),fun k _=>rfl⟩,Bn _,Gh⟩
 case round=>
  obtain⟨sk,loops,Jj,hL⟩:=hrel
  have yV:sk.length≤p.rules.length:=by
   have h1:=NR sk _ hL.nd hL.sub
   rw[ox.out]at h1
   simpa using h1
  rcases hL.rng.next (P:=Tryz.prog) 0 with⟨N3,Cd⟩|⟨y,hy,Vc,w',Cd,Mj,OF,zQ⟩
  ·have HL:=Aa hL
   have Sd:=Aa N3
   clear hL N3
   go_wp2_with fail
   go_ret
   refine⟨_,_,loops,rfl,HL.out.kept,HL.out.row,?_,by have:=HL.out.lo;have:=HP.out.rl;omega,Es _,Ab _⟩
   obtain⟨M,m1,m2,m3⟩:=HL.out.map
   refine⟨M,m1,fun k=>?_⟩
   by_cases hk:k∈sk
   ·obtain⟨v,hv,hc⟩:=m2 k hk
    obtain⟨b,c,hb,h1,h2⟩:=id hc
    rw[hb]
    exact⟨v,hv,hc⟩
   ·cases hr:AE p.rules k with
    |none=>exact m3 k hk
    |some b=>
     exfalso
     apply hk
     have N0:k∈p.rules.map (·.1):=by
      cases hn:(AE p.rules k).isSome with
      |false=>rw[hr]at hn;cases hn
      |true=>
       unfold AE at hr
       rw[Bj]at hr
       obtain⟨x,hx,_⟩:=hr
       have h1:=nZ hx
       have h2:=PM hx
       exact AT.2 ⟨x,h2,by simpa using h1⟩
     rw[←ox.out]at N0
     obtain⟨z,hz,rfl⟩:=AT.1 N0
     exact Sd.out z hz
  ·obtain⟨k,v⟩:=y
   simp only at Vc Cd Mj zQ
   obtain⟨i,hi⟩:=Jn hy
   obtain⟨yb,yH⟩:∃yb,p.rules[i]?=some yb:=by
    have:=AL (fun l=>l[i]?) ox.out
    simp only[Az,hi,CZ]at this
    cases hm:p.rules[i]? with
    |none=>rw[hm]at this;cases this
    |some z=>exact⟨z,rfl⟩
   have hkb:yb.1=k:=by
    have:=AL (fun l=>l[i]?) ox.out
    simp only[Az,hi,yH,CZ,De]at this
    exact this.symm
   obtain⟨k0,b⟩:=yb
   simp only at hkb
   subst hkb
   have K9:Dv (fun k=>k<w.heap.size) w v b:=(wT.out i (k0,v) (k0,b) hi yH).mono (fun k h1 _=>h1)
   have Xj:AE p.rules k0=some b:=Wc p.rules i (k0,b) HP.out.rules.nodup yH
   have hbs:b.size≤700:=Ai (O9 p.rules (k0,b) (A7 yH)) HP.out.size
   have OG:k0∈Mp.map (·.1):=AT.2 ⟨(k0,v),hy,rfl⟩
   have yU:(k0::sk).length≤p.rules.length:=by
    have h1:=NR (k0::sk) (Mp.map (·.1)) (BK.2 ⟨Vc,hL.nd⟩) (fun x hx=>(Bt.1 hx).elim (fun e=>e▸OG) (hL.sub x))
    rw[ox.out]at h1
    simpa using h1
   have CV:Af (fun b=>w.heap.size≤b) w w':=hL.kept.trans (OF.mono (fun b hb=>by rw[hb];omega))
   have SC:AM w' (w.heap.size+1) 94 [.pointer (some ⟨gp,0,none⟩),.map (some w.heap.size),.int .i64 loops]:=hL.row.kept OF (by omega)
   have Amr:=SC.lt
   have zt:NB (fun b=>b=w.heap.size+1∨w'.heap.size≤b) (w'.alloc (.cells #[.pointer (some ⟨w.heap.size+1,0,none⟩),.slice none 0 0] 189)) w'.heap.size (w.heap.size+1) gp w.heap.size (.slice none 0 0) loops []:=
    ⟨AM.new w' _ _,SC.alloc _,⟨Cz _ _ _ _,fun b hb=>by cases hb⟩,.inr (Ab _),.inl rfl⟩
   have hup:Up (fun b=>b=w.heap.size+1∨w'.heap.size≤b) (w'.alloc (.cells #[.pointer (some ⟨w.heap.size+1,0,none⟩),.slice none 0 0] 189)):=fun b hb=>.inr (by simp at hb;omega)
   have LX:=Xx zt hup (b:=b) (v:=v) ((K9.kept (fun k cs hk hr=>by
     have h1:=CV.block k (by omega)
     exact(FR w' _ k (AD hk CV.size)).trans h1)).mono (fun k _ h1=>by have:=CV.size;rintro(rfl|h2)<;>omega)) (by simp;omega) (by have:=hL.lo;have:=HP.out.rl;have:sk.length≤700:=Ai yV HP.out.rl;omega)
   have HL:=Aa hL
   have oW:=Aa Mj
   have HK':=Aa OF
   have tQ:=Aa Xj
   have PU:=Aa CV
   have O5:=Aa SC
   have yh:=Aa Vc
   have j5:=Aa OG
   have Yg:=Aa LX
   have HUP:=Aa hup
   clear hL Mj OF K9 Xj CV SC Vc hi yH hy OG zt hup LX
   go_wp2_with fail
   refine Yg.out.mono ?_
   rintro e w2 ⟨rfl,A4,vl2,LV⟩
   have Nw:([]++BR loops ([]:List Gl).length b).length≤1000000:=by
    have:=Hb b loops 0
    simp;omega
   have yZ:=bx LV (HUP.out.kept A4) Nw .fin rfl rfl rfl
   have Af8:=Aa yZ
   have K2:=Aa A4
   clear yZ A4 LV Nw
   go_wp2_with fail
   refine Af8.out.mono ?_
   rintro e w3 ⟨rfl,BY,uh,Pz⟩
   have ka:Af (fun b=>w'.heap.size≤b) w' (w'.alloc (.cells #[.pointer (some ⟨w.heap.size+1,0,none⟩),.slice none 0 0] 189)):=(Af.refl _ w').alloc (Ab _) _
   have k3:Af (fun b=>b=w.heap.size+1∨w'.heap.size≤b) w' w3:=(ka.mono (fun b hb=>.inr hb)).trans (K2.out.trans BY)
   obtain⟨M,m1,m2,m3⟩:=HL.out.map
   have hlw:w.heap.size+1+1<w'.heap.size:=by
    obtain⟨es,c,sb,_,_,_,_,_,h6,_⟩:=oW.out
    rcases BP (w.heap.size+1+1) w'.heap.size with Cy|Xn
    ·exact Cy
    ·rw[Ce Xn]at h6;cases h6
   have k03:Af (fun b=>b=w.heap.size+1+1∨b=w.heap.size+1∨w'.heap.size≤b) wr w3:=(HK'.out.mono (fun b hb=>.inl hb)).trans (k3.mono (fun b hb=>.inr hb))
   have eT:BV w3 w.heap.size .i64 M:=m1.kept k03 (by omega)
   have c1:=Pz.row.cell 1
   have g1:=Pz.prog.cell 1
   have l3:=Pz.row.lt
   have l4:=Pz.prog.lt
   simp at c1 g1
   have HMM:=Aa eT.drew
   have HMK:=Aa Pz
   have M2:=Aa m2
   have M3:=Aa m3
   have K3:=Aa k3
   have K03:=Aa k03
   have M1:=Aa m1
   clear eT Pz m1 m2 m3 k3 k03 ka BY
   go_wp2_with fail
   (refine DM 9 (by kernel_rfl) (by kernel_rfl) ?_;simp only[Aw,AO,Ax,AK];repeat still_step)
   refine Cf ?_
   go_wp2_with (at_mapUpdate;go_must (refine Hg db D8 HMM.out rfl _ _ _ rfl rfl k0 rfl uh rfl ?_;intro w6 QF Nv;have rI:=Aa QF;have VR:=Aa Nv;clear QF Nv))
   have Cu:∀x cs,AM w3 x 147 cs→¬x=w.heap.size:=fun x cs hr e=>HMM.out.ne_row hr.drew e.symm
   have Vb:FT M k0=none:=M3.out k0 yh.out
   have QF:=rI.out
   rw[Ue uh Vb]at QF
   go_roundg (p.rules.length-(sk.length+1))
   case measure=>have:(k0::sk).length=sk.length+1:=rfl;omega
   case rel=>
    refine⟨k0::sk,loops+b.loops,by simp,?_⟩
    have Anh:bm<w.heap.size:=HM.out.lt
    refine⟨oW.out.kept_ ?_ ?_,BK.2 ⟨yh.out,HL.out.nd⟩,fun x hx=>(Bt.1 hx).elim (fun e=>e▸j5.out) (HL.out.sub x),HMK.out.prog.drew.kept VR.out (by omega),⟨_,QF,?_,?_⟩,?_,?_⟩
    ·exact(VR.out.block _ (by omega)).trans (K3.out.block _ (by omega))
    ·exact(VR.out.block _ (by omega)).trans (K3.out.block _ (by omega))
    ·intro k hk
     rcases Bt.1 hk with rfl|hk
     ·refine⟨uh,W8 Vb,b,loops,tQ.out,?_,Ab _⟩
      have hs:=HMK.out.l.mono (S':=fun b=>w.heap.size≤b) (fun x hx=>by rcases hx with rfl|hx<;>omega)
      have Cp:=(hs.of_heap (w':=w3.drew) rfl).kept VR.out (fun g hg=>by obtain⟨cs,hr⟩:=hs.row hg;exact Cu g cs hr)
      exact Cp
     ·obtain⟨v',hv',hc⟩:=M2.out k hk
      refine⟨v',W7 hv',?_⟩
      have XX:=hc.kept (loops':=loops+b.loops) K03.out (fun x cs hr=>by
       have h1:=HL.out.rng.ne_row hr
       have h2:=hr.ne_ HL.out.row (by decide)
       have h3:=hr.lt
       have h4:=HK'.out.size
       omega) (by omega)
      have VA:UZ (fun b=>w.heap.size≤b) w3.drew p.rules (loops+b.loops) k v':=XX.kept (S1:=fun _=>False) ((Af.refl _ w3).drew) (fun _ _ _ x=>x) (Ab _)
      exact VA.kept VR.out (fun x cs hr=>Cu x cs hr) (Ab _)
    ·intro k hk
     exact Vr (M3.out k (fun h=>hk (VP _ h))) (fun e=>hk (e▸ac ..))
    ·have:=HL.out.lo
     have:=IU b
     simp only[Ac]
     omega
    ·exact((PU.out.trans (K3.out.mono (fun x hx=>by rcases hx with rfl|hx<;>omega))).drew).trans (VR.out.mono (fun x hx=>by rw[hx];exact Ab _))
end
theorem FP.mono_ {N N':Nat→Prop} {w:World} {bm:Nat} {rules:List (Int×AC)} (h:FP N w bm rules) (hN:∀k,k<w.heap.size→N k→N' k):FP N' w bm rules:=by
 obtain⟨M,h1,h2,h3⟩:=h
 exact⟨M,h1,h2,fun i x y hx hy=>(h3 i x y hx hy).mono hN⟩
structure Jg (S:Nat→Prop) (w:World) (gg:Nat) (p:AF) (gp bm bc loops:Nat) (vd:Value):Prop where
 code:SN S w gg gp bc loops p.rules
 pol:AM w gp 90 [vd,.int .i64 p.freq,.map (some bm)]
 decls:Sl S w 86 3 vd p.decls.length (p.decls.flatMap D0)
 rules:FP S w bm p.rules
 sp:S gp
 sb:S bm
section
variable {S S' T:Nat→Prop} {w w':World} {gg gp bm bc loops:Nat} {vd:Value} {p:AF} {rules:List (Int×AC)}
theorem SN.kept_ (h:SN S w gg gp bc loops rules) (hk:Af T w w') (hT:∀b,S b→b<w.heap.size→¬T b):SN S w' gg gp bc loops rules:=by
 obtain⟨M,h1,h2⟩:=h.map
 refine⟨h.row.kept hk (hT _ h.sg h.row.lt),⟨M,h1.kept hk (hT _ h.sm h1.lt),fun k=>?_⟩,h.lo,h.sg,h.sm⟩
 have:=h2 k
 cases hr:AE rules k with
 |none=>rw[hr]at this;exact this
 |some b=>
  rw[hr]at this
  obtain⟨v,a,b',c,d1,d2,d3⟩:=this
  exact⟨v,a,b',c,d1,d2.kept hk (fun g hg=>hT g (d2.2 g hg) (d2.lt hg)),d3⟩
theorem SN.mono_ (h:SN S w gg gp bc loops rules) (hS:∀b,b<w.heap.size→S b→S' b):SN S' w gg gp bc loops rules:=by
 obtain⟨M,h1,h2⟩:=h.map
 refine⟨h.row,⟨M,h1,fun k=>?_⟩,h.lo,hS _ h.row.lt h.sg,hS _ h1.lt h.sm⟩
 have:=h2 k
 cases hr:AE rules k with
 |none=>rw[hr]at this;exact this
 |some b=>
  rw[hr]at this
  obtain⟨v,a,b',c,d1,d2,d3⟩:=this
  exact⟨v,a,b',c,d1,⟨d2.1,fun g hg=>hS g (d2.lt hg) (d2.2 g hg)⟩,d3⟩
theorem Jg.kept (h:Jg S w gg p gp bm bc loops vd) (hk:Af T w w') (hT:∀b,S b→b<w.heap.size→¬T b):Jg S w' gg p gp bm bc loops vd:=by
 obtain⟨M,h1,_⟩:=h.rules
 exact⟨h.code.kept_ hk hT,h.pol.kept hk (hT _ h.sp h.pol.lt),h.decls.kept hk (fun b hb=>hT b (h.decls.2 b hb) (h.decls.lt hb)),
  h.rules.kept (hk.block bm (hT _ h.sb h1.lt)) (fun k cs hN hr=>hk.block k (hT k hN hr.lt)),h.sp,h.sb⟩
theorem Jg.mono (h:Jg S w gg p gp bm bc loops vd) (hS:∀b,b<w.heap.size→S b→S' b):Jg S' w gg p gp bm bc loops vd:=by
 obtain⟨M,h1,_⟩:=h.rules
 exact⟨h.code.mono_ hS,h.pol,⟨h.decls.1,fun g hg=>hS g (h.decls.lt hg) (h.decls.2 g hg)⟩,FP.mono_ h.rules hS,hS _ h.pol.lt h.sp,hS _ h1.lt h.sb⟩
theorem Jg.ro (h:Jg S w gg p gp bm bc loops vd):oS w.heap.size w gg gp vd (.map (some bm)) (.map (some bc)) loops p:=
 ⟨h.code.row,h.pol,⟨h.decls.1,fun _ hg=>h.decls.lt hg⟩,h.code.row.lt,h.pol.lt⟩
end
structure xi (S:Nat→Prop) (w:World) (ge:Nat) (e:LN) (gg gs ga gp bm bc loops:Nat) (vd vva:Value) (SA:Nat→Prop) (A:Am) (ns:List (List Nat)):Prop where
 row:AM w ge 76 [.pointer (some ⟨gg,0,none⟩),.pointer (some ⟨gs,0,none⟩),.int .i64 e.n.hits,.int .i64 e.n.misses,.int .i64 e.n.evicted]
 prog:Jg (fun b=>S b∧¬SA b) w gg e.p gp bm bc loops vd
 srow:AM w gs 72 [.pointer (some ⟨ga,0,none⟩),vva]
 vars:Sl (fun b=>S b∧¬SA b) w 3 1 vva e.s.vars.length (e.s.vars.map L6)
 ar:∃vl vf vq bm,BL SA w ga A vl vf vq bm
 inv:CM A ns e.s.q
 si:Hc e.p e.s
 pw:EO e.p
 nov:∀(j:Nat) x,Oo e.s j x→(Au e.p.decls (j:Int)).kind≠2
 sa:∀b,SA b→S b
 se:S ge∧¬SA ge
 ss:S gs∧¬SA gs
def Hv (S:Nat→Prop) (w:World) (ge:Nat) (e:LN):Prop:=
 ∃gg gs ga gp bm bc loops vd vva SA A ns,xi S w ge e gg gs ga gp bm bc loops vd vva SA A ns
section
variable {S S' T:Nat→Prop} {w w':World} {ge:Nat} {e:LN}
theorem Hv.kept (h:Hv S w ge e) (hk:Af T w w') (hT:∀b,S b→b<w.heap.size→¬T b):Hv S w' ge e:=by
 obtain⟨gg,gs,ga,gp,bm,bc,loops,vd,vva,SA,A,ns,h⟩:=h
 obtain⟨vl,vf,vq,nA,ha⟩:=h.ar
 have ha':=ha.shrink
 have hT':∀b,S b∧¬SA b→b<w.heap.size→¬T b:=fun b hb=>hT b hb.1
 refine⟨gg,gs,ga,gp,bm,bc,loops,vd,vva,SA,A,ns,h.row.kept hk (hT _ h.se.1 h.row.lt),h.prog.kept hk hT',h.srow.kept hk (hT _ h.ss.1 h.srow.lt),h.vars.kept hk (fun b hb=>hT b (h.vars.2 b hb).1 (h.vars.lt hb)),
  ⟨vl,vf,vq,nA,(ha'.kept hk (fun b hb=>hT b (h.sa b hb.1) hb.2)).mono (fun b hb=>hb.1)⟩,h.inv,h.si,h.pw,h.nov,h.sa,h.se,h.ss⟩
theorem Hv.mono (h:Hv S w ge e) (hS:∀b,S b→S' b):Hv S' w ge e:=by
 obtain⟨gg,gs,ga,gp,bm,bc,loops,vd,vva,SA,A,ns,h⟩:=h
 have iO:∀b,b<w.heap.size→(S b∧¬SA b)→(S' b∧¬SA b):=fun b _ hb=>⟨hS b hb.1,hb.2⟩
 exact⟨gg,gs,ga,gp,bm,bc,loops,vd,vva,SA,A,ns,h.row,h.prog.mono iO,h.srow,h.vars.mono (fun b hb=>⟨hS b hb.1,hb.2⟩),h.ar,h.inv,h.si,h.pw,h.nov,fun b hb=>hS b (h.sa b hb),⟨hS _ h.se.1,h.se.2⟩,⟨hS _ h.ss.1,h.ss.2⟩⟩
theorem Hv.lt (h:Hv S w ge e):ge<w.heap.size:=by
 obtain⟨gg,gs,ga,gp,bm,bc,loops,vd,vva,SA,A,ns,h⟩:=h
 exact h.row.lt
theorem Hv.inv (h:Hv S w ge e):EO e.p∧XO e.p e.s:=by
 obtain⟨gg,gs,ga,gp,bm,bc,loops,vd,vva,SA,A,ns,h⟩:=h
 exact⟨h.pw,h.si,h.nov,A,ns,h.inv⟩
theorem Hv.of_heap (h:Hv S w ge e) (hh:w'.heap=w.heap) (h1:w'.os=w.os) (h2:w'.tape=w.tape) (h3:w'.output=w.output):Hv S w' ge e:=
 h.kept (T:=fun _=>False) ⟨h1,h2,h3,by rw[hh];exact Ab _,fun k _=>by rw[hh]⟩ (fun _ _ _ h=>h)
end
abbrev ll:Ae:=[110,117,109]
def Ih:O0→Ae
 | .num _=>ll
 | .var _=>IY
 | .len _=>G2
 | .freq=>BX
def JL (v:O0):List Value:=[vs (Ih v),.int .i64 (D4 v)]
def DN:CK→Ae
 | .full _=>DT
 | .empty _=>CF
 | .warm _=>DS
 | .less _ _=>Eu
def JH:CK→List Value
 | .less a b=>JL a++JL b
 |_=>[vs [],.int .i64 0,vs [],.int .i64 0]
def EU (c:Da):List Value:=[vs (DN c.k),.int .i64 (BT c.k)]++JH c.k++[.int .i64 c.nots]
def Ge:List Value:=[vs [],.int .i64 0,vs [],.int .i64 0,vs [],.int .i64 0,.int .i64 0]
def G9 (p:D9):List Value:=[vs (ES p),.int .i64 (Mq p),.int .i64 (Ms p),.bool (FK p)]++Ge++[Bx,Bx,.bool false]
def Lc (c:Da) (vt:Value) (o:Bool) (ve:Value):List Value:=[vs Iw,.int .i64 0,.int .i64 0,.bool false]++EU c++[vt,ve,.bool o]
def JM (n:Int) (c:Da) (vt:Value):List Value:=[vs Bb,.int .i64 n,.int .i64 0,.bool false]++EU c++[vt,Bx,.bool false]
theorem YT (c:CK):(JH c).length=4:=by cases c<;>rfl
theorem QO (c:Da):(EU c).length=7:=by simp[EU,YT]
theorem Xt (p:D9):(G9 p).length=14:=rfl
theorem cy (c:Da) (vt:Value) (o:Bool) (ve:Value):(Lc c vt o ve).length=14:=by simp[Lc,QO]
theorem ZH (n:Int) (c:Da) (vt:Value):(JM n c vt).length=14:=by simp[JM,QO]
abbrev jW (N:Nat→Prop) (w:World) (v:Value) (n:Nat) (cs:List Value):Prop:=Sl N w 212 14 v n cs
def AW (N:Nat→Prop) (w:World):AC→List Value→Prop
 | .nil,cs=>cs=[]
 | .prim p r,cs=>∃rest,cs=G9 p++rest∧AW N w r rest
 | .ite c t o e r,cs=>∃vt ve rest,cs=Lc c vt o ve++rest∧(∃ct,jW N w vt t.length ct∧AW N w t ct)∧
   (if o then∃ce,jW N w ve e.length ce∧AW N w e ce else ve=Bx∧e= .nil)∧AW N w r rest
 | .rep n c b r,cs=>∃vt rest,cs=JM n c vt++rest∧(∃ct,jW N w vt b.length ct∧AW N w b ct)∧AW N w r rest
def C0 (N:Nat→Prop) (w:World) (v:Value) (b:AC):Prop:=∃cs,jW N w v b.length cs∧AW N w b cs
section
variable {N N':Nat→Prop} {w w':World}
theorem jW.kept_ {v:Value} {n:Nat} {cs:List Value} (h:jW N w v n cs) (hk:∀k cs,N k→AM w k 212 cs→w'.heap[k]?=w.heap[k]?):jW N w' v n cs:=by
 obtain⟨⟨h0,h1⟩,h2⟩:=h
 refine⟨⟨h0,?_⟩,h2⟩
 rcases h1 with h1|⟨g,cap,cur,rfl,hb,hg,h4⟩
 ·exact .inl h1
 ·exact .inr ⟨g,cap,cur,rfl,hb,(hk g cur.toList (h2 g rfl) (by unfold AM;simpa using hg)).trans hg,h4⟩
theorem jW.mono_ {v:Value} {n:Nat} {cs:List Value} (h:jW N w v n cs) (hN:∀k,k<w.heap.size→N k→N' k):jW N' w v n cs:=
 ⟨h.1,fun g hg=>hN g (h.lt hg) (h.2 g hg)⟩
theorem AW.kept (hk:∀k cs,N k→AM w k 212 cs→w'.heap[k]?=w.heap[k]?):∀(b:AC) (cs:List Value),AW N w b cs→AW N w' b cs
 | .nil,_,h=>h
 | .prim p r,cs,⟨rest,h1,h2⟩=>⟨rest,h1,AW.kept hk r rest h2⟩
 | .ite c t o e r,cs,⟨vt,ve,rest,h1,⟨ct,h2,h3⟩,h4,h5⟩=>⟨vt,ve,rest,h1,⟨ct,h2.kept_ hk,AW.kept hk t ct h3⟩,by
   cases o with
   |false=>exact h4
   |true=>
    obtain⟨ce,h6,h7⟩:=h4
    exact⟨ce,h6.kept_ hk,AW.kept hk e ce h7⟩,AW.kept hk r rest h5⟩
 | .rep n c b r,cs,⟨vt,rest,h1,⟨ct,h2,h3⟩,h5⟩=>⟨vt,rest,h1,⟨ct,h2.kept_ hk,AW.kept hk b ct h3⟩,AW.kept hk r rest h5⟩
theorem AW.mono (hN:∀k,k<w.heap.size→N k→N' k):∀(b:AC) (cs:List Value),AW N w b cs→AW N' w b cs
 | .nil,_,h=>h
 | .prim p r,cs,⟨rest,h1,h2⟩=>⟨rest,h1,AW.mono hN r rest h2⟩
 | .ite c t o e r,cs,⟨vt,ve,rest,h1,⟨ct,h2,h3⟩,h4,h5⟩=>⟨vt,ve,rest,h1,⟨ct,h2.mono_ hN,AW.mono hN t ct h3⟩,by
   cases o with
   |false=>exact h4
   |true=>
    obtain⟨ce,h6,h7⟩:=h4
    exact⟨ce,h6.mono_ hN,AW.mono hN e ce h7⟩,AW.mono hN r rest h5⟩
 | .rep n c b r,cs,⟨vt,rest,h1,⟨ct,h2,h3⟩,h5⟩=>⟨vt,rest,h1,⟨ct,h2.mono_ hN,AW.mono hN b ct h3⟩,AW.mono hN r rest h5⟩
theorem AW.len:∀(b:AC) (cs:List Value),AW N w b cs→cs.length=b.length*14
 | .nil,_,h=>by rw[show _=[]from h];rfl
 | .prim p r,cs,⟨rest,h1,h2⟩=>by rw[h1,Ao,Xt,AW.len r rest h2];simp[AC.length,KB,FC]
 | .ite c t o e r,cs,⟨vt,ve,rest,h1,_,_,h5⟩=>by rw[h1,Ao,cy,AW.len r rest h5];simp[AC.length,KB,FC]
 | .rep n c b r,cs,⟨vt,rest,h1,_,h5⟩=>by rw[h1,Ao,ZH,AW.len r rest h5];simp[AC.length,KB,FC]
theorem AW.app:∀(b:AC) (cs:List Value) (r:AC) (rs:List Value),AW N w b cs→AW N w r rs→AW N w (b.app r) (cs++rs)
 | .nil,_,r,rs,h,hr=>by rw[show _=[]from h];exact hr
 | .prim p x,cs,r,rs,⟨rest,h1,h2⟩,hr=>⟨rest++rs,by rw[h1,Al],AW.app x rest r rs h2 hr⟩
 | .ite c t o e x,cs,r,rs,⟨vt,ve,rest,h1,h2,h4,h5⟩,hr=>⟨vt,ve,rest++rs,by rw[h1,Al],h2,h4,AW.app x rest r rs h5 hr⟩
 | .rep n c b x,cs,r,rs,⟨vt,rest,h1,h2,h5⟩,hr=>⟨vt,rest++rs,by rw[h1,Al],h2,AW.app x rest r rs h5 hr⟩
theorem C0.kept {v:Value} {b:AC} (h:C0 N w v b) (hk:∀k cs,N k→AM w k 212 cs→w'.heap[k]?=w.heap[k]?):C0 N w' v b:=by
 obtain⟨cs,h1,h2⟩:=h
 exact⟨cs,h1.kept_ hk,AW.kept hk b cs h2⟩
theorem C0.mono {v:Value} {b:AC} (h:C0 N w v b) (hN:∀k,k<w.heap.size→N k→N' k):C0 N' w v b:=by
 obtain⟨cs,h1,h2⟩:=h
 exact⟨cs,h1.mono_ hN,AW.mono hN b cs h2⟩
end
end Go.Proofs.YtemppijblfflgaaGreatDoor.Ev
