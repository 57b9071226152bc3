/- Lemmas for a law's walk. Conditions: none. -/
import Derived.Recover
import Derived.Defers
import Derived.Outline
import Derived.Laws.Pointers
import Derived.Deep.RegionLaw
import Derived.Deep.RegionHeld3
import Derived.Test.YtepoejiigmhlbaaGreatDoorZc03
import Derived.Test.YtepoejiigmhlbaaGreatDoorZc07
import Derived.Test.YtepoejiigmhlbaaGreatDoorZc09
import Derived.Test.YtepoejiigmhlbaaGreatDoorZc10
import Derived.Test.YtepoejiigmhlbaaGreatDoorZc11
set_option linter.all false
namespace Go.Proofs.YtepoejiigmhlbaaGreatDoor.Ev
open Go Go.RowKit
section
variable {B:Nat} {ea:Nat→Addr} {w:World} {g gp bm:Nat} {vd wp:Value} {s:Bytes} {st:PS}
theorem decl_any (h:RdR B ea w g gp bm vd wp s st) (ok:st.Ok s) (hk:isDecl st.t.kind=true) (hdl:st.decls.length≤900):
  Calls Tryz.prog 37 #[.pointer (some ⟨g,0,none⟩)] w fun e w'=>OutD B ea w g gp bm s (decl s st) e w':=by
 simp only[isDecl,Bool.or_eq_true,beq_iff_eq]at hk
 rcases hk with((hk|hk)|hk)|hk
 ·exact decl_queue h ok hk hdl
 ·exact decl_ghost h ok hk hdl
 ·exact decl_var h ok hk hdl
 ·exact decl_freq h ok hk
end
end Go.Proofs.YtepoejiigmhlbaaGreatDoor.Ev
namespace Go.Proofs.YtepoejiigmhlbaaGreatDoor.Ev
open Go Go.RowKit
@[go_sem] theorem asFault (v:Value) (w:World):(Instr.typeAssert (.iface 54 v) 20 54 true).run Tryz.prog w= .ok (.tuple #[v,.bool true]) w:=by kernel_rfl
set_option maxRecDepth 100000 in
theorem catch_fault (P Q:Nat) (gf:Nat) (older:List PanicEntry) (w:World) (hp:w.cell? ⟨P,0,none⟩=some (.pointer none)) (hzp:w.frozen? ⟨P,0,none⟩=false) (hq:w.cell? ⟨Q,0,none⟩=some .nilIface) (hzq:w.frozen? ⟨Q,0,none⟩=false) (hpq:¬P=Q) (hqp:¬Q=P):
  CallsD Tryz.prog 35 #[.pointer (some ⟨P,0,none⟩),.pointer (some ⟨Q,0,none⟩)] (.panicking ({v:=.iface 54 (.pointer (some ⟨gf,0,none⟩)),recovered:=false}::older)) w fun e u' w'=>
   e= .returned (.tuple #[])∧u'= .panicking ({v:=.iface 54 (.pointer (some ⟨gf,0,none⟩)),recovered:=true}::older)∧
    w'=(w.setCell ⟨P,0,none⟩ (.pointer none)).setCell ⟨Q,0,none⟩ (.iface 54 (.pointer (some ⟨gf,0,none⟩))):=by
 refine callsD_of_wpS Tryz.func35 rfl fun c₀ cs hu=>?_
 have e0:(#[Value.pointer (some ⟨P,0,none⟩),.pointer (some ⟨Q,0,none⟩)]:Array Value)++Array.replicate (Tryz.f35.ntmps-(#[Value.pointer (some ⟨P,0,none⟩),.pointer (some ⟨Q,0,none⟩)]:Array Value).size) undef=#[.pointer (some ⟨P,0,none⟩),.pointer (some ⟨Q,0,none⟩),undef,undef,undef,undef,undef,undef,undef,undef,undef,undef,undef]:=by kernel_rfl
 rw[e0]
 apply wpS_seq
 apply wpS_region
 simp[wpOpsS,go_sem,recoverD,hu,Exit.thenS]
 refine wpS_of_wp ?_
 go_wp2
 cases c₀
 simp_all [bodyPostS,results,Tryz.results35]
set_option maxRecDepth 100000 in
theorem catch_none (P Q:Nat) (w:World):
  CallsD Tryz.prog 35 #[.pointer (some ⟨P,0,none⟩),.pointer (some ⟨Q,0,none⟩)] .returning w fun e u' w'=>e= .returned (.tuple #[])∧u'= .returning∧w'=w:=by
 refine callsD_of_wpS Tryz.func35 rfl fun c₀ cs hu=>?_
 have e0:(#[Value.pointer (some ⟨P,0,none⟩),.pointer (some ⟨Q,0,none⟩)]:Array Value)++Array.replicate (Tryz.f35.ntmps-(#[Value.pointer (some ⟨P,0,none⟩),.pointer (some ⟨Q,0,none⟩)]:Array Value).size) undef=#[.pointer (some ⟨P,0,none⟩),.pointer (some ⟨Q,0,none⟩),undef,undef,undef,undef,undef,undef,undef,undef,undef,undef,undef]:=by kernel_rfl
 rw[e0]
 apply wpS_seq
 apply wpS_region
 simp[wpOpsS,go_sem,recoverD,hu,Exit.thenS]
 refine wpS_of_wp ?_
 go_wp2
 cases c₀
 simp_all [bodyPostS,results,Tryz.results35]
theorem results_read {tmps:Array Value} {w:World} {P Q:Nat} {a b:Value} (h2:tmps[2]?=some (.pointer (some ⟨P,0,none⟩))) (h3:tmps[3]?=some (.pointer (some ⟨Q,0,none⟩)))
  (hp:w.cell? ⟨P,0,none⟩=some a) (hq:w.cell? ⟨Q,0,none⟩=some b):(results Tryz.f19 tmps).run Tryz.prog w= .ok (.tuple #[a,b]) w:=by
 simp[results,Tryz.results19,go_sem,h2,h3,hp,hq]
theorem read_leaves_fault {R:Ending→World→Prop} {tmps:Array Value} {w:World} {P Q gf:Nat} (h2:tmps[2]?=some (.pointer (some ⟨P,0,none⟩))) (h3:tmps[3]?=some (.pointer (some ⟨Q,0,none⟩)))
  (hp:w.cell? ⟨P,0,none⟩=some (.pointer none)) (hzp:w.frozen? ⟨P,0,none⟩=false) (hq:w.cell? ⟨Q,0,none⟩=some .nilIface) (hzq:w.frozen? ⟨Q,0,none⟩=false) (hpq:¬P=Q)
  (h:R (.returned (.tuple #[.pointer none,.iface 54 (.pointer (some ⟨gf,0,none⟩))])) ((w.setCell ⟨P,0,none⟩ (.pointer none)).setCell ⟨Q,0,none⟩ (.iface 54 (.pointer (some ⟨gf,0,none⟩))))):
  Leaves Tryz.prog Tryz.f19 tmps R [{target:=.fn (.func 35) #[.pointer (some ⟨P,0,none⟩),.pointer (some ⟨Q,0,none⟩)],args:=#[]}]
   (.panicking [{v:=.iface 54 (.pointer (some ⟨gf,0,none⟩)),recovered:=false}]) w:=by
 have hqp:¬Q=P:=fun e=>hpq e.symm
 refine leaves_cons (f:=35) (args:=#[.pointer (some ⟨P,0,none⟩),.pointer (some ⟨Q,0,none⟩)]) (by simp) (by simp[go_sem]) ?_
 refine(catch_fault P Q gf [] w hp hzp hq hzq hpq hqp).mono ?_
 rintro e u' w' ⟨rfl,rfl,rfl⟩
 have hr:=results_read (a:=.pointer none) (b:=.iface 54 (.pointer (some ⟨gf,0,none⟩))) (w:=(w.setCell ⟨P,0,none⟩ (.pointer none)).setCell ⟨Q,0,none⟩ (.iface 54 (.pointer (some ⟨gf,0,none⟩)))) h2 h3 (by simp[go_sem,hp,hq,hpq,hqp]) (by simp[go_sem,hp,hq,hpq,hqp])
 exact⟨_,hr,h⟩
theorem read_leaves_ret {R:Ending→World→Prop} {tmps:Array Value} {w:World} {P Q:Nat} {a b:Value} (h2:tmps[2]?=some (.pointer (some ⟨P,0,none⟩))) (h3:tmps[3]?=some (.pointer (some ⟨Q,0,none⟩)))
  (hp:w.cell? ⟨P,0,none⟩=some a) (hq:w.cell? ⟨Q,0,none⟩=some b) (h:R (.returned (.tuple #[a,b])) w):
  Leaves Tryz.prog Tryz.f19 tmps R [{target:=.fn (.func 35) #[.pointer (some ⟨P,0,none⟩),.pointer (some ⟨Q,0,none⟩)],args:=#[]}] .returning w:=by
 refine leaves_cons (f:=35) (args:=#[.pointer (some ⟨P,0,none⟩),.pointer (some ⟨Q,0,none⟩)]) (by simp) (by simp[go_sem]) ?_
 refine(catch_none P Q w).mono ?_
 rintro e u' w' ⟨rfl,rfl,rfl⟩
 exact⟨_,results_read h2 h3 hp hq,h⟩
end Go.Proofs.YtepoejiigmhlbaaGreatDoor.Ev
namespace Go.Proofs.YtepoejiigmhlbaaGreatDoor.Ev
open Go Go.RowKit
def OutRead (ea:Nat→Addr) (w:World) (s:Bytes) (e:Ending) (w':World):Prop:=
 Kept (fun b=>w.heap.size≤b) w w'∧match read s with
  | .error (k,pos)=>∃gf,e= .returned (.tuple #[.pointer none,.iface 54 (.pointer (some ⟨gf,0,none⟩))])∧Row w' gf 59 [errV ea k,.int .i64 pos]∧w.heap.size≤gf
  | .ok p=>∃gp bm vd,e= .returned (.tuple #[.pointer (some ⟨gp,0,none⟩),.nilIface])∧PolR w.heap.size w' gp bm vd p
section
variable {B:Nat} {ea:Nat→Addr} {w:World} {s:Bytes}
set_option maxRecDepth 100000 in
set_option maxHeartbeats 1000000 in
theorem read_long (h:Env B ea w) (hl:700<s.length):
  Calls Tryz.prog 19 #[vs s] w fun e w'=>OutRead ea w s e w':=by
 have herr:w.cell? ⟨0,0,none⟩=some (.iface 307 (.pointer (some (ea 1)))):=h.err 1 (by omega) (by omega)
 have hgl:0<w.heap.size:=Nat.lt_of_lt_of_le (h.lt 1 (by omega) (by omega)) h.size
 have h1:decide ((s.length:Int)>700)=true:=by simp;omega
 have hr:read s= .error (eLong,0):=by unfold read;rw[if_pos hl]
 have hmf:∀(fn:Fn) (first cap:Array Value) (w:World),(Instr.makeFunc fn first cap).run Tryz.prog w= .ok (.func fn first cap) w:=fun _ _ _ _=>rfl
 have HR:=Lib.hid hr
 clear hr h
 unfold vs at*
 go_enter_defers Tryz.func19,Tryz.ntmps19
 go_wp2_with fail
 go_region
 all_goals go_wp2
 all_goals
  refine⟨_,by simp[results,Tryz.results19,go_sem];rfl,?_⟩
  unfold OutRead
  rw[HR.out]
  have hro:=Row.new ((w.alloc (.cells #[.pointer none] 49)).alloc (.cells #[.iface 54 (.pointer (some ⟨w.heap.size+1+1,0,none⟩))] 51)) 59 [errV ea 1,.int .i64 0]
  have e2:((w.alloc (.cells #[.pointer none] 49)).alloc (.cells #[.iface 54 (.pointer (some ⟨w.heap.size+1+1,0,none⟩))] 51)).heap.size=w.heap.size+1+1:=by simp
  rw[e2]at hro
  exact⟨((((Kept.refl _ w).alloc (Nat.le_refl _) _).alloc (by simp) _).alloc (by rw[e2];omega) _).drew,_,rfl,hro.drew,by omega⟩
def st00:PS:=⟨⟨[],[],0⟩,0,[],0,false,[],0,0,none⟩
theorem next_st00 (s:Bytes):next s st00=start s:=rfl
abbrev wNamed (w:World):World:=(w.alloc (.cells #[.pointer none] 49)).alloc (.cells #[.nilIface] 51)
abbrev wMade (w:World) (s:Bytes):World:=(((wNamed w).alloc (.map #[] 0)).alloc (.cells #[.slice none 0 0,.int .i64 0,.map (some (w.heap.size+1+1))] 63)).alloc
 (.cells #[vs s,.int .i64 0,vs [],vs [],.int .i64 0,.pointer (some ⟨w.heap.size+1+1+1,0,none⟩),.bool false,.int .i64 0,.int .i64 0,.pointer none] 103)
theorem start_rd (h:Env B ea w) (hl:s.length≤700):RdR (w.heap.size+1+1) ea (wMade w s) (w.heap.size+1+1+1+1) (w.heap.size+1+1+1) (w.heap.size+1+1) (.slice none 0 0) (.pointer none) s st00:=by
 have e1:(wNamed w).heap.size=w.heap.size+1+1:=by simp
 have e2:((wNamed w).alloc (.map #[] 0)).heap.size=w.heap.size+1+1+1:=by simp
 have e3:(((wNamed w).alloc (.map #[] 0)).alloc (.cells #[.slice none 0 0,.int .i64 0,.map (some (w.heap.size+1+1))] 63)).heap.size=w.heap.size+1+1+1+1:=by simp
 have hk:Kept (fun b=>w.heap.size≤b) w (wMade w s):=(((((Kept.refl _ w).alloc (Nat.le_refl _) _).alloc (by simp) _).alloc (by rw[e1];omega) _).alloc (by rw[e2];omega) _).alloc (by rw[e3];omega) _
 have hE:=h.kept hk (fun b hb=>Nat.le_trans h.size hb)
 have hm:=IsMap.new (wNamed w) .i64
 have hp:=Row.new ((wNamed w).alloc (.map #[] 0)) 63 [.slice none 0 0,.int .i64 0,.map (some (w.heap.size+1+1))]
 have hr:=Row.new (((wNamed w).alloc (.map #[] 0)).alloc (.cells #[.slice none 0 0,.int .i64 0,.map (some (w.heap.size+1+1))] 63)) 103 [vs s,.int .i64 0,vs [],vs [],.int .i64 0,.pointer (some ⟨w.heap.size+1+1+1,0,none⟩),.bool false,.int .i64 0,.int .i64 0,.pointer none]
 rw[e1]at hm
 rw[e2]at hp
 rw[e3]at hr
 have hsz:w.heap.size+1+1≤(wMade w s).heap.size:=by simp
 refine⟨⟨hsz,hE.err,fun k h1 h2=>Nat.lt_of_lt_of_le (h.lt k h1 h2) (Nat.le_trans h.size (by omega)),hE.kw,Nat.lt_of_lt_of_le h.kwlt (Nat.le_trans h.size (by omega))⟩,hr,hp.alloc _,⟨World.ownsRow_nil _ _ _ _,fun b hb=>by cases hb⟩,⟨[],(hm.alloc _).alloc _,rfl,fun i x y hx=>by simp at hx⟩,rfl,by omega,by omega,by omega,Nat.zero_le _,hl,Nat.zero_le _⟩
theorem number_decls {least most n:Int} {st st':PS} (e:number s least most st= .ok n st'):st'.decls=st.decls:=by
 unfold number at e
 obtain⟨t,st1,e1,e2⟩:=bind_ok e
 obtain⟨_,_,rfl⟩:=want_ok e1
 injection e2 with _ e2
 subst e2
 split
 ·exact(note_parts (s:=[]) eNumber _ _).1
 ·rfl
theorem decl_len {st st2:PS} {u:Unit} (hd:decl s st= .ok u st2):st2.decls.length≤st.decls.length+1:=by
 by_cases hk:st.t.kind=kFreq
 ·unfold decl at hd
  simp only at hd
  rw[if_pos hk]at hd
  obtain⟨n,st1,e1,e2⟩:=bind_ok hd
  obtain⟨t,st3,e3,e4⟩:=bind_ok e2
  injection e4 with _ e4
  subst e4
  obtain⟨_,_,rfl⟩:=want_ok e3
  have h1:=number_decls e1
  show st1.decls.length≤_
  rw[h1]
  show(if _ then _ else _:PS).decls.length≤_
  split
  ·rw[(note_parts (s:=[]) eTwice _ _).1];exact Nat.le_succ _
  ·exact Nat.le_succ _
 ·rw[decl_eq s st hk]at hd
  obtain⟨n,st1,e1,e2⟩:=bind_ok hd
  obtain⟨m,st3,e3,e4⟩:=bind_ok e2
  obtain⟨t,st4,e5,e6⟩:=bind_ok e4
  injection e6 with _ e6
  subst e6
  obtain⟨_,_,rfl⟩:=want_ok e5
  obtain⟨_,_,rfl⟩:=want_ok e1
  have h1:=number_decls e3
  rw[(declNote_same _ _).1]at h1
  show(st3.decls++[_]).length≤_
  rw[h1]
  simp[next]
structure ReadL (B:Nat) (ea:Nat→Addr) (g gp bm:Nat) (s:Bytes) (w0:World) (st:PS) (w:World):Prop where
 rd:∃vd wp,RdR B ea w g gp bm vd wp s st
 mid:Mid s st
 kept:Kept (fun b=>B≤b) w0 w
theorem named_p (w:World):(wNamed w).cell? ⟨w.heap.size,0,none⟩=some (.pointer none)∧(wNamed w).frozen? ⟨w.heap.size,0,none⟩=false∧(wNamed w).cell? ⟨w.heap.size+1,0,none⟩=some .nilIface∧(wNamed w).frozen? ⟨w.heap.size+1,0,none⟩=false:=by
 have r1:=(Row.new w 49 [.pointer none]).alloc (.cells #[.nilIface] 51)
 have r2:=Row.new (w.alloc (.cells #[.pointer none] 49)) 51 [.nilIface]
 have e:(w.alloc (.cells #[.pointer none] 49)).heap.size=w.heap.size+1:=by simp
 rw[e]at r2
 exact⟨r1.cell 0,r1.frozen 0,r2.cell 0,r2.frozen 0⟩
theorem named_kept {w w1:World} (hk:Kept (fun b=>w.heap.size+1+1≤b) (wNamed w) w1):w1.cell? ⟨w.heap.size,0,none⟩=some (.pointer none)∧w1.frozen? ⟨w.heap.size,0,none⟩=false∧w1.cell? ⟨w.heap.size+1,0,none⟩=some .nilIface∧w1.frozen? ⟨w.heap.size+1,0,none⟩=false:=by
 obtain⟨a,b,c,d⟩:=named_p w
 have n1:¬(w.heap.size+1+1≤w.heap.size):=by omega
 have n2:¬(w.heap.size+1+1≤w.heap.size+1):=by omega
 exact⟨(hk.cell (p:=⟨w.heap.size,0,none⟩) n1).trans a,(hk.frozen (p:=⟨w.heap.size,0,none⟩) n1).trans b,(hk.cell (p:=⟨w.heap.size+1,0,none⟩) n2).trans c,(hk.frozen (p:=⟨w.heap.size+1,0,none⟩) n2).trans d⟩
theorem named_set {w w1:World} {a b:Value} (hk:Kept (fun b=>w.heap.size+1+1≤b) (wNamed w) w1):Kept (fun b=>w.heap.size≤b) w ((w1.setCell ⟨w.heap.size,0,none⟩ a).setCell ⟨w.heap.size+1,0,none⟩ b):=by
 have k0:Kept (fun b=>w.heap.size≤b) w (wNamed w):=((Kept.refl _ w).alloc (Nat.le_refl _) _).alloc (by simp) _
 have k1:Kept (fun b=>w.heap.size≤b) w w1:=k0.trans (hk.mono (fun b (hb:w.heap.size+1+1≤b)=>by omega))
 exact(k1.setCell (p:=⟨w.heap.size,0,none⟩) (Nat.le_refl _) a).setCell (p:=⟨w.heap.size+1,0,none⟩) (Nat.le_succ _) b
theorem fault_end {w w1 w2:World} {gf k pos:Nat} (hk:Kept (fun b=>w.heap.size+1+1≤b) (wNamed w) w1) (hF:Kept (fun b=>w.heap.size+1+1≤b) w1 w2) (hr:Row w2 gf 59 [errV ea k,.int .i64 pos]) (hg:w.heap.size+1+1≤gf) (he:read s= .error (k,pos)) (a b:Value):
  OutRead ea w s (.returned (.tuple #[.pointer none,.iface 54 (.pointer (some ⟨gf,0,none⟩))])) ((w2.setCell ⟨w.heap.size,0,none⟩ a).setCell ⟨w.heap.size+1,0,none⟩ b):=by
 unfold OutRead
 rw[he]
 exact⟨named_set (hk.trans hF),gf,rfl,(hr.far (by omega:gf≠w.heap.size) a).far (by omega:gf≠w.heap.size+1) b,by omega⟩
theorem RulesR.mono {N N':Nat→Prop} {w:World} {bm:Nat} {rules:List (Int×Blk)} (h:RulesR N w bm rules) (hn:∀b,N b→N' b):RulesR N' w bm rules:=by
 obtain⟨M,h1,h2,h3⟩:=h
 refine⟨M,h1,h2,fun i x y hx hy=>?_⟩
 obtain⟨cs,⟨⟨ha,hb⟩,hc⟩,h4⟩:=h3 i x y hx hy
 exact⟨cs,⟨⟨ha,fun g hg=>hn g (hb g hg)⟩,hc⟩,StmtsR.mono (fun k _ hk=>hn k hk) _ _ h4⟩
theorem ok_end {w w3:World} {g gp bm:Nat} {vd wp:Value} {st3:PS} (hk:Kept (fun b=>w.heap.size+1+1≤b) (wNamed w) w3) (h3:RdR (w.heap.size+1+1) ea w3 g gp bm vd wp s st3) (he:read s= .ok ⟨st3.decls,st3.freq,st3.rules⟩) (a b:Value):
  OutRead ea w s (.returned (.tuple #[.pointer (some ⟨gp,0,none⟩),.nilIface])) ((w3.setCell ⟨w.heap.size,0,none⟩ a).setCell ⟨w.heap.size+1,0,none⟩ b):=by
 unfold OutRead
 rw[he]
 have k:Kept (fun b=>b=w.heap.size∨b=w.heap.size+1) w3 ((w3.setCell ⟨w.heap.size,0,none⟩ a).setCell ⟨w.heap.size+1,0,none⟩ b):=((Kept.refl _ w3).setCell (p:=⟨w.heap.size,0,none⟩) (.inl rfl) a).setCell (p:=⟨w.heap.size+1,0,none⟩) (.inr rfl) b
 have far:∀b,w.heap.size+1+1≤b→¬(b=w.heap.size∨b=w.heap.size+1):=fun b hb=>by omega
 refine⟨named_set hk,gp,bm,vd,rfl,h3.pol.kept k (far _ h3.gp0),?_,?_,Nat.le_trans (by omega) h3.gp0,Nat.le_trans (by omega) h3.bm0⟩
 ·have hs:=h3.decls.kept k (fun b hb=>far b (h3.decls.2 b hb).1)
  exact⟨hs.1,fun b hb=>Nat.le_trans (by omega) (hs.2 b hb).1⟩
 ·exact(h3.rules.kept (k.block bm (far _ h3.bm0)) (fun b cs hb _=>k.block b (far _ hb.1))).mono (fun b hb=>Nat.le_trans (by omega) hb.1)
theorem fault_drew {w w1 w2:World} {gf k pos:Nat} (hk:Kept (fun b=>w.heap.size+1+1≤b) (wNamed w) w1) (hF:Kept (fun b=>w.heap.size+1+1≤b) w1 w2) (hr:Row w2 gf 59 [errV ea k,.int .i64 pos]) (hg:w.heap.size+1+1≤gf) (he:read s= .error (k,pos)) (a b:Value):
  OutRead ea w s (.returned (.tuple #[.pointer none,.iface 54 (.pointer (some ⟨gf,0,none⟩))])) (((w2.setCell ⟨w.heap.size,0,none⟩ a).setCell ⟨w.heap.size+1,0,none⟩ b).drew):=by
 unfold OutRead
 rw[he]
 exact⟨(named_set (hk.trans hF)).drew,gf,rfl,((hr.far (by omega:gf≠w.heap.size) a).far (by omega:gf≠w.heap.size+1) b).drew,by omega⟩
theorem miss_end {w w3:World} (hk:Kept (fun b=>w.heap.size+1+1≤b) (wNamed w) w3) (he:read s= .error (eMiss,0)) (a b:Value):
  OutRead ea w s (.returned (.tuple #[.pointer none,.iface 54 (.pointer (some ⟨w3.heap.size,0,none⟩))])) ((((w3.setCell ⟨w.heap.size,0,none⟩ a).setCell ⟨w.heap.size+1,0,none⟩ b).alloc (.cells #[errV ea eMiss,.int .i64 0] 59)).drew):=by
 unfold OutRead
 rw[he]
 have hs:((w3.setCell ⟨w.heap.size,0,none⟩ a).setCell ⟨w.heap.size+1,0,none⟩ b).heap.size=w3.heap.size:=by simp
 have hr:=Row.new ((w3.setCell ⟨w.heap.size,0,none⟩ a).setCell ⟨w.heap.size+1,0,none⟩ b) 59 [errV ea eMiss,.int .i64 0]
 rw[hs]at hr
 have h0:w.heap.size≤w3.heap.size:=Nat.le_trans (by simp;omega) hk.size
 exact⟨((named_set hk).alloc (by rw[hs];exact h0) _).drew,w3.heap.size,rfl,hr.drew,h0⟩
theorem declsR_step {st st2:PS} {n:Nat} (e1:declsR s 702 (start s)=declsR s (n+1) st) (hk:isDecl st.t.kind=true) (hd:decl s st= .ok () st2):declsR s 702 (start s)=declsR s n st2:=by
 rw[e1,declsR,if_pos hk,hd]
 rfl
theorem declsR_end {st:PS} {n:Nat} (e1:declsR s 702 (start s)=declsR s (n+1) st) (hk:¬isDecl st.t.kind=true):declsR s 702 (start s)= .ok () st:=by
 rw[e1,declsR,if_neg hk]
theorem rulesR_step {m:Nat} {st0 st st2:PS} {n:Nat} (e1:rulesR s m 702 st0=rulesR s m (n+1) st) (hk:st.t.kind=kOn) (hd:rule s m st= .ok () st2):rulesR s m 702 st0=rulesR s m n st2:=by
 rw[e1,rulesR,if_pos hk,hd]
 rfl
theorem rulesR_end {m:Nat} {st0 st:PS} {n:Nat} (e1:rulesR s m 702 st0=rulesR s m (n+1) st) (hk:st.t.kind≠kOn):rulesR s m 702 st0= .ok () st:=by
 rw[e1,rulesR,if_neg hk]
theorem readAll_of {st0:PS} (e0:declsR s 702 (start s)= .ok () st0):readAll s=(rulesR s 1500 702 st0).bind fun _ st=>want s kEnd st:=by
 unfold readAll
 rw[e0]
 rfl
theorem read_all (hl:s.length≤700):read s=match readAll s with
  | .bad e p=>.error (e,p)
  | .ok _ st=>match st.wrong with
   |some x=>.error x
   |none=>if(missOf st.rules).isNone then .error (eMiss,0)else .ok ⟨st.decls,st.freq,st.rules⟩:=by
 unfold read
 rw[if_neg (by omega)]
 cases readAll s<;>rfl
theorem rulesR_bad {st0 st:PS} {n k pos:Nat} (e0:declsR s 702 (start s)= .ok () st0) (e1:rulesR s 1500 702 st0=rulesR s 1500 (n+1) st) (hk:st.t.kind=kOn) (hd:rule s 1500 st= .bad k pos) (hl:s.length≤700):read s= .error (k,pos):=by
 rw[read_all hl,readAll_of e0,e1,rulesR,if_pos hk,hd]
 rfl
theorem read_of {st0 st:PS} (e0:declsR s 702 (start s)= .ok () st0) (e1:rulesR s 1500 702 st0= .ok () st) (hl:s.length≤700):read s=match want s kEnd st with
  | .bad e p=>.error (e,p)
  | .ok _ st=>match st.wrong with
   |some x=>.error x
   |none=>if(missOf st.rules).isNone then .error (eMiss,0)else .ok ⟨st.decls,st.freq,st.rules⟩:=by
 rw[read_all hl,readAll_of e0,e1]
 rfl
theorem declsR_bad {st:PS} {n k pos:Nat} (e1:declsR s 702 (start s)=declsR s (n+1) st) (hk:isDecl st.t.kind=true) (hd:decl s st= .bad k pos) (hl:s.length≤700):read s= .error (k,pos):=by
 unfold read readAll
 rw[if_neg (by omega),e1]
 rw[declsR,if_pos hk,hd]
 rfl
set_option maxRecDepth 100000 in
set_option maxHeartbeats 4000000 in
theorem read_rest (h:Env B ea w) (hl:s.length≤700):
  Calls Tryz.prog 19 #[vs s] w fun e w'=>OutRead ea w s e w':=by
 have h1:decide ((s.length:Int)>700)=false:=by simp;omega
 have hmf:∀(fn:Fn) (first cap:Array Value) (w:World),(Instr.makeFunc fn first cap).run Tryz.prog w= .ok (.func fn first cap) w:=fun _ _ _ _=>rfl
 have hmm:=@run_makeMap Tryz.prog
 have hnn:∀w,(binOp .eql 105 (.slice none 0 0) (.slice none 0 0)).run Tryz.prog w= .ok (.bool true) w:=fun _=>rfl
 have hns:∀(a:Addr) (n c:Nat) w,(binOp .eql 105 (.slice (some a) n c) (.slice none 0 0)).run Tryz.prog w= .ok (.bool false) w:=fun _ _ _ _=>rfl
 have hst:=start_rd (s:=s) h hl
 have hnx:=next_all hst
 rw[next_st00]at hnx
 have HS:=Lib.hid hst
 have HN:=Lib.hid hnx
 have HE:=Lib.hid h
 have HL:=Lib.hid hl
 clear hst hnx h
 unfold wMade wNamed vs at*
 go_enter_defers Tryz.func19,Tryz.ntmps19
 go_wp2_with fail
 refine HN.out.mono ?_
 rintro e w1 ⟨rfl,hk1,h1⟩
 have hR0:ReadL (w.heap.size+1+1) ea (w.heap.size+1+1+1+1) (w.heap.size+1+1+1) (w.heap.size+1+1) s (wNamed w) (start s) w1:=by
  refine⟨⟨_,_,h1⟩,start_mid s HL.out,Kept.trans ?_ (hk1.mono ?_)⟩
  ·exact(((Kept.refl _ (wNamed w)).alloc (by simp) _).alloc (by simp) _).alloc (by simp) _
  ·rintro b (rfl|hb)
   ·omega
   ·have:=HS.out.env.size;omega
 have HR0:=Lib.hid hR0
 clear hk1 h1 hR0
 go_wp2_with fail
 go_loopg [] 702 (fun kk wr=>∃st,ReadL (w.heap.size+1+1) ea (w.heap.size+1+1+1+1) (w.heap.size+1+1+1) (w.heap.size+1+1) s (wNamed w) st wr∧st.rules=[]∧st.decls.length+kk≤702∧left s st<kk∧declsR s 702 (start s)=declsR s kk st)
 case atStart=>exact⟨_,HR0.out,rfl,Nat.le_refl _,by unfold left start;simp;omega,rfl⟩
 case round=>
  obtain⟨st,hL,hru,hdl,hlf,heq⟩:=hrel
  obtain⟨vd,wp,hrd⟩:=hL.rd
  obtain⟨_,_,c2,_⟩:=rd_cell hrd.row
  obtain⟨k',hk'⟩:∃x,gk=x+1:=⟨gk-1,by omega⟩
  rw[hk']at hdl hlf heq
  have HRD:=Lib.hid hrd
  have HLL:=Lib.hid hL
  have HRU:=Lib.hid hru
  have HDL:=Lib.hid hdl
  have HLF:=Lib.hid hlf
  have HEQ:=Lib.hid heq
  clear hrd hL hru hdl hlf heq
  unfold vs at*
  by_cases hkd:isDecl st.t.kind=true
  ·have hkd':=hkd
   simp only[isDecl,Bool.or_eq_true,beq_iff_eq]at hkd'
   have HKD:=Lib.hid hkd
   clear hkd
   rcases hkd' with((hk|hk)|hk)|hk
   all_goals
    rw[hk]at c2
    clear hk
    go_wp2_with fail
    refine(decl_any HRD.out HLL.out.mid.ok HKD.out (by have:=HDL.out;omega)).mono ?_
    rintro e w2 ho
    cases hx:decl s st with
    |bad k pos=>
     rw[hx]at ho
     obtain⟨gf,rfl,hF,hFr,hFg⟩:=ho
     have he:=declsR_bad (n:=k') HEQ.out HKD.out hx HL.out
     have hn:=named_kept (HLL.out.kept.trans hF)
     have F:=Lib.hid (And.intro hn (fault_end (HLL.out.kept) hF hFr hFg he (.pointer none) (.iface 54 (.pointer (some ⟨gf,0,none⟩)))))
     clear hF hFr hFg he hn hx
     go_wp2
     exact read_leaves_fault rfl rfl F.out.1.1 F.out.1.2.1 F.out.1.2.2.1 F.out.1.2.2.2 (by omega) F.out.2
    |ok u st2=>
     rw[hx]at ho
     obtain⟨rfl,hk2,vd2,wp2,h2⟩:=ho
     obtain⟨m2,r2,l2⟩:=decl_mid HLL.out.mid HKD.out HRU.out hx
     have F:=Lib.hid (And.intro (And.intro hk2 h2) (And.intro hx (And.intro m2 (And.intro r2 l2))))
     clear hk2 h2 m2 r2 l2 hx
     go_wp2_with fail
     go_roundg k'
     case measure=>omega
     case rel=>exact⟨st2,⟨⟨_,_,F.out.1.2⟩,F.out.2.2.1,HLL.out.kept.trans F.out.1.1⟩,F.out.2.2.2.1,by have:=HDL.out;have:=decl_len F.out.2.1;omega,by have:=F.out.2.2.2.2;have:=HLF.out;omega,declsR_step HEQ.out HKD.out F.out.2.1⟩
  ·have he1:=declsR_end HEQ.out hkd
   have n1:(st.t.kind==kQueue)=false:=by rw[Bool.eq_false_iff];intro e;exact hkd (by simp only[isDecl,e,Bool.true_or])
   have n2:(st.t.kind==kGhost)=false:=by rw[Bool.eq_false_iff];intro e;exact hkd (by simp only[isDecl,e,Bool.true_or,Bool.or_true])
   have n3:(st.t.kind==kVar)=false:=by rw[Bool.eq_false_iff];intro e;exact hkd (by simp only[isDecl,e,Bool.true_or,Bool.or_true])
   have n4:(st.t.kind==kFreq)=false:=by rw[Bool.eq_false_iff];intro e;exact hkd (by simp only[isDecl,e,Bool.true_or,Bool.or_true])
   have HE1:=Lib.hid he1
   clear hkd he1
   go_wp2_with fail
   go_loopg [] 702 (fun kk wr=>∃st',ReadL (w.heap.size+1+1) ea (w.heap.size+1+1+1+1) (w.heap.size+1+1+1) (w.heap.size+1+1) s (wNamed w) st' wr∧left s st'<kk∧rulesR s 1500 702 st=rulesR s 1500 kk st')
   case atStart=>exact⟨st,HLL.out,by have:=HLF.out;have:=HDL.out;omega,rfl⟩
   case round=>
    obtain⟨st',hL,hlf,heq⟩:=hrel
    obtain⟨vd',wp',hrd⟩:=hL.rd
    obtain⟨_,_,c2,_⟩:=rd_cell hrd.row
    obtain⟨k1,hk1⟩:∃x,gk=x+1:=⟨gk-1,by omega⟩
    rw[hk1]at hlf heq
    have HRD2:=Lib.hid hrd
    have HL2:=Lib.hid hL
    have HLF2:=Lib.hid hlf
    have HEQ2:=Lib.hid heq
    clear hrd hL hlf heq
    unfold vs at*
    by_cases hk:st'.t.kind=kOn
    ·have HK:=Lib.hid hk
     rw[hk]at c2
     clear hk
     go_wp2_with fail
     refine(rule_any HRD2.out HL2.out.mid.ok HL2.out.mid.depth HL2.out.mid.loops HK.out (n:=1500) (by have:=HL.out;unfold left;omega)).mono ?_
     rintro e w2 ho
     cases hx:rule s 1500 st' with
     |bad k pos=>
      rw[hx]at ho
      obtain⟨gf,rfl,hF,hFr,hFg⟩:=ho
      have he:=rulesR_bad HE1.out HEQ2.out HK.out hx HL.out
      have hn:=named_kept (HL2.out.kept.trans hF)
      have F:=Lib.hid (And.intro hn (fault_end (HL2.out.kept) hF hFr hFg he (.pointer none) (.iface 54 (.pointer (some ⟨gf,0,none⟩)))))
      clear hF hFr hFg he hn hx
      go_wp2
      exact read_leaves_fault rfl rfl F.out.1.1 F.out.1.2.1 F.out.1.2.2.1 F.out.1.2.2.2 (by omega) F.out.2
     |ok u st2=>
      rw[hx]at ho
      obtain⟨rfl,hk2,vd2,wp2,h2⟩:=ho
      obtain⟨m2,l2,_⟩:=rule_mid HL2.out.mid HK.out hx
      have F:=Lib.hid (And.intro (And.intro hk2 h2) (And.intro hx (And.intro m2 l2)))
      clear hk2 h2 m2 l2 hx
      go_wp2_with fail
      go_roundg k1
      case measure=>omega
      case rel=>exact⟨st2,⟨⟨_,_,F.out.1.2⟩,F.out.2.2.1,HL2.out.kept.trans F.out.1.1⟩,by have:=F.out.2.2.2;have:=HLF2.out;omega,rulesR_step HEQ2.out HK.out F.out.2.1⟩
    ·have he2:=rulesR_end HEQ2.out hk
     have n1':(st'.t.kind==kOn)=false:=by simpa using hk
     have hrdof:=read_of HE1.out he2 HL.out
     have hw:=want_any HRD2.out kEnd
     have HRO:=Lib.hid hrdof
     have HW:=Lib.hid hw
     clear hk he2 hrdof hw
     unfold vs at*
     go_wp2_with fail
     refine HW.out.mono ?_
     rintro e w3 ho
     cases hxw:want s kEnd st' with
     |bad k pos=>
      rw[hxw]at ho
      obtain⟨gf,rfl,hF,hFr,hFg⟩:=ho
      have he:read s= .error (k,pos):=by rw[HRO.out,hxw]
      have hn:=named_kept (HL2.out.kept.trans hF)
      have F:=Lib.hid (And.intro hn (fault_end (HL2.out.kept) hF hFr hFg he (.pointer none) (.iface 54 (.pointer (some ⟨gf,0,none⟩)))))
      clear hF hFr hFg he hn hxw
      go_wp2
      exact read_leaves_fault rfl rfl F.out.1.1 F.out.1.2.1 F.out.1.2.2.1 F.out.1.2.2.2 (by omega) F.out.2
     |ok tw st3=>
      rw[hxw]at ho
      obtain⟨v,rfl,rfl,hk3,vd3,wp3,h3⟩:=ho
      have hB2:=HRD2.out.env.size
      have k3:Kept (fun b=>w.heap.size+1+1≤b) (wNamed w) w3:=HL2.out.kept.trans (kg_kept HRD2.out.env.size HRD2.out.g0 hk3)
      have hro:read s=match st3.wrong with
       |some x=>.error x
       |none=>if(missOf st3.rules).isNone then .error (eMiss,0)else .ok ⟨st3.decls,st3.freq,st3.rules⟩:=by rw[HRO.out,hxw]
      obtain⟨_,_,_,_,_,c5,_,_,_,c9⟩:=rd_cell h3.row
      have hwr:=h3.wrong
      have H3:=Lib.hid h3
      have K3:=Lib.hid k3
      have HR3:=Lib.hid hro
      obtain⟨x1,x2,x3,x4⟩:=named_kept k3
      clear h3 hk3 k3 hro hxw
      unfold WrongR at hwr
      cases hst:st3.wrong with
      |some x=>
       rw[hst]at hwr
       obtain⟨gf,rfl,hgf,hrow⟩:=hwr
       have hro:read s= .error x:=by rw[HR3.out,hst]
       have F:=Lib.hid (fault_drew (gf:=gf) K3.out (Kept.refl _ w3) hrow hgf hro (.pointer none) (.iface 54 (.pointer (some ⟨gf,0,none⟩))))
       clear hgf hrow hro hst
       have hqp:¬w.heap.size+1=w.heap.size:=by omega
       have lq:w.heap.size+1<w3.heap.size:=by have:=K3.out.size;simp at this;omega
       have lp:w.heap.size<w3.heap.size:=by omega
       go_wp2_with fail
       go_region
       all_goals go_wp2
       all_goals exact read_leaves_ret (a:=.pointer none) (b:=.iface 54 (.pointer (some ⟨gf,0,none⟩))) rfl rfl (by simp[go_sem,x1,x3,hqp]) (by simp[go_sem,x1,x3,hqp]) F.out
      |none=>
       rw[hst]at hwr
       obtain rfl:=hwr
       have hro:read s=if(missOf st3.rules).isNone then .error (eMiss,0)else .ok ⟨st3.decls,st3.freq,st3.rules⟩:=by rw[HR3.out,hst]
       have HRR:=Lib.hid hro
       clear hro hst
       obtain⟨vm,hlk,hvm⟩:=H3.out.rules.look (-1)
       have hlk':=hlk false
       simp only[Bool.false_eq_true,if_false]at hlk'
       have p2:=H3.out.pol.cell 2
       simp at p2
       have HVM:=Lib.hid hvm
       clear hlk hvm
       cases hm:ruleOf st3.rules (-1)with
       |none=>
        have hvm:=HVM.out
        rw[hm]at hvm
        obtain rfl:=hvm
        have hro:read s= .error (eMiss,0):=by rw[HRR.out];unfold missOf;rw[hm];rfl
        have HF:=Lib.hid hro
        clear hro hm
        have hqp:¬w.heap.size+1=w.heap.size:=by omega
        have lq:w.heap.size+1<w3.heap.size:=by have:=K3.out.size;simp at this;omega
        have lp:w.heap.size<w3.heap.size:=by omega
        have herr:w3.cell? ⟨1,0,none⟩=some (.iface 307 (.pointer (some (ea 10)))):=H3.out.env.err 10 (by omega) (by omega)
        have hel:1<w.heap.size:=Nat.lt_of_lt_of_le (HE.out.lt 10 (by omega) (by omega)) HE.out.size
        go_wp2_with fail
        go_region
        all_goals go_wp2
        all_goals exact read_leaves_ret (a:=.pointer none) (b:=.iface 54 (.pointer (some ⟨w3.heap.size,0,none⟩))) rfl rfl (by simp[go_sem,x1,x3,hqp,lp,lq]) (by simp[go_sem,x1,x3,hqp,lp,lq]) (miss_end K3.out HF.out _ _)
       |some b=>
        have hvm:=HVM.out
        rw[hm]at hvm
        obtain⟨cs,⟨_,gl,cap,rfl⟩,_⟩:=hvm
        have hro:read s= .ok ⟨st3.decls,st3.freq,st3.rules⟩:=by rw[HRR.out];unfold missOf;rw[hm];rfl
        clear hm
        have hqp:¬w.heap.size+1=w.heap.size:=by omega
        have lq:w.heap.size+1<w3.heap.size:=by have:=K3.out.size;simp at this;omega
        have lp:w.heap.size<w3.heap.size:=by omega
        have F:=Lib.hid (ok_end K3.out H3.out hro (.pointer (some ⟨w.heap.size+1+1+1,0,none⟩)) .nilIface)
        clear hro
        go_wp2
        exact read_leaves_ret (a:=.pointer (some ⟨w.heap.size+1+1+1,0,none⟩)) (b:=.nilIface) rfl rfl (by simp[go_sem,x1,x3,hqp]) (by simp[go_sem,x1,x3,hqp]) F.out
theorem read_any (h:Env B ea w) (s:Bytes):Calls Tryz.prog 19 #[vs s] w fun e w'=>OutRead ea w s e w':=by
 by_cases hl:700<s.length
 ·exact read_long h hl
 ·exact read_rest h (by omega)
end
end Go.Proofs.YtepoejiigmhlbaaGreatDoor.Ev
