/- Lemmas for a law's walk. Conditions: none. -/
import Derived.WalkLawsBesides
import Derived.Test.YtepoejiigmhlbaaGreatDoorShelf
import Derived.Lib.SmallJoins
import Derived.Deep.DeepCutAuto
import Derived.Deep.CutBlock
import Derived.Lib.SliceRun
import Derived.Deep.DeepMust
import Derived.Test.YtepoejiigmhlbaaGreatDoorZc01
import Derived.Test.YtepoejiigmhlbaaGreatDoorZc02
import Derived.Test.YtepoejiigmhlbaaGreatDoorZc03
import Derived.Test.YtepoejiigmhlbaaGreatDoorZc05
set_option linter.all false
namespace Go.Proofs.YtepoejiigmhlbaaGreatDoor.Ev
open Go Go.RowKit
theorem Env.kept {B:Nat} {ea:Nat→Addr} {w w':World} {S:Nat→Prop} (h:Env B ea w) (hk:Kept S w w') (hS:∀b,S b→B≤b):Env B ea w':=
 ⟨Nat.le_trans h.size hk.size,fun k h1 h2=>(hk.cell (p:=⟨errGlobal k,0,none⟩) (fun hs=>by have:=hS _ hs;have:=h.lt k h1 h2;simp at*;omega)).trans (h.err k h1 h2),h.lt,
  kw_kept h.kw hk (fun hs=>by have:=hS _ hs;have:=h.kwlt;omega),h.kwlt⟩
structure RdR (B:Nat) (ea:Nat→Addr) (w:World) (g gp bm:Nat) (vd wp:Value) (s:Bytes) (st:PS):Prop where
 env:Env B ea w
 row:Row w g 103 (rdCells s st gp wp)
 pol:Row w gp 63 [vd,.int .i64 st.freq,.map (some bm)]
 decls:Sl (fun b=>B≤b∧b≠g) w 83 3 vd st.decls.length (st.decls.flatMap encDecl)
 rules:RulesR (fun b=>B≤b∧b≠g) w bm st.rules
 wrong:WrongR B ea w wp st.wrong
 g0:B≤g
 gp0:B≤gp
 bm0:B≤bm
 i:st.i≤s.length
 s:s.length≤700
 dl:st.decls.length≤1000
abbrev Kg (g:Nat) (w w':World):Prop:=Kept (fun b=>b=g∨w.heap.size≤b) w w'
theorem Kg.trans {g:Nat} {a b c:World} (h:Kg g a b) (k:Kg g b c):Kg g a c:=
 Kept.trans h (k.mono fun x hx=>hx.elim .inl (fun h1=>.inr (Nat.le_trans h.size h1)))
section
variable {B:Nat} {ea:Nat→Addr} {w w':World} {g gp bm:Nat} {vd wp:Value} {s:Bytes} {st:PS}
theorem RulesR.kept {N:Nat→Prop} {rules:List (Int×Blk)} (h:RulesR N w bm rules) (hm:w'.heap[bm]?=w.heap[bm]?) (hk:∀k cs,N k→Row w k 203 cs→w'.heap[k]?=w.heap[k]?):RulesR N w' bm rules:=by
 obtain⟨M,h1,h2,h3⟩:=h
 exact⟨M,h1.of_block hm,h2,fun i x y hx hy=>(h3 i x y hx hy).kept hk⟩
theorem RdR.gp_ne (h:RdR B ea w g gp bm vd wp s st):gp≠g:=h.pol.ne_ h.row (by decide)
theorem kg_at (hk:Kg g w w') {b:Nat} (hb:b<w.heap.size) (hn:b≠g):w'.heap[b]?=w.heap[b]?:=hk.block b (by rintro(h|h);exact hn h;omega)
structure Quiet (B:Nat) (w w':World):Prop where
 os:w'.os=w.os
 tape:w'.tape=w.tape
 output:w'.output=w.output
 size:w.heap.size≤w'.heap.size
 low:∀b,b<B→w'.heap[b]?=w.heap[b]?
 row:∀(b:Nat) t cs,Row w b t cs→(t=63∨t=83∨t=203∨t=59)→w'.heap[b]?=w.heap[b]?
 maps:∀(b:Nat) es c,w.heap[b]?=some (Obj.map es c)→w'.heap[b]?=w.heap[b]?
theorem Quiet.kg (hB:B≤w.heap.size) (hg:B≤g) {cs:List Value} (hr:Row w g 103 cs) (hk:Kg g w w'):Quiet B w w':=
 ⟨hk.os,hk.tape,hk.output,hk.size,fun b hb=>kg_at hk (by omega) (by omega),
  fun b t cs' h1 ht=>kg_at hk h1.lt (h1.ne_ hr (by rcases ht with rfl|rfl|rfl|rfl<;>decide)),
  fun b es c hm=>kg_at hk (by
   rcases Nat.lt_or_ge b w.heap.size with hlt|hge
   ·exact hlt
   ·rw[Array.getElem?_eq_none hge]at hm;cases hm) (by
   rintro rfl
   unfold Row at hr
   rw[hr]at hm
   cases hm)⟩
theorem Quiet.set_ {n:Nat} {t:TypeId} {cs:List Value} (hn:B≤n) (hr:Row w n t cs) (ht:t≠63∧t≠83∧t≠203∧t≠59) (i:Nat) (u:Value):Quiet B w (w.setCell ⟨n,i,none⟩ u):=by
 have hk:Kept (fun b=>b=n) w _:=Kept.one w ⟨n,i,none⟩ u
 refine⟨rfl,rfl,rfl,hk.size,fun b hb=>hk.block b (by omega),fun b t' cs' h1 ht'=>hk.block b (h1.ne_ hr ?_),fun b es c hm=>hk.block b ?_⟩
 ·rintro rfl
  rcases ht' with h|h|h|h
  ·exact ht.1 h
  ·exact ht.2.1 h
  ·exact ht.2.2.1 h
  ·exact ht.2.2.2 h
 ·rintro rfl
  unfold Row at hr
  rw[hr]at hm
  cases hm
theorem Quiet.alloc (o:Obj) (hB:B≤w.heap.size):Quiet B w (w.alloc o):=
 ⟨rfl,rfl,rfl,by simp,fun b hb=>Below.heap_alloc w o b (by omega),fun b t cs h1 _=>Below.heap_alloc w o b h1.lt,fun b es c hm=>Below.heap_alloc w o b (by
   rcases Nat.lt_or_ge b w.heap.size with hlt|hge
   ·exact hlt
   ·rw[Array.getElem?_eq_none hge]at hm;cases hm)⟩
theorem WrongR.quiet {x:Option (Nat×Nat)} (h:WrongR B ea w wp x) (hk:Quiet B w w'):WrongR B ea w' wp x:=by
 cases x with
 |none=>exact h
 |some y=>
  obtain⟨gf,h1,h2,h3⟩:=h
  exact⟨gf,h1,h2,(hk.row gf _ _ h3 (.inr (.inr (.inr rfl)))).trans h3⟩
theorem Sl.of_quiet {S:Nat→Prop} {n:Nat} {v:Value} {xs:List Value} (h:Sl S w 83 3 v n xs) (hk:Quiet B w w'):Sl S w' 83 3 v n xs:=by
 obtain⟨⟨h0,h1⟩,h2⟩:=h
 refine⟨⟨h0,?_⟩,h2⟩
 rcases h1 with h1|⟨g,cap,cur,rfl,hb,hg,h4⟩
 ·exact .inl h1
 ·exact .inr ⟨g,cap,cur,rfl,hb,(hk.row g _ cur.toList (by unfold Row;simpa using hg) (.inr (.inl rfl))).trans hg,h4⟩
theorem RdR.turn (h:RdR B ea w g gp bm vd wp s st) (hk:Quiet B w w') {st':PS} {wp':Value} (hr:Row w' g 103 (rdCells s st' gp wp')) (hd:st'.decls=st.decls) (hf:st'.freq=st.freq) (hru:st'.rules=st.rules)
  (hw:WrongR B ea w' wp' st'.wrong) (hi:st'.i≤s.length):RdR B ea w' g gp bm vd wp' s st':=by
 refine⟨h.env.kept (S:=fun b=>B≤b) ⟨hk.os,hk.tape,hk.output,hk.size,fun b hb=>hk.low b (by omega)⟩ (fun b hb=>hb),hr,?_,?_,?_,hw,h.g0,h.gp0,h.bm0,hi,h.s,by rw[hd];exact h.dl⟩
 ·rw[hf];exact(hk.row gp _ _ h.pol (.inl rfl)).trans h.pol
 ·rw[hd]
  exact h.decls.of_quiet hk
 ·rw[hru]
  obtain⟨M,⟨es,cl,h1,h2⟩,h3,h4⟩:=h.rules
  exact⟨M,⟨es,cl,(hk.maps bm es cl h1).trans h1,h2⟩,h3,fun i x y hx hy=>(h4 i x y hx hy).kept (fun k cs _ hr=>hk.row k _ cs hr (.inr (.inr (.inl rfl))))⟩
theorem RdR.kg (h:RdR B ea w g gp bm vd wp s st) (hk:Kg g w w'):Quiet B w w':=Quiet.kg h.env.size h.g0 h.row hk
theorem RdR.alloc (h:RdR B ea w g gp bm vd wp s st) (o:Obj):RdR B ea (w.alloc o) g gp bm vd wp s st:=
 h.turn (Quiet.alloc o h.env.size) (h.row.alloc o) rfl rfl rfl (h.wrong.quiet (Quiet.alloc o h.env.size)) h.i
theorem RdR.set_ (h:RdR B ea w g gp bm vd wp s st) {n:Nat} {t:TypeId} {cs:List Value} (hn:B≤n) (hr:Row w n t cs) (ht:t≠63∧t≠83∧t≠203∧t≠59) (hng:t≠103) (i:Nat) (u:Value):
  RdR B ea (w.setCell ⟨n,i,none⟩ u) g gp bm vd wp s st:=
 h.turn (Quiet.set_ hn hr ht i u) (h.row.far (h.row.ne_ hr (fun e=>hng e.symm)) u) rfl rfl rfl (h.wrong.quiet (Quiet.set_ hn hr ht i u)) h.i
end
def Fails (B:Nat) (ea:Nat→Addr) (w:World) (e:Ending) (w':World) (k pos:Nat):Prop:=
 ∃gf,e= .panicked [{v:=.iface 54 (.pointer (some ⟨gf,0,none⟩)),recovered:=false}]∧Kept (fun b=>B≤b) w w'∧Row w' gf 59 [errV ea k,.int .i64 pos]∧B≤gf
section
variable {B:Nat} {ea:Nat→Addr} {w:World} {g gp bm:Nat} {vd wp:Value} {s:Bytes} {st:PS}
set_option maxRecDepth 100000 in
set_option maxHeartbeats 400000 in
theorem fail_any (h:RdR B ea w g gp bm vd wp s st) (k:Nat):Calls Tryz.prog 76 #[.pointer (some ⟨g,0,none⟩),errV ea k] w fun e w'=>Fails B ea w e w' k st.t.pos:=by
 obtain⟨_,_,_,_,c4,_⟩:=rd_cell h.row
 have hsz:=h.env.size
 have hfin:Fails B ea w (.panicked [{v:=.iface 54 (.pointer (some ⟨w.heap.size,0,none⟩)),recovered:=false}]) (w.alloc (.cells #[errV ea k,.int .i64 st.t.pos] 59)) k st.t.pos:=
  ⟨_,rfl,(Kept.refl _ _).alloc hsz _,Row.new w _ _,hsz⟩
 have Hf:=Lib.hid hfin
 unfold errV at*
 clear hfin h hsz
 go_enter Tryz.func76,Tryz.ntmps76
 go_wp2
 exact⟨rfl,Hf.out⟩
theorem wrong_next (h:RdR B ea w g gp bm vd wp s st) {w':World} (hk:Kept (fun b=>b=g) w w') (hr:Row w' g 103 (rdCells s (next s st) gp wp)):RdR B ea w' g gp bm vd wp s (next s st):=by
 have hkg:Kg g w w':=hk.mono fun b hb=>.inl hb
 exact h.turn (h.kg hkg) hr rfl rfl rfl (h.wrong.quiet (h.kg hkg)) (by
  exact(lex_facts s st.i h.i).2.2.1)
theorem next_all (h:RdR B ea w g gp bm vd wp s st):
  Calls Tryz.prog 36 #[.pointer (some ⟨g,0,none⟩)] w fun e w'=>e= .returned (.tuple #[])∧Kg g w w'∧RdR B ea w' g gp bm vd wp s (next s st):=by
 refine(next_any g gp wp s st w h.env.kw (fun e=>by have:=h.env.kwlt;have:=h.g0;omega) (by have:=h.s;omega) h.i h.row).mono ?_
 rintro e w' ⟨he,hk,hr⟩
 exact⟨he,hk.mono fun b hb=>.inl hb,wrong_next h hk hr⟩
def encTok (t:Tok):Value:=.agg #[vs t.kind,vs t.text,.int .i64 t.pos]
def OutR {α:Type} (B:Nat) (ea:Nat→Addr) (w:World) (g gp bm:Nat) (s:Bytes) (x:Out α) (val:World→α→Value→Prop) (e:Ending) (w':World):Prop:=
 match x with
 | .ok a st'=>∃v,e= .returned v∧val w' a v∧Kg g w w'∧∃vd wp,RdR B ea w' g gp bm vd wp s st'
 | .bad k pos=>Fails B ea w e w' k pos
set_option maxRecDepth 100000 in
set_option maxHeartbeats 400000 in
theorem take_any (h:RdR B ea w g gp bm vd wp s st) (k:Bytes):
  Calls Tryz.prog 73 #[.pointer (some ⟨g,0,none⟩),vs k] w fun e w'=>e= .returned (.bool (take s k st).1)∧Kg g w w'∧RdR B ea w' g gp bm vd wp s (take s k st).2:=by
 obtain⟨_,_,c2,_⟩:=rd_cell h.row
 have HR:=Lib.hid h
 unfold vs at*
 by_cases hk:st.t.kind=k
 ·have e1:(st.t.kind==k)=true:=by simpa using hk
  have e2:take s k st=(true,next s st):=by unfold take;rw[if_pos hk]
  rw[e2]
  clear hk e2 h
  go_enter Tryz.func73,Tryz.ntmps73
  go_wp2_with (go_at_call 36;refine(next_all HR.out).mono ?_;rintro e w' ⟨rfl,hk1,h1⟩;have HK1:=Lib.hid hk1;have H1:=Lib.hid h1;clear hk1 h1)
  go_ret
  exact⟨rfl,HK1.out,H1.out⟩
 ·have e1:(st.t.kind==k)=false:=by simpa using hk
  have e2:take s k st=(false,st):=by unfold take;rw[if_neg hk]
  rw[e2]
  clear hk e2 h
  go_enter Tryz.func73,Tryz.ntmps73
  go_wp2
  go_ret
  exact⟨rfl,Kept.refl _ _,HR.out⟩
set_option maxRecDepth 100000 in
set_option maxHeartbeats 400000 in
theorem want_any (h:RdR B ea w g gp bm vd wp s st) (k:Bytes):
  Calls Tryz.prog 39 #[.pointer (some ⟨g,0,none⟩),vs k] w fun e w'=>OutR B ea w g gp bm s (want s k st) (fun _ t v=>v=encTok t) e w':=by
 obtain⟨_,_,c2,c3,c4,_⟩:=rd_cell h.row
 have hlt:=h.row.lt
 have herr:w.cell? ⟨7,0,none⟩=some (.iface 307 (.pointer (some (ea 2)))):=h.env.err 2 (by omega) (by omega)
 have hel:7<w.heap.size:=Nat.lt_of_lt_of_le (h.env.lt 2 (by omega) (by omega)) h.env.size
 have HR:=Lib.hid h
 unfold vs at*
 by_cases hk:st.t.kind=k
 ·have e1:(st.t.kind==k)=true:=by simpa using hk
  have e2:want s k st= .ok st.t (next s st):=by unfold want;rw[if_pos hk]
  rw[e2]
  clear hk e2 h herr hel
  have HA:=Lib.hid ((HR.out.alloc (.cells #[.string ⟨#[]⟩,.string ⟨#[]⟩,.int .i64 0] 101)).alloc (.cells #[.string ⟨st.t.kind.toArray⟩,.string ⟨st.t.text.toArray⟩,.int .i64 st.t.pos] 101))
  have hB:=HR.out.env.size
  have hgl:=HR.out.row.lt
  go_enter Tryz.func39,Tryz.ntmps39
  go_wp2_with fail
  refine(next_all HA.out).mono ?_
  rintro e w1 ⟨rfl,hk1,h1⟩
  have hr0:Row ((w.alloc (.cells #[.string ⟨#[]⟩,.string ⟨#[]⟩,.int .i64 0] 101)).alloc (.cells #[.string ⟨st.t.kind.toArray⟩,.string ⟨st.t.text.toArray⟩,.int .i64 st.t.pos] 101)) w.heap.size 101 [vs [],vs [],.int .i64 0]:=(Row.new w _ _).alloc _
  have hr1:Row ((w.alloc (.cells #[.string ⟨#[]⟩,.string ⟨#[]⟩,.int .i64 0] 101)).alloc (.cells #[.string ⟨st.t.kind.toArray⟩,.string ⟨st.t.text.toArray⟩,.int .i64 st.t.pos] 101)) (w.heap.size+1) 101 [vs st.t.kind,vs st.t.text,.int .i64 st.t.pos]:=by
   have:=Row.new (w.alloc (.cells #[.string ⟨#[]⟩,.string ⟨#[]⟩,.int .i64 0] 101)) 101 [vs st.t.kind,vs st.t.text,.int .i64 st.t.pos]
   simpa using this
  have x0:Row w1 w.heap.size 101 _:=(kg_at hk1 hr0.lt (by omega)).trans hr0
  have x1:Row w1 (w.heap.size+1) 101 _:=(kg_at hk1 hr1.lt (by omega)).trans hr1
  have d0:=x0.cell 0
  have d1:=x0.cell 1
  have d2:=x0.cell 2
  have e0:=x1.cell 0
  have e1':=x1.cell 1
  have e2':=x1.cell 2
  have fz:=fun j=>x0.frozen j
  have X0:=Lib.hid x0
  have H1:=Lib.hid h1
  have HK1:=Lib.hid hk1
  clear x0 x1 hr0 hr1 h1 hk1
  simp at d0 d1 d2 e0 e1' e2'
  go_wp2
  have q1:=X0.out
  have h1:=H1.out
  have b0:B≤w.heap.size:=hB
  have g1:=h1.set_ b0 q1 (by decide) (by decide) 0 (.string ⟨st.t.kind.toArray⟩)
  have q2:=q1.set_ 0 (.string ⟨st.t.kind.toArray⟩)
  have g2:=g1.set_ b0 q2 (by decide) (by decide) 1 (.string ⟨st.t.text.toArray⟩)
  have q3:=q2.set_ 1 (.string ⟨st.t.text.toArray⟩)
  have g3:=g2.set_ b0 q3 (by decide) (by decide) 2 (.int .i64 st.t.pos)
  have q4:=q3.set_ 2 (.int .i64 st.t.pos)
  have hk4:Kg g w _:=((((Kept.refl (fun b=>b=g∨w.heap.size≤b) w).alloc (.inr (Nat.le_refl _)) _).alloc (.inr (by simp)) _).trans (HK1.out.mono (fun b hb=>hb.elim .inl (fun h=>.inr (Nat.le_trans (by simp;omega) h))))).setCell (p:=⟨w.heap.size,0,none⟩) (.inr (Nat.le_refl _)) (.string ⟨st.t.kind.toArray⟩)|>.setCell (p:=⟨w.heap.size,1,none⟩) (.inr (Nat.le_refl _)) (.string ⟨st.t.text.toArray⟩)|>.setCell (p:=⟨w.heap.size,2,none⟩) (.inr (Nat.le_refl _)) (.int .i64 st.t.pos)
  have G3:=Lib.hid g3
  have HK4:=Lib.hid hk4
  have z0:=q4.cell 0
  have z1:=q4.cell 1
  have z2:=q4.cell 2
  have zf:=fun j=>q4.frozen j
  simp at z0 z1 z2
  clear g3 hk4 g1 g2 h1 q1 q2 q3 q4 d0 d1 d2 e0 e1' e2' fz
  generalize hw2:((w1.setCell ⟨w.heap.size,0,none⟩ _).setCell ⟨w.heap.size,1,none⟩ _).setCell ⟨w.heap.size,2,none⟩ _=w2 at*
  refine bodyPost_ret (v:=encTok st.t) (by simp[results,Tryz.results39,go_sem,z0,z1,z2,zf,encTok,vs]) rfl ?_
  exact⟨_,rfl,rfl,HK4.out,_,_,G3.out⟩
 ·have e1:(st.t.kind==k)=false:=by simpa using hk
  have e2:want s k st= .bad eSyntax st.t.pos:=by unfold want fail;rw[if_neg hk]
  rw[e2]
  clear hk e2 h
  have HA:=Lib.hid (HR.out.alloc (.cells #[.string ⟨#[]⟩,.string ⟨#[]⟩,.int .i64 0] 101))
  have hB:=HR.out.env.size
  go_enter Tryz.func39,Tryz.ntmps39
  go_wp2_with fail
  refine(fail_any HA.out 2).mono ?_
  rintro e w1 ⟨gf,rfl,hk,hr,hgf⟩
  have hk2:Kept (fun b=>B≤b) w w1:=((Kept.refl _ w).alloc hB _).trans hk
  go_wp2
  exact⟨rfl,gf,rfl,hk2,hr,hgf⟩
set_option maxRecDepth 100000 in
set_option maxHeartbeats 400000 in
theorem note_any (h:RdR B ea w g gp bm vd wp s st) (k pos:Nat):
  Calls Tryz.prog 70 #[.pointer (some ⟨g,0,none⟩),errV ea k,.int .i64 pos] w fun e w'=>e= .returned (.tuple #[])∧Kg g w w'∧∃wp',RdR B ea w' g gp bm vd wp' s (note k pos st):=by
 obtain⟨_,_,_,_,_,_,_,_,_,c9⟩:=rd_cell h.row
 have hlt:=h.row.lt
 have f:=fun j=>h.row.frozen j
 have HR:=Lib.hid h
 have hw:=h.wrong
 cases hwr:st.wrong with
 |none=>
  rw[hwr]at hw
  have hwp:wp= .pointer none:=hw
  subst hwp
  have e2:note k pos st={st with wrong:=some (k,pos)}:=by unfold note;rw[hwr]
  rw[e2]
  clear hw hwr e2 h
  unfold errV
  go_enter Tryz.func70,Tryz.ntmps70
  go_wp2
  go_end0
  have r0:=HR.out
  have k1:Kg g w (w.setCell ⟨g,9,none⟩ (.pointer (some ⟨w.heap.size,0,none⟩))):=Kept.setCell (p:=⟨g,9,none⟩) (Kept.refl _ _) (.inl rfl) _
  have k2:=k1.alloc (.inr (by simp)) (.cells #[errV ea k,.int .i64 pos] 59)
  have n1:=(Row.new (w.setCell ⟨g,9,none⟩ (.pointer (some ⟨w.heap.size,0,none⟩))) 59 [errV ea k,.int .i64 pos])
  refine⟨rfl,k2,.pointer (some ⟨w.heap.size,0,none⟩),r0.turn (st':={st with wrong:=some (k,pos)}) (r0.kg k2) ?_ rfl rfl rfl ?_ r0.i⟩
  ·have:=(r0.row.set_ 9 (.pointer (some ⟨w.heap.size,0,none⟩))).alloc (.cells #[errV ea k,.int .i64 pos] 59)
   exact this
  ·exact⟨_,rfl,r0.env.size,by simpa using n1⟩
 |some y=>
  rw[hwr]at hw
  obtain⟨gf,rfl,_,_⟩:=hw
  have e2:note k pos st=st:=by unfold note;rw[hwr]
  rw[e2]
  clear hwr e2 h
  unfold errV
  go_enter Tryz.func70,Tryz.ntmps70
  go_wp2
  go_end0
  exact⟨rfl,Kept.refl _ _,_,HR.out⟩
end
end Go.Proofs.YtepoejiigmhlbaaGreatDoor.Ev
namespace Go.Proofs.YtepoejiigmhlbaaGreatDoor.Ev
open Go Go.RowKit
theorem dec_atoi:∀(l:Bytes) (n:Nat),(∀c∈l,fig c=true)→∃m,Lib.decFrom n l=some m∧l.foldl (fun(n:Int) c=>10*n+((c.toNat:Int)-48)) (n:Int)=(m:Int)
 | [],n,_=>⟨n,rfl,rfl⟩
 |c::l,n,h=>by
  have hc:=h c (by simp)
  have h1:48≤c.toNat∧c.toNat≤57:=by
   simp only[fig,Bool.and_eq_true,decide_eq_true_eq,UInt8.le_iff_toNat_le]at hc
   exact hc
  obtain⟨m,h2,h3⟩:=dec_atoi l (n*10+(c.toNat-48)) (fun x hx=>h x (by simp[hx]))
  refine⟨m,?_,?_⟩
  ·simp[Lib.decFrom,Lib.digitVal,h1,h2]
  ·rw[←h3,List.foldl_cons]
   congr 1
   omega
theorem atoi_of {l:Bytes} (h:NumText l):Lib.atoi l=some (atoi l)∧0≤atoi l:=by
 obtain⟨h1,h2,h3⟩:=h
 cases l with
 |nil=>simp at h1
 |cons c l=>
  have hc:=h3 c (by simp)
  have h4:48≤c.toNat∧c.toNat≤57:=by
   simp only[fig,Bool.and_eq_true,decide_eq_true_eq,UInt8.le_iff_toNat_le]at hc
   exact hc
  obtain⟨m,h5,h6⟩:=dec_atoi (c::l) 0 h3
  have n1:(c==45)=false:=by
   rw[beq_eq_false_iff_ne];rintro rfl;simp at h4
  have n2:(c==43)=false:=by
   rw[beq_eq_false_iff_ne];rintro rfl;simp at h4
  have e:atoi (c::l)=(m:Int):=h6
  rw[e]
  refine⟨?_,by omega⟩
  unfold Lib.atoi
  simp only[n1,n2,Bool.false_eq_true,if_false]
  unfold Lib.decNat
  simp[h5]
section
variable {B:Nat} {ea:Nat→Addr} {w:World} {g gp bm:Nat} {vd wp:Value} {s:Bytes} {st:PS}
theorem kg_bytes (g:Nat) (w:World) (e:TypeId) (t:ByteArray):Kg g w (Lib.bytesWorld w e t):=
 Kept.of_below (Joins.below_bytesWorld w.heap.size w e t (Nat.le_refl _)) (fun k hk=>.inr hk)
theorem RdR.kg_same (h:RdR B ea w g gp bm vd wp s st) {w':World} (hk:Kg g w w') (hg:w'.heap[g]?=w.heap[g]?):RdR B ea w' g gp bm vd wp s st:=
 h.turn (h.kg hk) (hg.trans h.row) rfl rfl rfl (h.wrong.quiet (h.kg hk)) h.i
theorem RdR.bytes (h:RdR B ea w g gp bm vd wp s st) (e:TypeId) (t:ByteArray):RdR B ea (Lib.bytesWorld w e t) g gp bm vd wp s st:=
 h.kg_same (kg_bytes g w e t) (Lib.bytesWorld_at_old w e t g h.row.lt)
set_option maxRecDepth 100000 in
set_option maxHeartbeats 400000 in
theorem number_any (h:RdR B ea w g gp bm vd wp s st) (ok:st.Ok s) (least most:Int):
  Calls Tryz.prog 71 #[.pointer (some ⟨g,0,none⟩),.int .i64 least,.int .i64 most] w fun e w'=>OutR B ea w g gp bm s (number s least most st) (fun _ n v=>v= .int .i64 n) e w':=by
 have HR:=Lib.hid h
 by_cases hk:st.t.kind=kNumber
 ·have hw:want s kNumber st= .ok st.t (next s st):=by unfold want;rw[if_pos hk]
  have e2:number s least most st= .ok (atoi st.t.text) (if atoi st.t.text<least∨atoi st.t.text>most then note eNumber st.t.pos (next s st)else next s st):=by
   unfold number;rw[hw];rfl
  rw[e2]
  have hwant:=want_any h kNumber
  rw[hw]at hwant
  obtain⟨ha,ha0⟩:=atoi_of (ok.num hk)
  have hl:st.t.text.length≤18:=by have:=(ok.num hk).2.1;omega
  have HW:=Lib.hid hwant
  have HA:=Lib.hid ha
  clear hwant ha e2 hw hk h ok
  unfold vs at*
  go_enter Tryz.func71,Tryz.ntmps71
  go_wp2_with fail
  refine HW.out.mono ?_
  rintro e w1 ⟨v,rfl,rfl,hk1,vd1,wp1,h1⟩
  have HK1:=Lib.hid hk1
  have H1:=Lib.hid h1
  clear hk1 h1
  unfold encTok vs
  go_wp2_with fail
  refine(Tryz.strconv_Atoi ⟨st.t.text.toArray⟩ (atoi st.t.text) hl HA.out _).mono ?_
  rintro e w2 ⟨rfl,t,rfl⟩
  have hr0:=(Row.new w1 101 [vs st.t.kind,vs st.t.text,.int .i64 st.t.pos])
  have x0:Row (Lib.bytesWorld (w1.alloc (.cells #[vs st.t.kind,vs st.t.text,.int .i64 st.t.pos] 101)) 5 t) w1.heap.size 101 _:=(Lib.bytesWorld_at_old _ _ _ _ hr0.lt).trans hr0
  have hz:=(H1.out.alloc (.cells #[vs st.t.kind,vs st.t.text,.int .i64 st.t.pos] 101)).bytes 5 t
  have hkz:=(HK1.out.alloc (.inr (HK1.out.size)) (.cells #[vs st.t.kind,vs st.t.text,.int .i64 st.t.pos] 101)).trans ((kg_bytes g _ 5 t).mono (fun b hb=>hb.elim .inl (fun hh=>.inr (Nat.le_trans HK1.out.size (Nat.le_trans (by simp) hh)))))
  unfold vs at*
  generalize hw3:Lib.bytesWorld _ 5 t=w3 at*
  have herr:w3.cell? ⟨11,0,none⟩=some (.iface 307 (.pointer (some (ea 7)))):=hz.env.err 7 (by omega) (by omega)
  have d2:=x0.cell 2
  have fz:=fun j=>x0.frozen j
  simp at d2
  have HZ:=Lib.hid hz
  have HKZ:=Lib.hid hkz
  clear hz hkz x0 hr0 hw3 HK1 H1
  have NA:=note_any HZ.out 7 st.t.pos
  by_cases c1:atoi st.t.text<least
  ·go_wp2_with fail
   refine NA.mono ?_
   rintro e w4 ⟨rfl,hk4,wp4,h4⟩
   have F:=Lib.hid (And.intro hk4 h4)
   clear hk4 h4
   go_wp2
   go_ret
   refine⟨_,rfl,rfl,Kg.trans HKZ.out F.out.1,vd1,wp4,?_⟩
   exact F.out.2
  ·by_cases c2:atoi st.t.text>most
   ·go_wp2_with fail
    refine NA.mono ?_
    rintro e w4 ⟨rfl,hk4,wp4,h4⟩
    have F:=Lib.hid (And.intro hk4 h4)
    clear hk4 h4
    go_wp2
    go_ret
    refine⟨_,rfl,rfl,Kg.trans HKZ.out F.out.1,vd1,wp4,?_⟩
    exact F.out.2
   ·clear NA
    go_wp2
    go_ret
    refine⟨_,rfl,rfl,HKZ.out,vd1,wp1,?_⟩
    exact HZ.out
 ·have hw:want s kNumber st= .bad eSyntax st.t.pos:=by unfold want fail;rw[if_neg hk]
  have e2:number s least most st= .bad eSyntax st.t.pos:=by unfold number;rw[hw];rfl
  rw[e2]
  have hwant:=want_any h kNumber
  rw[hw]at hwant
  have HW:=Lib.hid hwant
  clear hwant e2 hw hk h ok
  unfold vs at*
  go_enter Tryz.func71,Tryz.ntmps71
  go_wp2_with fail
  refine HW.out.mono ?_
  rintro e w1 ⟨gf,rfl,hF⟩
  go_wp2
  exact⟨rfl,gf,rfl,hF⟩
end
end Go.Proofs.YtepoejiigmhlbaaGreatDoor.Ev
namespace Go.Proofs.YtepoejiigmhlbaaGreatDoor.Ev
open Go Go.RowKit Go.Shelf
theorem findFrom_miss (name:Bytes):∀(l:List Decl) (k:Nat),(∀(j:Nat) (d:Decl),l[j]?=some d→d.name≠name)→findFrom name l k= -1
 | [],k,_=>rfl
 |d::l,k,h=>by
  rw[findFrom,if_neg (h 0 d rfl)]
  exact findFrom_miss name l (k+1) (fun j d' hd=>h (j+1) d' hd)
theorem findFrom_hit (name:Bytes):∀(l:List Decl) (k i:Nat) (d:Decl),l[i]?=some d→d.name=name→(∀(j:Nat) (d:Decl),j<i→l[j]?=some d→d.name≠name)→findFrom name l k=((k+i:Nat):Int)
 | [],k,i,d,h,_,_=>by simp at h
 |d'::l,k,0,d,h,hn,_=>by
  simp only[List.getElem?_cons_zero,Option.some.injEq]at h
  subst h
  rw[findFrom,if_pos hn]
  rfl
 |d'::l,k,i+1,d,h,hn,hlt=>by
  rw[findFrom,if_neg (hlt 0 d' (Nat.succ_pos _) rfl),findFrom_hit name l (k+1) i d (by simpa using h) hn (fun j x hj hx=>hlt (j+1) x (by omega) (by simpa using hx))]
  congr 1
  omega
set_option maxRecDepth 100000 in
set_option maxHeartbeats 400000 in
theorem find1_any (name:Bytes) (b:Nat) (d:Decl) (w:World) (hb:b<w.heap.size) (hc:w.cell? ⟨b,0,none⟩=some (vs name)):
  Calls Tryz.prog 108 #[.agg (encDecl d).toArray,.pointer (some ⟨b,0,none⟩)] w fun e w'=>e= .returned (.bool (d.name==name))∧Below w.heap.size w w':=by
 have hne:b≠w.heap.size:=by omega
 unfold encDecl vs at*
 go_enter Tryz.func108,Tryz.ntmps108
 go_wp2
 all_goals(go_ret;exact⟨by simp_all,(Below.refl _ w).alloc (Nat.le_refl _) _⟩)
theorem Sl.any_ {S:Nat→Prop} {w:World} {e:TypeId} {size:Nat} {v:Value} {n:Nat} {xs:List Value} (h:Sl S w e size v n xs):∃ao cap,v= .slice ao n cap:=by
 obtain⟨⟨_,h1⟩,h2⟩:=h
 rcases h1 with⟨h1,h0⟩|⟨g,cap,cur,rfl,_⟩
 ·subst h0;exact⟨_,_,h1⟩
 ·exact⟨_,_,rfl⟩
theorem Sl.get_ {S:Nat→Prop} {w:World} {e:TypeId} {size:Nat} {ao:Option Addr} {cap:Nat} {α:Type} {f:α→List Value} {l:List α} (h:Sl S w e size (.slice ao l.length cap) l.length (l.flatMap f)) (hk:∀x,(f x).length=size)
  {i:Nat} {x:α} (hx:l[i]?=some x):∃g,ao=some ⟨g,0,none⟩∧g<w.heap.size∧∀j,j<size→w.cell? ⟨g,i*size+j,none⟩=(f x)[j]?:=by
 have hi:i<l.length:=(List.getElem?_eq_some_iff.1 hx).1
 obtain⟨g,cap',h1,_,_,_,h2⟩:=h.form (by omega)
 injection h1 with h1 h3 h4
 subst h1
 subst h4
 exact⟨g,rfl,h2,fun j hj=>h.at_ hk hx hj⟩
set_option maxRecDepth 100000 in
set_option maxHeartbeats 1000000 in
theorem index_any {S:Nat→Prop} (name:Bytes) (b:Nat) (l:List Decl) (vd:Value) (w:World) (hs:Sl S w 83 3 vd l.length (l.flatMap encDecl)) (hl:l.length≤1000) (hb:b<w.heap.size) (hc:w.cell? ⟨b,0,none⟩=some (vs name)):
  Calls Tryz.prog 66 #[vd,.func (.func 108) #[] #[.pointer (some ⟨b,0,none⟩)]] w fun e w'=>e= .returned (.int .i64 (find l name))∧Below w.heap.size w w':=by
 obtain⟨ao,cap,rfl⟩:=hs.any_
 have HS:=Lib.hid hs
 have HC:=Lib.hid hc
 have HB:=Lib.hid hb
 clear hs hc hb
 go_enter Tryz.func66,Tryz.ntmps66
 go_wp2
 go_loopg [5,8] l.length (fun gg _ s8 wr=>∃kk:Nat,kk≤l.length∧l.length-kk≤gg∧s8= .int .i64 kk∧Below w.heap.size w wr∧(∀(j:Nat) (d:Decl),j<kk→l[j]?=some d→d.name≠name))
 case atStart=>exact⟨0,Nat.zero_le _,by omega,rfl,Below.refl _ w,fun j d hj=>absurd hj (Nat.not_lt_zero _)⟩
 case round=>
  obtain⟨kk,hkk,hg,rfl,bw,a⟩:=hrel
  have BW:=Lib.hid bw
  have A:=Lib.hid a
  clear bw a
  by_cases hlt:kk<l.length
  ·obtain⟨x,hx⟩:∃x,l[kk]?=some x:=⟨_,List.getElem?_eq_getElem hlt⟩
   obtain⟨gd,rfl,hgd,hcell⟩:=HS.out.get_ (fun _=>rfl) hx
   have c0:wr.cell? ⟨gd,kk*3,none⟩=some (.int .i64 x.kind):=(BW.out.cell (p:=⟨gd,kk*3,none⟩) hgd).trans (hcell 0 (by omega))
   have c1:wr.cell? ⟨gd,kk*3+1,none⟩=some (vs x.name):=(BW.out.cell (p:=⟨gd,kk*3+1,none⟩) hgd).trans (hcell 1 (by omega))
   have c2:wr.cell? ⟨gd,kk*3+2,none⟩=some (.int .i64 x.max):=(BW.out.cell (p:=⟨gd,kk*3+2,none⟩) hgd).trans (hcell 2 (by omega))
   have hcall:=find1_any name b x wr (Nat.lt_of_lt_of_le HB.out BW.out.size) ((BW.out.cell (p:=⟨b,0,none⟩) HB.out).trans HC.out)
   have HX:=Lib.hid hx
   clear hx hcell hgd
   unfold vs at*
   by_cases hn:x.name=name
   ·have e1:(x.name==name)=true:=by simpa using hn
    rw[e1]at hcall
    have HCA:=Lib.hid hcall
    have HN:=Lib.hid hn
    clear hcall hn e1
    go_wp2_with fail
    refine HCA.out.mono ?_
    rintro e w' ⟨rfl,hb'⟩
    have HBW:=Lib.hid hb'
    clear hb'
    go_wp2
    go_ret
    refine⟨?_,BW.out.trans (HBW.out.mono BW.out.size)⟩
    unfold find
    rw[findFrom_hit name l 0 kk x HX.out HN.out A.out,Nat.zero_add]
    rfl
   ·have e1:(x.name==name)=false:=by simpa using hn
    rw[e1]at hcall
    have HCA:=Lib.hid hcall
    have HN:=Lib.hid hn
    clear hcall hn e1
    go_wp2_with fail
    refine HCA.out.mono ?_
    rintro e w' ⟨rfl,hb'⟩
    have HBW:=Lib.hid hb'
    clear hb'
    go_wp2
    go_roundg (l.length-(kk+1))
    case measure=>omega
    case rel=>
     refine⟨kk+1,by omega,by omega,by go_num,BW.out.trans (HBW.out.mono BW.out.size),fun j d hj hd=>?_⟩
     by_cases e:j=kk
     ·subst e
      rw[HX.out]at hd
      injection hd with hd
      exact hd▸HN.out
     ·exact A.out j d (by omega) hd
  ·have:kk=l.length:=by omega
   subst this
   go_wp2
   go_ret
   refine⟨?_,BW.out⟩
   unfold find
   rw[findFrom_miss name l 0 (fun j d hd=>A.out j d (List.getElem?_eq_some_iff.1 hd).1 hd)]
   rfl
set_option maxRecDepth 100000 in
set_option maxHeartbeats 1000000 in
theorem find_any {S:Nat→Prop} (name:Bytes) (gp:Nat) (l:List Decl) (vd:Value) (w:World) (hs:Sl S w 83 3 vd l.length (l.flatMap encDecl)) (hl:l.length≤1000) (hg:gp<w.heap.size) (hc:w.cell? ⟨gp,0,none⟩=some vd):
  Calls Tryz.prog 72 #[.pointer (some ⟨gp,0,none⟩),vs name] w fun e w'=>e= .returned (.int .i64 (find l name))∧Below w.heap.size w w':=by
 have hne:gp≠w.heap.size:=by omega
 have hmf:∀(fn:Fn) (first cap:Array Value) (w:World),(Instr.makeFunc fn first cap).run Tryz.prog w= .ok (.func fn first cap) w:=fun _ _ _ _=>rfl
 have hidx:=index_any name w.heap.size l vd (w.alloc (.cells #[vs name] 9)) (hs.alloc _) hl (by simp) (by simp)
 obtain⟨ao,cap,rfl⟩:=hs.any_
 have HI:=Lib.hid hidx
 clear hidx hs
 unfold vs at*
 go_enter Tryz.func72,Tryz.ntmps72
 go_wp2_with fail
 trace_state
 refine HI.out.mono ?_
 rintro e w' ⟨rfl,hb'⟩
 have HBW:=Lib.hid hb'
 clear hb'
 go_wp2
 go_ret
 exact⟨rfl,((Below.refl _ w).alloc (Nat.le_refl _) _).trans (HBW.out.mono (by simp))⟩
end Go.Proofs.YtepoejiigmhlbaaGreatDoor.Ev
namespace Go.Proofs.YtepoejiigmhlbaaGreatDoor.Ev
open Go Go.RowKit
theorem findFrom_cases (name:Bytes):∀(l:List Decl) (k:Nat),findFrom name l k= -1∨∃(i:Nat) (d:Decl),l[i]?=some d∧findFrom name l k=((k+i:Nat):Int)
 | [],k=>.inl rfl
 |d::l,k=>by
  by_cases h:d.name=name
  ·exact .inr ⟨0,d,rfl,by rw[findFrom,if_pos h];rfl⟩
  ·rcases findFrom_cases name l (k+1)with h1|⟨i,d',h1,h2⟩
   ·exact .inl (by rw[findFrom,if_neg h,h1])
   ·exact .inr ⟨i+1,d',by simpa using h1,by rw[findFrom,if_neg h,h2];congr 1;omega⟩
theorem find_cases (l:List Decl) (name:Bytes):find l name= -1∨∃(i:Nat) (d:Decl),l[i]?=some d∧find l name=(i:Int)∧declAt l (i:Int)=d:=by
 rcases findFrom_cases name l 0 with h|⟨i,d,h1,h2⟩
 ·exact .inl h
 ·exact .inr ⟨i,d,h1,by unfold find;rw[h2,Nat.zero_add],by unfold declAt;simp[h1]⟩
section
variable {B:Nat} {ea:Nat→Addr} {w:World} {g gp bm:Nat} {vd wp:Value} {s:Bytes} {st:PS}
theorem RdR.below (h:RdR B ea w g gp bm vd wp s st) {w':World} (hb:Below w.heap.size w w'):RdR B ea w' g gp bm vd wp s st:=
 h.kg_same (Kept.of_below hb (fun k hk=>.inr hk)) (hb.block g h.row.lt)
theorem RdR.drewN (h:RdR B ea w g gp bm vd wp s st) (n:Nat):RdR B ea (w.drewN n) g gp bm vd wp s st:=h.kg_same ((Kept.refl _ w).drewN n) rfl
theorem kg_below {g:Nat} {w w':World} (hb:Below w.heap.size w w'):Kg g w w':=Kept.of_below hb (fun k hk=>.inr hk)
set_option maxRecDepth 100000 in
set_option maxHeartbeats 1000000 in
theorem name_any (h:RdR B ea w g gp bm vd wp s st) (variable_:Bool):
  Calls Tryz.prog 74 #[.pointer (some ⟨g,0,none⟩),.bool variable_] w fun e w'=>OutR B ea w g gp bm s (name s variable_ st) (fun _ n v=>v= .int .i64 n) e w':=by
 by_cases hk:st.t.kind=kName
 ·have hw:want s kName st= .ok st.t (next s st):=by unfold want;rw[if_pos hk]
  have e2:name s variable_ st= .ok (find (next s st).decls st.t.text) (nameNote variable_ st.t (next s st)):=by
   unfold name;rw[hw];rfl
  rw[e2]
  have hwant:=want_any h kName
  rw[hw]at hwant
  have HW:=Lib.hid hwant
  clear hwant e2 hw hk h
  generalize next s st=st1 at*
  unfold vs at*
  go_enter Tryz.func74,Tryz.ntmps74
  go_wp2_with fail
  refine HW.out.mono ?_
  rintro e w1 ⟨v,rfl,rfl,hk1,vd1,wp1,h1⟩
  have hA0:=h1.alloc (.cells #[vs st.t.kind,vs st.t.text,.int .i64 st.t.pos] 101)
  have hA:=hA0.drewN 1
  have hkA:=(hk1.alloc (.inr hk1.size) (.cells #[vs st.t.kind,vs st.t.text,.int .i64 st.t.pos] 101)).drewN 1
  have x0:=(Row.new w1 101 [vs st.t.kind,vs st.t.text,.int .i64 st.t.pos])
  have hfind:=find_any st.t.text gp st1.decls vd1 _ hA.decls hA.dl hA.pol.lt (hA.pol.cell 0)
  obtain⟨_,_,_,_,_,c5,_⟩:=rd_cell hA0.row
  have d1:=x0.cell 1
  simp at d1
  have HF:=Lib.hid hfind
  have HA:=Lib.hid hA
  have HKA:=Lib.hid hkA
  have X0:=Lib.hid x0
  have H1:=Lib.hid h1
  clear hfind hA hA0 hkA x0 h1 hk1
  unfold encTok
  go_wp2_with fail
  (refine wp_tail 6 (by kernel_rfl) (by kernel_rfl) ?_;simp only[List.take_succ_cons,List.take_zero,List.drop_succ_cons,List.drop_zero];repeat still_step)
  refine wpStill_nil ?_
  go_wp2_with fail
  refine HF.out.mono ?_
  rintro e w2 ⟨rfl,hb2⟩
  have h2:=HA.out.below hb2
  have hk2:=Kg.trans HKA.out (kg_below hb2)
  have x2:Row w2 w1.heap.size 101 [vs st.t.kind,vs st.t.text,.int .i64 st.t.pos]:=(hb2.block _ (by simp)).trans X0.out
  have d2:=x2.cell 2
  simp at d2
  obtain⟨_,_,_,_,_,c5',_⟩:=rd_cell h2.row
  have p0:=h2.pol.cell 0
  have en:w2.cell? ⟨9,0,none⟩=some (.iface 307 (.pointer (some (ea 5)))):=h2.env.err 5 (by omega) (by omega)
  have ek:w2.cell? ⟨10,0,none⟩=some (.iface 307 (.pointer (some (ea 6)))):=h2.env.err 6 (by omega) (by omega)
  have n5:=note_any h2 5 st.t.pos
  have n6:=note_any h2 6 st.t.pos
  have N5:=Lib.hid n5
  have N6:=Lib.hid n6
  have DL:=Lib.hid h2.decls
  have H2:=Lib.hid h2
  have HK2:=Lib.hid hk2
  clear n5 n6 h2 hk2 x2 hb2 c5 d1
  rcases find_cases st1.decls st.t.text with hf|⟨i,d,hi,hf,hd⟩
  ·have ev:nameNote variable_ st.t st1=note eNone st.t.pos st1:=by unfold nameNote;rw[hf];rfl
   rw[hf]
   go_wp2_with fail
   refine N5.out.mono ?_
   rintro e w3 ⟨rfl,hk3,wp3,h3⟩
   have F:=Lib.hid (And.intro hk3 h3)
   clear hk3 h3
   go_wp2
   go_ret
   refine⟨_,rfl,by rw[hf];rfl,Kg.trans HK2.out F.out.1,vd1,wp3,?_⟩
   rw[ev]
   exact F.out.2
  ·obtain⟨ao,cap,rfl⟩:=H2.out.decls.any_
   obtain⟨gd,rfl,hgd,hcell⟩:=DL.out.get_ (fun _=>rfl) hi
   have q0:w2.cell? ⟨gd,i*3,none⟩=some (.int .i64 d.kind):=hcell 0 (by omega)
   have hil:i<st1.decls.length:=(List.getElem?_eq_some_iff.1 hi).1
   have ev:nameNote variable_ st.t st1=if(d.kind==2)!=variable_ then note eKind st.t.pos st1 else st1:=by
    unfold nameNote;rw[hf,if_neg (by omega),hd]
   clear hcell hd hi
   rw[hf]
   by_cases h2:d.kind=2
   ·have h2':(d.kind:Int)=2:=by omega
    cases variable_ with
    |true=>
     have ev:nameNote true st.t st1=st1:=by rw[ev,h2];rfl
     clear h2
     go_wp2
     go_ret
     refine⟨_,rfl,by rw[hf];rfl,HK2.out,.slice (some ⟨gd,0,none⟩) st1.decls.length cap,wp1,?_⟩
     rw[ev]
     exact H2.out
    |false=>
     have ev:nameNote false st.t st1=note eKind st.t.pos st1:=by rw[ev,h2];rfl
     clear h2
     go_wp2_with fail
     refine N6.out.mono ?_
     rintro e w3 ⟨rfl,hk3,wp3,h3⟩
     have F:=Lib.hid (And.intro hk3 h3)
     clear hk3 h3
     go_wp2
     go_ret
     refine⟨_,rfl,by rw[hf];rfl,Kg.trans HK2.out F.out.1,.slice (some ⟨gd,0,none⟩) st1.decls.length cap,wp3,?_⟩
     rw[ev]
     exact F.out.2
   ·have h2':¬(d.kind:Int)=2:=by omega
    have h2b:(d.kind==2)=false:=by simpa using h2
    have h2c:((d.kind:Int)==2)=false:=by simpa using h2'
    cases variable_ with
    |true=>
     have ev:nameNote true st.t st1=note eKind st.t.pos st1:=by rw[ev,h2b];rfl
     clear h2 h2b
     go_wp2_with fail
     refine N6.out.mono ?_
     rintro e w3 ⟨rfl,hk3,wp3,h3⟩
     have F:=Lib.hid (And.intro hk3 h3)
     clear hk3 h3
     go_wp2
     go_ret
     refine⟨_,rfl,by rw[hf];rfl,Kg.trans HK2.out F.out.1,.slice (some ⟨gd,0,none⟩) st1.decls.length cap,wp3,?_⟩
     rw[ev]
     exact F.out.2
    |false=>
     have ev:nameNote false st.t st1=st1:=by rw[ev,h2b];rfl
     clear h2 h2b
     go_wp2
     go_ret
     refine⟨_,rfl,by rw[hf];rfl,HK2.out,.slice (some ⟨gd,0,none⟩) st1.decls.length cap,wp1,?_⟩
     rw[ev]
     exact H2.out
 ·have hw:want s kName st= .bad eSyntax st.t.pos:=by unfold want fail;rw[if_neg hk]
  have e2:name s variable_ st= .bad eSyntax st.t.pos:=by unfold name;rw[hw];rfl
  rw[e2]
  have hwant:=want_any h kName
  rw[hw]at hwant
  have HW:=Lib.hid hwant
  clear hwant e2 hw hk h
  unfold vs at*
  go_enter Tryz.func74,Tryz.ntmps74
  go_wp2_with fail
  refine HW.out.mono ?_
  rintro e w1 ⟨gf,rfl,hF⟩
  go_wp2
  exact⟨rfl,gf,rfl,hF⟩
end
end Go.Proofs.YtepoejiigmhlbaaGreatDoor.Ev
namespace Go.Proofs.YtepoejiigmhlbaaGreatDoor.Ev
open Go Go.RowKit
theorem results_cell {P:Program} {fn:Func} {r:Nat} {t:TypeId} {e:TypeId} {R:Nat} {cs:List Value} {w:World} {tmps:Array Value} (h:fn.results=#[.cell r t])
  (ha:∀w,(isAgg t).run P w= .ok true w) (hz:∀w,(Go.sizeOf t).run P w= .ok cs.length w) (hp:tmps.getD r undef= .pointer (some ⟨R,0,none⟩)) (hr:Row w R e cs):
  (results fn tmps).run P w= .ok (.agg cs.toArray) w:=by
 have hl:=run_loadCells_list (P:=P) (w:=w) ⟨R,0,none⟩ cs (fun j v hj=>by
  have:=hr.cell j
  rw[hj]at this
  by_cases hj0:j=0
  ·subst hj0;simpa[Addr.add]using this
  ·simpa[Addr.add,hj0]using this)
 have hq:tmps[r]?.getD undef= .pointer (some ⟨R,0,none⟩):=by simpa[Array.getD_eq_getD_getElem?]using hp
 simp[results,h,hq,asAddr,loadVar,ha,hz,hl]
structure Held (B:Nat) (ea:Nat→Addr) (g gp bm:Nat) (vd wp:Value) (s:Bytes) (st:PS) (w0 w:World) (R:Nat) (T:TypeId) (cs:List Value):Prop where
 rd:RdR B ea w g gp bm vd wp s st
 kg:Kg g w0 w
 row:Row w R T cs
 new:w0.heap.size≤R
 b:B≤R
 t:T≠63∧T≠83∧T≠59∧T≠103
section
variable {B:Nat} {ea:Nat→Addr} {w w0:World} {g gp bm R:Nat} {vd wp:Value} {s:Bytes} {st:PS} {T:TypeId} {cs:List Value}
theorem Held.start (h:RdR B ea w g gp bm vd wp s st) (T:TypeId) (cs:List Value) (ht:T≠63∧T≠83∧T≠59∧T≠103):
  Held B ea g gp bm vd wp s st w (w.alloc (.cells cs.toArray T)) w.heap.size T cs:=
 ⟨h.alloc _,(Kept.refl _ _).alloc (.inr (Nat.le_refl _)) _,Row.new _ _ _,Nat.le_refl _,h.env.size,ht⟩
theorem Held.ne (h:Held B ea g gp bm vd wp s st w0 w R T cs):R≠g:=h.row.ne_ h.rd.row h.t.2.2.2
theorem Held.call (h:Held B ea g gp bm vd wp s st w0 w R T cs) {w':World} {st':PS} {vd' wp':Value} (hk:Kg g w w') (hr:RdR B ea w' g gp bm vd' wp' s st'):Held B ea g gp bm vd' wp' s st' w0 w' R T cs:=
 ⟨hr,Kg.trans h.kg hk,(kg_at hk h.row.lt h.ne).trans h.row,h.new,h.b,h.t⟩
theorem Held.set_ (h:Held B ea g gp bm vd wp s st w0 w R T cs) (hs:T≠203) (i:Nat) (u:Value):Held B ea g gp bm vd wp s st w0 (w.setCell ⟨R,i,none⟩ u) R T (cs.set i u):=
 ⟨h.rd.set_ h.b h.row ⟨h.t.1,h.t.2.1,hs,h.t.2.2.1⟩ h.t.2.2.2 i u,h.kg.setCell (p:=⟨R,i,none⟩) (.inr h.new) u,h.row.set_ i u,h.new,h.b,h.t⟩
end
end Go.Proofs.YtepoejiigmhlbaaGreatDoor.Ev
namespace Go.Proofs.YtepoejiigmhlbaaGreatDoor.Ev
open Go Go.RowKit
section
variable {B:Nat} {ea:Nat→Addr} {w:World} {g gp bm:Nat} {vd wp:Value} {s:Bytes} {st:PS}
theorem sizeVal (w:World):(Go.sizeOf 199).run Tryz.prog w= .ok 2 w:=by kernel_rfl
theorem aggVal (w:World):(isAgg 199).run Tryz.prog w= .ok true w:=by kernel_rfl
theorem value_arm {α:Type} {x:Out α} {f:α→Val} {n:α→Int} {k:Bytes} (hf:∀a,encVal (f a)=[vs k,.int .i64 (n a)]) {W w0:World} {stv:PS} {vd0 wp0:Value} {T:Type} (hA:Held B ea g gp bm vd0 wp0 s stv w0 W w0.heap.size 199 [vs [],.int .i64 0])
  {e:Ending} {w1:World} (ho:OutR B ea W g gp bm s x (fun _ a v=>v= .int .i64 (n a)) e w1):
  (∃a st1,x= .ok a st1∧e= .returned (.int .i64 (n a))∧(∀j,w1.frozen? ⟨w0.heap.size,j,none⟩=false)∧w1.cell? ⟨w0.heap.size,0,none⟩=some (vs [])∧w1.cell? ⟨w0.heap.size,1,none⟩=some (.int .i64 0)∧
   ∃vd wp,RdR B ea ((w1.setCell ⟨w0.heap.size,0,none⟩ (vs k)).setCell ⟨w0.heap.size,1,none⟩ (.int .i64 (n a))) g gp bm vd wp s st1∧Kg g w0 ((w1.setCell ⟨w0.heap.size,0,none⟩ (vs k)).setCell ⟨w0.heap.size,1,none⟩ (.int .i64 (n a)))∧
    Row ((w1.setCell ⟨w0.heap.size,0,none⟩ (vs k)).setCell ⟨w0.heap.size,1,none⟩ (.int .i64 (n a))) w0.heap.size 199 (encVal (f a)))∨
  (∃k pos,x= .bad k pos∧Fails B ea w0 e w1 k pos):=by
 cases x with
 |ok a st1=>
  obtain⟨v,rfl,rfl,hk1,vd1,wp1,h1⟩:=ho
  have H1:=hA.call hk1 h1
  have H3:=(H1.set_ (by decide) 0 (vs k)).set_ (by decide) 1 (.int .i64 (n a))
  exact .inl ⟨a,st1,rfl,rfl,fun j=>H1.row.frozen j,H1.row.cell 0,H1.row.cell 1,_,_,H3.rd,H3.kg,by rw[hf];exact H3.row⟩
 |bad k pos=>
  obtain⟨gf,h1,h2,h3,h4⟩:=ho
  refine .inr ⟨k,pos,rfl,gf,h1,?_,h3,h4⟩
  exact Kept.trans (hA.kg.mono (fun b hb=>by
   rcases hb with rfl|hb
   ·exact hA.rd.g0
   ·exact Nat.le_trans (Nat.le_of_lt_succ (Nat.lt_succ_of_le (hA.b))) hb)) h2
set_option maxRecDepth 100000 in
set_option maxHeartbeats 1000000 in
theorem value_num (h:RdR B ea w g gp bm vd wp s st) (ok:st.Ok s) (hk:st.t.kind=kNumber):
  Calls Tryz.prog 151 #[.pointer (some ⟨g,0,none⟩)] w fun e w'=>OutR B ea w g gp bm s ((number s 0 999 st).map .num) (fun _ a v=>v= .agg (encVal a).toArray) e w':=by
 have hA:=Held.start h 199 [vs [],.int .i64 0] (by decide)
 have hn:=number_any hA.rd ok 0 999
 obtain⟨_,_,c2,_⟩:=rd_cell hA.rd.row
 have HA:=Lib.hid hA
 have HN:=Lib.hid hn
 have hge:=hA.ne
 clear hA hn h ok
 rw[hk]at c2
 clear hk
 unfold vs at*
 go_enter Tryz.func151,Tryz.ntmps151
 go_wp2_with fail
 refine HN.out.mono ?_
 rintro e w1 ho
 rcases value_arm (f:=.num) (n:=id) (k:=kNumber) (T:=Unit) (fun _=>rfl) HA.out ho with⟨a,st1,hx,rfl,z,d0,d1,vd1,wp1,hr,hkg,hrow⟩|⟨k,pos,hx,gf,rfl,hF⟩
 ·have HX:=Lib.hid hx
  have F:=Lib.hid (And.intro hr (And.intro hkg hrow))
  clear hr hkg hrow hx ho
  unfold vs id at*
  go_wp2
  refine bodyPost_ret (results_cell (cs:=encVal (.num a)) Tryz.results151 aggVal sizeVal rfl F.out.2.2) rfl ?_
  rw[HX.out]
  exact⟨_,rfl,rfl,F.out.2.1,vd1,wp1,F.out.1⟩
 ·have HX:=Lib.hid hx
  clear ho hx
  go_wp2
  rw[HX.out]
  exact⟨rfl,gf,rfl,hF⟩
theorem take_yes {k:Bytes} (hk:st.t.kind=k):take s k st=(true,next s st):=by unfold take;rw[if_pos hk]
theorem take_no {k:Bytes} (hk:st.t.kind≠k):take s k st=(false,st):=by unfold take;rw[if_neg hk]
set_option maxRecDepth 100000 in
set_option maxHeartbeats 1000000 in
theorem value_len (h:RdR B ea w g gp bm vd wp s st) (hk:st.t.kind=kLen):
  Calls Tryz.prog 151 #[.pointer (some ⟨g,0,none⟩)] w fun e w'=>OutR B ea w g gp bm s ((name s false (next s st)).map .len) (fun _ a v=>v= .agg (encVal a).toArray) e w':=by
 have hA:=Held.start h 199 [vs [],.int .i64 0] (by decide)
 have ht:=take_any hA.rd kLen
 rw[take_yes hk]at ht
 obtain⟨_,_,c2,_⟩:=rd_cell hA.rd.row
 have HA:=Lib.hid hA
 have HT:=Lib.hid ht
 clear hA ht h
 rw[hk]at c2
 clear hk
 unfold vs at*
 go_enter Tryz.func151,Tryz.ntmps151
 go_wp2_with fail
 refine HT.out.mono ?_
 rintro e w0 ⟨rfl,hk0,h0⟩
 have hA0:=HA.out.call hk0 h0
 have hn:=name_any hA0.rd false
 have HA0:=Lib.hid hA0
 have HN:=Lib.hid hn
 clear hk0 h0 hA0 hn
 go_wp2_with fail
 refine HN.out.mono ?_
 rintro e w1 ho
 rcases value_arm (f:=.len) (n:=id) (k:=kLen) (T:=Unit) (fun _=>rfl) HA0.out ho with⟨a,st1,hx,rfl,z,d0,d1,vd1,wp1,hr,hkg,hrow⟩|⟨k,pos,hx,gf,rfl,hF⟩
 ·have HX:=Lib.hid hx
  have F:=Lib.hid (And.intro hr (And.intro hkg hrow))
  clear hr hkg hrow hx ho
  unfold vs id at*
  go_wp2
  refine bodyPost_ret (results_cell (cs:=encVal (.len a)) Tryz.results151 aggVal sizeVal rfl F.out.2.2) rfl ?_
  rw[HX.out]
  exact⟨_,rfl,rfl,F.out.2.1,vd1,wp1,F.out.1⟩
 ·have HX:=Lib.hid hx
  clear ho hx
  go_wp2
  rw[HX.out]
  exact⟨rfl,gf,rfl,hF⟩
set_option maxRecDepth 100000 in
set_option maxHeartbeats 1000000 in
theorem value_freq (h:RdR B ea w g gp bm vd wp s st) (hk:st.t.kind=kFreq):
  Calls Tryz.prog 151 #[.pointer (some ⟨g,0,none⟩)] w fun e w'=>OutR B ea w g gp bm s (.ok .freq (next s st)) (fun _ a v=>v= .agg (encVal a).toArray) e w':=by
 have hA:=Held.start h 199 [vs [],.int .i64 0] (by decide)
 have ht:=take_any hA.rd kLen
 rw[take_no (by rw[hk];decide)]at ht
 obtain⟨_,_,c2,_⟩:=rd_cell hA.rd.row
 have HA:=Lib.hid hA
 have HT:=Lib.hid ht
 clear hA ht h
 have HK:=Lib.hid hk
 rw[hk]at c2
 clear hk
 unfold vs at*
 go_enter Tryz.func151,Tryz.ntmps151
 go_wp2_with fail
 refine HT.out.mono ?_
 rintro e w0 ⟨rfl,hk0,h0⟩
 have hA0:=HA.out.call hk0 h0
 have ht2:=take_any hA0.rd kFreq
 rw[take_yes HK.out]at ht2
 have HA0:=Lib.hid hA0
 have HT2:=Lib.hid ht2
 clear hk0 h0 hA0 ht2
 go_wp2_with fail
 refine HT2.out.mono ?_
 rintro e w1 ⟨rfl,hk1,h1⟩
 have hA1:=HA0.out.call hk1 h1
 have z:=fun j=>hA1.row.frozen j
 have d0:=hA1.row.cell 0
 have d1:=hA1.row.cell 1
 have F:=Lib.hid ((hA1.set_ (by decide) 0 (vs kFreq)).set_ (by decide) 1 (.int .i64 0))
 clear hk1 h1 hA1
 simp at d0 d1
 unfold vs at*
 go_wp2
 refine bodyPost_ret (results_cell (cs:=encVal .freq) Tryz.results151 aggVal sizeVal rfl F.out.row) rfl ?_
 exact⟨_,rfl,rfl,F.out.kg,_,_,F.out.rd⟩
set_option maxRecDepth 100000 in
set_option maxHeartbeats 1000000 in
theorem value_var (h:RdR B ea w g gp bm vd wp s st) (hk1:st.t.kind≠kNumber) (hk2:st.t.kind≠kLen) (hk3:st.t.kind≠kFreq):
  Calls Tryz.prog 151 #[.pointer (some ⟨g,0,none⟩)] w fun e w'=>OutR B ea w g gp bm s ((name s true st).map .var) (fun _ a v=>v= .agg (encVal a).toArray) e w':=by
 have hA:=Held.start h 199 [vs [],.int .i64 0] (by decide)
 have ht:=take_any hA.rd kLen
 rw[take_no hk2]at ht
 obtain⟨_,_,c2,_⟩:=rd_cell hA.rd.row
 have HA:=Lib.hid hA
 have HT:=Lib.hid ht
 have HK3:=Lib.hid hk3
 have e1:(st.t.kind==kNumber)=false:=by simpa using hk1
 clear hA ht h hk1 hk2 hk3
 unfold vs at*
 go_enter Tryz.func151,Tryz.ntmps151
 go_wp2_with fail
 refine HT.out.mono ?_
 rintro e w0 ⟨rfl,hk0,h0⟩
 have hA0:=HA.out.call hk0 h0
 have ht2:=take_any hA0.rd kFreq
 rw[take_no HK3.out]at ht2
 have HA0:=Lib.hid hA0
 have HT2:=Lib.hid ht2
 clear hk0 h0 hA0 ht2
 go_wp2_with fail
 refine HT2.out.mono ?_
 rintro e w1 ⟨rfl,hk1,h1⟩
 have hA1:=HA0.out.call hk1 h1
 have hn:=name_any hA1.rd true
 have HA1:=Lib.hid hA1
 have HN:=Lib.hid hn
 clear hk1 h1 hA1 hn
 go_wp2_with fail
 refine HN.out.mono ?_
 rintro e w2 ho
 rcases value_arm (f:=.var) (n:=id) (k:=kVar) (T:=Unit) (fun _=>rfl) HA1.out ho with⟨a,st1,hx,rfl,z,d0,d1,vd1,wp1,hr,hkg,hrow⟩|⟨k,pos,hx,gf,rfl,hF⟩
 ·have HX:=Lib.hid hx
  have F:=Lib.hid (And.intro hr (And.intro hkg hrow))
  clear hr hkg hrow hx ho
  unfold vs id at*
  go_wp2
  refine bodyPost_ret (results_cell (cs:=encVal (.var a)) Tryz.results151 aggVal sizeVal rfl F.out.2.2) rfl ?_
  rw[HX.out]
  exact⟨_,rfl,rfl,F.out.2.1,vd1,wp1,F.out.1⟩
 ·have HX:=Lib.hid hx
  clear ho hx
  go_wp2
  rw[HX.out]
  exact⟨rfl,gf,rfl,hF⟩
theorem value_any (h:RdR B ea w g gp bm vd wp s st) (ok:st.Ok s):
  Calls Tryz.prog 151 #[.pointer (some ⟨g,0,none⟩)] w fun e w'=>OutR B ea w g gp bm s (value s st) (fun _ a v=>v= .agg (encVal a).toArray) e w':=by
 unfold value
 by_cases h1:st.t.kind=kNumber
 ·rw[if_pos h1];exact value_num h ok h1
 ·by_cases h2:st.t.kind=kLen
  ·rw[if_neg h1,if_pos h2];exact value_len h h2
  ·by_cases h3:st.t.kind=kFreq
   ·rw[if_neg h1,if_neg h2,if_pos h3];exact value_freq h h3
   ·rw[if_neg h1,if_neg h2,if_neg h3];exact value_var h h1 h2 h3
end
end Go.Proofs.YtepoejiigmhlbaaGreatDoor.Ev
namespace Go.Proofs.YtepoejiigmhlbaaGreatDoor.Ev
open Go Go.RowKit
structure Held2 (B:Nat) (ea:Nat→Addr) (g gp bm:Nat) (vd wp:Value) (s:Bytes) (st:PS) (w0 w:World) (R C:Nat) (T:TypeId) (cs ds:List Value):Prop where
 rd:RdR B ea w g gp bm vd wp s st
 kg:Kg g w0 w
 row:Row w R T cs
 row2:Row w C T ds
 new:w0.heap.size≤R
 new2:w0.heap.size≤C
 ne:R≠C
 t:T≠63∧T≠83∧T≠59∧T≠103
section
variable {B:Nat} {ea:Nat→Addr} {w w0:World} {g gp bm R C:Nat} {vd wp:Value} {s:Bytes} {st:PS} {T:TypeId} {cs ds:List Value}
theorem Held.alloc_ (h:Held B ea g gp bm vd wp s st w0 w R T cs) (o:Obj):Held B ea g gp bm vd wp s st w0 (w.alloc o) R T cs:=
 ⟨h.rd.alloc o,h.kg.alloc (.inr h.kg.size) o,h.row.alloc o,h.new,h.b,h.t⟩
theorem Held2.b (h:Held2 B ea g gp bm vd wp s st w0 w R C T cs ds) (h0:B≤w0.heap.size):B≤R∧B≤C:=⟨Nat.le_trans h0 h.new,Nat.le_trans h0 h.new2⟩
theorem Held2.start (h:Held B ea g gp bm vd wp s st w0 w R T cs) (hs:T≠203) (ds:List Value):Held2 B ea g gp bm vd wp s st w0 (w.alloc (.cells ds.toArray T)) R w.heap.size T cs ds:=
 ⟨h.rd.alloc _,h.kg.alloc (.inr h.kg.size) _,h.row.alloc _,Row.new _ _ _,h.new,h.kg.size,fun e=>by have:=h.row.lt;omega,h.t⟩
theorem Held2.call (h:Held2 B ea g gp bm vd wp s st w0 w R C T cs ds) {w':World} {st':PS} {vd' wp':Value} (hk:Kg g w w') (hr:RdR B ea w' g gp bm vd' wp' s st'):Held2 B ea g gp bm vd' wp' s st' w0 w' R C T cs ds:=
 ⟨hr,Kg.trans h.kg hk,(kg_at hk h.row.lt (h.row.ne_ h.rd.row h.t.2.2.2)).trans h.row,(kg_at hk h.row2.lt (h.row2.ne_ h.rd.row h.t.2.2.2)).trans h.row2,h.new,h.new2,h.ne,h.t⟩
theorem Held2.set_ (h:Held2 B ea g gp bm vd wp s st w0 w R C T cs ds) (h0:B≤w0.heap.size) (hs:T≠203) (i:Nat) (u:Value):Held2 B ea g gp bm vd wp s st w0 (w.setCell ⟨R,i,none⟩ u) R C T (cs.set i u) ds:=
 ⟨h.rd.set_ (h.b h0).1 h.row ⟨h.t.1,h.t.2.1,hs,h.t.2.2.1⟩ h.t.2.2.2 i u,h.kg.setCell (p:=⟨R,i,none⟩) (.inr h.new) u,h.row.set_ i u,h.row2.far (fun e=>h.ne e.symm) u,h.new,h.new2,h.ne,h.t⟩
theorem Held2.set2 (h:Held2 B ea g gp bm vd wp s st w0 w R C T cs ds) (h0:B≤w0.heap.size) (hs:T≠203) (i:Nat) (u:Value):Held2 B ea g gp bm vd wp s st w0 (w.setCell ⟨C,i,none⟩ u) R C T cs (ds.set i u):=
 ⟨h.rd.set_ (h.b h0).2 h.row2 ⟨h.t.1,h.t.2.1,hs,h.t.2.2.1⟩ h.t.2.2.2 i u,h.kg.setCell (p:=⟨C,i,none⟩) (.inr h.new2) u,h.row.far h.ne u,h.row2.set_ i u,h.new,h.new2,h.ne,h.t⟩
theorem fails_held {W:World} {e:Ending} {w':World} {k pos:Nat} (hB:B≤w0.heap.size) (hg:B≤g) (hkg:Kg g w0 W) (h:Fails B ea W e w' k pos):Fails B ea w0 e w' k pos:=by
 obtain⟨gf,h1,h2,h3⟩:=h
 exact⟨gf,h1,Kept.trans (hkg.mono (fun b hb=>hb.elim (fun e=>e▸hg) (fun hb=>Nat.le_trans hB hb))) h2,h3⟩
theorem ckVals_form (c:CK):∃b0 n1 b2 n3,ckVals c=[vs b0,.int .i64 n1,vs b2,.int .i64 n3]:=by
 cases c<;>exact⟨_,_,_,_,rfl⟩
theorem sizeCond (w:World):(Go.sizeOf 201).run Tryz.prog w= .ok 7 w:=by kernel_rfl
theorem aggCond (w:World):(isAgg 201).run Tryz.prog w= .ok true w:=by kernel_rfl
theorem oddB_succ (n:Nat):oddB (n+1)=!oddB n:=by
 unfold oddB
 rcases Nat.mod_two_eq_zero_or_one n with h|h
 ·have:(n+1)%2=1:=by omega
  rw[h,this];rfl
 ·have:(n+1)%2=0:=by omega
  rw[h,this];rfl
set_option maxRecDepth 100000 in
set_option maxHeartbeats 1000000 in
theorem cond_not {n:Nat} (hrec:∀(w:World) (vd wp:Value),RdR B ea w g gp bm vd wp s (next s st)→Calls Tryz.prog 126 #[.pointer (some ⟨g,0,none⟩)] w fun e w'=>OutR B ea w g gp bm s (cond s n (next s st)) (fun _ a v=>v= .agg (encCond a).toArray) e w')
  (h:RdR B ea w g gp bm vd wp s st) (hk:st.t.kind=kNot):
  Calls Tryz.prog 126 #[.pointer (some ⟨g,0,none⟩)] w fun e w'=>OutR B ea w g gp bm s ((cond s n (next s st)).map fun c=>⟨c.k,c.nots+1⟩) (fun _ a v=>v= .agg (encCond a).toArray) e w':=by
 have hA:=Held.start h 201 [vs [],.int .i64 0,vs [],.int .i64 0,vs [],.int .i64 0,.bool false] (by decide)
 have ht:=take_any hA.rd kNot
 rw[take_yes hk]at ht
 have HA:=Lib.hid hA
 have HT:=Lib.hid ht
 have HR:=Lib.hid hrec
 have hB:=h.env.size
 have hg:=h.g0
 clear hA ht h hk hrec
 unfold vs at*
 go_enter Tryz.func126,Tryz.ntmps126
 go_wp2_with fail
 refine HT.out.mono ?_
 rintro e w0 ⟨rfl,hk0,h0⟩
 have hA0:=HA.out.call hk0 h0
 have hn:=HR.out _ _ _ hA0.rd
 have HA0:=Lib.hid hA0
 have HN:=Lib.hid hn
 clear hk0 h0 hA0 hn
 go_wp2_with fail
 refine HN.out.mono ?_
 rintro e w1 ho
 cases hx:cond s n (next s st)with
 |bad k pos=>
  rw[hx]at ho
  obtain⟨gf,rfl,hF⟩:=fails_held hB hg HA0.out.kg ho
  have HX:=Lib.hid hx
  clear hx
  go_wp2
  rw[HX.out]
  exact⟨rfl,gf,rfl,hF⟩
 |ok c st1=>
  rw[hx]at ho
  obtain⟨v,rfl,rfl,hk1,vd1,wp1,h1⟩:=ho
  obtain⟨b0,n1,b2,n3,hv⟩:=ckVals_form c.k
  have hA1:=HA0.out.call hk1 h1
  have z:=fun j=>hA1.row.frozen j
  have hlt:=hA1.row.lt
  have hne:¬w.heap.size=w1.heap.size:=by omega
  have e0:encCond c=[vs (ckWord c.k),.int .i64 (ckNum c.k),vs b0,.int .i64 n1,vs b2,.int .i64 n3,.bool (oddB c.nots)]:=by unfold encCond;rw[hv];rfl
  have e1:encCond ⟨c.k,c.nots+1⟩=[vs (ckWord c.k),.int .i64 (ckNum c.k),vs b0,.int .i64 n1,vs b2,.int .i64 n3,.bool !oddB c.nots]:=by unfold encCond;rw[hv,oddB_succ];rfl
  have q4:=(((((((hA1.set_ (by decide) 0 (vs (ckWord c.k))).set_ (by decide) 1 (.int .i64 (ckNum c.k))).set_ (by decide) 2 (vs b0)).set_ (by decide) 3 (.int .i64 n1)).set_ (by decide) 4 (vs b2)).set_ (by decide) 5 (.int .i64 n3)).set_ (by decide) 6 (.bool !oddB c.nots)).alloc_
   (.cells #[vs (ckWord c.k),.int .i64 (ckNum c.k),vs b0,.int .i64 n1,vs b2,.int .i64 n3,.bool !oddB c.nots] 201)
  rw[e0]
  have d0:=hA1.row.cell 0
  have d1:=hA1.row.cell 1
  have d2:=hA1.row.cell 2
  have d3:=hA1.row.cell 3
  have d4:=hA1.row.cell 4
  have d5:=hA1.row.cell 5
  have d6:=hA1.row.cell 6
  have Q4:=Lib.hid q4
  have E1:=Lib.hid e1
  have HX:=Lib.hid hx
  clear q4 hA1 e0 e1 hv hk1 h1 hx
  simp at d0 d1 d2 d3 d4 d5 d6
  unfold vs at*
  go_wp2
  have hrow:=Q4.out.row
  have sz:∀w,(Go.sizeOf 201).run Tryz.prog w= .ok (encCond ⟨c.k,c.nots+1⟩).length w:=by rw[encCond_len];exact sizeCond
  refine bodyPost_ret (results_cell (cs:=encCond ⟨c.k,c.nots+1⟩) Tryz.results126 aggCond sz rfl (by rw[E1.out];exact hrow)) rfl ?_
  rw[HX.out]
  exact⟨_,rfl,rfl,Q4.out.kg,_,_,Q4.out.rd⟩
set_option maxRecDepth 100000 in
set_option maxHeartbeats 2000000 in
theorem cond_word (k:Bytes) (mk:Int→CK) (hmk:∀n,encCond ⟨mk n,0⟩=[vs k,.int .i64 n,vs [],.int .i64 0,vs [],.int .i64 0,.bool false]) (hk3:k=kFull∨k=kEmpty∨k=kWarm)
  (h:RdR B ea w g gp bm vd wp s st) (hk:st.t.kind=k):
  Calls Tryz.prog 126 #[.pointer (some ⟨g,0,none⟩)] w fun e w'=>OutR B ea w g gp bm s ((name s false (next s st)).map fun n=>⟨mk n,0⟩) (fun _ a v=>v= .agg (encCond a).toArray) e w':=by
 have hA:=Held.start h 201 [vs [],.int .i64 0,vs [],.int .i64 0,vs [],.int .i64 0,.bool false] (by decide)
 have hnk:st.t.kind≠kNot:=by rw[hk];rcases hk3 with rfl|rfl|rfl<;>decide
 have ht:=take_any hA.rd kNot
 rw[take_no hnk]at ht
 have HA:=Lib.hid hA
 have HT:=Lib.hid ht
 have hB:=h.env.size
 have hg:=h.g0
 have HK:=Lib.hid hk
 have HM:=Lib.hid hmk
 clear hA ht h hk hnk hmk
 rcases hk3 with rfl|rfl|rfl
 all_goals
  unfold vs at*
  go_enter Tryz.func126,Tryz.ntmps126
  go_wp2_with fail
  refine HT.out.mono ?_
  rintro e w0 ⟨rfl,hk0,h0⟩
  have hA0:=HA.out.call hk0 h0
  obtain⟨_,_,c2,_⟩:=rd_cell hA0.rd.row
  have hc2:=HK.out
  rw[hc2]at c2
  clear hc2
  have hn:=next_all (hA0.alloc_ (.cells #[vs st.t.kind,.int .i64 0,vs [],.int .i64 0,vs [],.int .i64 0,.bool false] 201)).rd
  have q0:=Held2.start hA0 (by decide) [vs st.t.kind,.int .i64 0,vs [],.int .i64 0,vs [],.int .i64 0,.bool false]
  rw[HK.out]at hn q0
  have Q0:=Lib.hid q0
  have HN:=Lib.hid hn
  clear hk0 h0 hA0 hn q0
  unfold vs at*
  go_wp2_with fail
  refine HN.out.mono ?_
  rintro e w1 ⟨rfl,hk1,h1⟩
  have q1:=Q0.out.call hk1 h1
  have hn:=name_any q1.rd false
  have Q1:=Lib.hid q1
  have HN2:=Lib.hid hn
  clear hk1 h1 q1 hn
  go_wp2_with fail
  refine HN2.out.mono ?_
  rintro e w2 ho
  cases hx:name s false (next s st)with
  |bad k pos=>
   rw[hx]at ho
   obtain⟨gf,rfl,hF⟩:=fails_held hB hg Q1.out.kg ho
   have HX:=Lib.hid hx
   clear hx
   go_wp2
   rw[HX.out]
   exact⟨rfl,gf,rfl,hF⟩
  |ok n st1=>
   rw[hx]at ho
   obtain⟨v,rfl,rfl,hk2,vd2,wp2,h2⟩:=ho
   have q2:=Q1.out.call hk2 h2
   have z:=fun j=>q2.row.frozen j
   have z2:=fun j=>q2.row2.frozen j
   have hne:¬w.heap.size=w0.heap.size:=q2.ne
   have hne':¬w0.heap.size=w.heap.size:=fun e=>hne e.symm
   have d0:=q2.row.cell 0
   have d1:=q2.row.cell 1
   have d2:=q2.row.cell 2
   have d3:=q2.row.cell 3
   have d4:=q2.row.cell 4
   have d5:=q2.row.cell 5
   have d6:=q2.row.cell 6
   have e0:=q2.row2.cell 0
   have e1:=q2.row2.cell 1
   have e2:=q2.row2.cell 2
   have e3:=q2.row2.cell 3
   have e4:=q2.row2.cell 4
   have e5:=q2.row2.cell 5
   have e6:=q2.row2.cell 6
   have q4:=(((((((q2.set2 hB (by decide) 1 (.int .i64 n)).set_ hB (by decide) 0 (vs st.t.kind)).set_ hB (by decide) 1 (.int .i64 n)).set_ hB (by decide) 2 (vs [])).set_ hB (by decide) 3 (.int .i64 0)).set_ hB (by decide) 4 (vs [])).set_ hB (by decide) 5 (.int .i64 0)).set_ hB (by decide) 6 (.bool false)
   rw[HK.out]at q4
   have Q4:=Lib.hid q4
   have HX:=Lib.hid hx
   clear q2 q4 hk2 h2 hx
   simp at d0 d1 d2 d3 d4 d5 d6 e0 e1 e2 e3 e4 e5 e6
   unfold vs at*
   go_wp2
   refine bodyPost_ret (results_cell (cs:=[vs _,.int .i64 n,vs [],.int .i64 0,vs [],.int .i64 0,.bool false]) Tryz.results126 aggCond sizeCond rfl Q4.out.row) rfl ?_
   rw[HX.out]
   exact⟨_,rfl,(by show _=Value.agg (encCond ⟨mk n,0⟩).toArray;rw[HM.out]),Q4.out.kg,_,_,Q4.out.rd⟩
set_option maxRecDepth 100000 in
set_option maxHeartbeats 4000000 in
theorem cond_less (h:RdR B ea w g gp bm vd wp s st) (ok:st.Ok s) (hk0:st.t.kind≠kNot) (hk1:st.t.kind≠kFull) (hk2:st.t.kind≠kEmpty) (hk3:st.t.kind≠kWarm):
  Calls Tryz.prog 126 #[.pointer (some ⟨g,0,none⟩)] w fun e w'=>OutR B ea w g gp bm s
   ((value s st).bind fun a st=>(want s kLess st).bind fun _ st=>(value s st).map fun b=>⟨.less a b,0⟩) (fun _ a v=>v= .agg (encCond a).toArray) e w':=by
 have hA:=Held.start h 201 [vs [],.int .i64 0,vs [],.int .i64 0,vs [],.int .i64 0,.bool false] (by decide)
 have ht:=take_any hA.rd kNot
 rw[take_no hk0]at ht
 have HA:=Lib.hid hA
 have HT:=Lib.hid ht
 have hB:=h.env.size
 have hg:=h.g0
 have x1:(st.t.kind==kFull)=false:=by simpa using hk1
 have x2:(st.t.kind==kEmpty)=false:=by simpa using hk2
 have x3:(st.t.kind==kWarm)=false:=by simpa using hk3
 clear hA ht h hk0 hk1 hk2 hk3
 unfold vs at*
 go_enter Tryz.func126,Tryz.ntmps126
 go_wp2_with fail
 refine HT.out.mono ?_
 rintro e w0 ⟨rfl,hk0,h0⟩
 have hA0:=HA.out.call hk0 h0
 obtain⟨_,_,c2,_⟩:=rd_cell hA0.rd.row
 have q0:=Held2.start hA0 (by decide) [vs kLessWord,.int .i64 0,vs [],.int .i64 0,vs [],.int .i64 0,.bool false]
 have hn:=value_any q0.rd ok
 have Q0:=Lib.hid q0
 have HN:=Lib.hid hn
 clear hk0 h0 hA0 hn q0
 unfold vs at*
 go_wp2_with fail
 refine HN.out.mono ?_
 rintro e w1 ho
 cases hx:value s st with
 |bad k pos=>
  rw[hx]at ho
  obtain⟨gf,rfl,hF⟩:=fails_held hB hg Q0.out.kg ho
  have HX:=Lib.hid hx
  clear hx
  go_wp2
  rw[HX.out]
  exact⟨rfl,gf,rfl,hF⟩
 |ok a st1=>
  rw[hx]at ho
  obtain⟨v,rfl,rfl,hk1,vd1,wp1,h1⟩:=ho
  have ok1:=(value_ok ok hx).1.ok
  have q1:=Q0.out.call hk1 h1
  have q2:=(q1.set2 hB (by decide) 2 (vs (valWord a))).set2 hB (by decide) 3 (.int .i64 (valNum a))
  have z2:=fun j=>q1.row2.frozen j
  have e2:=q1.row2.cell 2
  have e3:=q1.row2.cell 3
  have hn:=want_any q2.rd kLess
  have Q2:=Lib.hid q2
  have HN2:=Lib.hid hn
  have HX:=Lib.hid hx
  have HO:=Lib.hid ok1
  clear hk1 h1 q1 q2 hn hx ok1
  simp at e2 e3
  unfold encVal vs at*
  go_wp2_with fail
  refine HN2.out.mono ?_
  rintro e w2 ho
  cases hy:want s kLess st1 with
  |bad k pos=>
   rw[hy]at ho
   obtain⟨gf,rfl,hF⟩:=fails_held hB hg Q2.out.kg ho
   have HY:=Lib.hid hy
   clear hy
   go_wp2
   refine⟨rfl,?_⟩
   rw[HX.out]
   show OutR _ _ _ _ _ _ _ ((want s kLess st1).bind _) _ _ _
   rw[HY.out]
   exact⟨gf,rfl,hF⟩
  |ok t st2=>
   rw[hy]at ho
   obtain⟨v,rfl,rfl,hk2,vd2,wp2,h2⟩:=ho
   have ok2:st2.Ok s:=by obtain⟨_,_,e⟩:=want_ok hy;rw[e];exact next_ok HO.out
   have q3:=Q2.out.call hk2 h2
   have hn:=value_any q3.rd ok2
   have Q3:=Lib.hid q3
   have HN3:=Lib.hid hn
   have HY:=Lib.hid hy
   clear hk2 h2 q3 hn hy ok2
   go_wp2_with fail
   refine HN3.out.mono ?_
   rintro e w3 ho
   cases hz:value s st2 with
   |bad k pos=>
    rw[hz]at ho
    obtain⟨gf,rfl,hF⟩:=fails_held hB hg Q3.out.kg ho
    have HZ:=Lib.hid hz
    clear hz
    go_wp2
    refine⟨rfl,?_⟩
    rw[HX.out]
    show OutR _ _ _ _ _ _ _ ((want s kLess st1).bind _) _ _ _
    rw[HY.out]
    show OutR _ _ _ _ _ _ _ ((value s st2).map _) _ _ _
    rw[HZ.out]
    exact⟨gf,rfl,hF⟩
   |ok b st3=>
    rw[hz]at ho
    obtain⟨v,rfl,rfl,hk3,vd3,wp3,h3⟩:=ho
    have q4:=Q3.out.call hk3 h3
    have z:=fun j=>q4.row.frozen j
    have z2':=fun j=>q4.row2.frozen j
    have hne:¬w.heap.size=w0.heap.size:=q4.ne
    have hne':¬w0.heap.size=w.heap.size:=fun e=>hne e.symm
    have d0:=q4.row.cell 0
    have d1:=q4.row.cell 1
    have d2:=q4.row.cell 2
    have d3:=q4.row.cell 3
    have d4:=q4.row.cell 4
    have d5:=q4.row.cell 5
    have d6:=q4.row.cell 6
    have f0:=q4.row2.cell 0
    have f1:=q4.row2.cell 1
    have f2:=q4.row2.cell 2
    have f3:=q4.row2.cell 3
    have f4:=q4.row2.cell 4
    have f5:=q4.row2.cell 5
    have f6:=q4.row2.cell 6
    have q5:=((((((((q4.set2 hB (by decide) 4 (vs (valWord b))).set2 hB (by decide) 5 (.int .i64 (valNum b))).set_ hB (by decide) 0 (vs kLessWord)).set_ hB (by decide) 1 (.int .i64 0)).set_ hB (by decide) 2 (vs (valWord a))).set_ hB (by decide) 3 (.int .i64 (valNum a))).set_ hB (by decide) 4 (vs (valWord b))).set_ hB (by decide) 5 (.int .i64 (valNum b))).set_ hB (by decide) 6 (.bool false)
    have Q5:=Lib.hid q5
    have HZ:=Lib.hid hz
    clear q4 q5 hk3 h3 hz z2 e2 e3
    simp at d0 d1 d2 d3 d4 d5 d6 f0 f1 f2 f3 f4 f5 f6
    unfold encVal vs at*
    go_wp2
    refine bodyPost_ret (results_cell (cs:=[vs kLessWord,.int .i64 0,vs (valWord a),.int .i64 (valNum a),vs (valWord b),.int .i64 (valNum b),.bool false]) Tryz.results126 aggCond sizeCond rfl Q5.out.row) rfl ?_
    rw[HX.out]
    show OutR _ _ _ _ _ _ _ ((want s kLess st1).bind _) _ _ _
    rw[HY.out]
    show OutR _ _ _ _ _ _ _ ((value s st2).map _) _ _ _
    rw[HZ.out]
    exact⟨_,rfl,rfl,Q5.out.kg,_,_,Q5.out.rd⟩
theorem cond_any:∀(n:Nat) (st:PS) (w:World) (vd wp:Value),RdR B ea w g gp bm vd wp s st→st.Ok s→left s st<n→
  Calls Tryz.prog 126 #[.pointer (some ⟨g,0,none⟩)] w fun e w'=>OutR B ea w g gp bm s (cond s n st) (fun _ a v=>v= .agg (encCond a).toArray) e w'
 |0,st,w,vd,wp,h,ok,hl=>by omega
 |n+1,st,w,vd,wp,h,ok,hl=>by
  unfold cond
  by_cases h0:st.t.kind=kNot
  ·rw[if_pos h0]
   exact cond_not (fun w vd wp h=>cond_any n (next s st) w vd wp h (next_ok ok) (by have:=next_lt ok h0 (by decide) (by decide);omega)) h h0
  ·rw[if_neg h0]
   unfold condBase
   by_cases h1:st.t.kind=kFull
   ·rw[if_pos h1];exact cond_word kFull .full (fun _=>rfl) (.inl rfl) h h1
   ·by_cases h2:st.t.kind=kEmpty
    ·rw[if_neg h1,if_pos h2];exact cond_word kEmpty .empty (fun _=>rfl) (.inr (.inl rfl)) h h2
    ·by_cases h3:st.t.kind=kWarm
     ·rw[if_neg h1,if_neg h2,if_pos h3];exact cond_word kWarm .warm (fun _=>rfl) (.inr (.inr rfl)) h h3
     ·rw[if_neg h1,if_neg h2,if_neg h3];exact cond_less h ok h0 h1 h2 h3
end
end Go.Proofs.YtepoejiigmhlbaaGreatDoor.Ev
namespace Go.Proofs.YtepoejiigmhlbaaGreatDoor.Ev
open Go Go.RowKit
section
variable {B:Nat} {ea:Nat→Addr} {w w0:World} {g gp bm:Nat} {vd wp:Value} {s:Bytes} {st:PS}
theorem RdR.setDepth (h:RdR B ea w g gp bm vd wp s st) (n:Nat) {i:Int} (hi:i=n):RdR B ea (w.setCell ⟨g,7,none⟩ (.int .i64 i)) g gp bm vd wp s {st with depth:=n}:=by
 subst hi
 have k1:Kg g w (w.setCell ⟨g,7,none⟩ (.int .i64 n)):=Kept.setCell (p:=⟨g,7,none⟩) (Kept.refl _ _) (.inl rfl) _
 exact h.turn (st':={st with depth:=n}) (h.kg k1) (h.row.set_ 7 (.int .i64 n)) rfl rfl rfl (h.wrong.quiet (h.kg k1)) h.i
theorem RdR.setLoops (h:RdR B ea w g gp bm vd wp s st) (n:Nat) {i:Int} (hi:i=n):RdR B ea (w.setCell ⟨g,8,none⟩ (.int .i64 i)) g gp bm vd wp s {st with loops:=n}:=by
 subst hi
 have k1:Kg g w (w.setCell ⟨g,8,none⟩ (.int .i64 n)):=Kept.setCell (p:=⟨g,8,none⟩) (Kept.refl _ _) (.inl rfl) _
 exact h.turn (st':={st with loops:=n}) (h.kg k1) (h.row.set_ 8 (.int .i64 n)) rfl rfl rfl (h.wrong.quiet (h.kg k1)) h.i
theorem Kg.cell (g:Nat) (w:World) (i:Nat) (u:Value):Kg g w (w.setCell ⟨g,i,none⟩ u):=Kept.setCell (p:=⟨g,i,none⟩) (Kept.refl _ _) (.inl rfl) u
def StF (cs:List Value):Prop:=∃(k:Bytes) (n m:Int) (t:Bool) (b0:Bytes) (i1:Int) (b2:Bytes) (i3:Int) (b4:Bytes) (i5:Int) (o:Bool) (a1:Option Addr) (n1 c1:Nat) (a2:Option Addr) (n2 c2:Nat),
 cs=[vs k,.int .i64 n,.int .i64 m,.bool t,vs b0,.int .i64 i1,vs b2,.int .i64 i3,vs b4,.int .i64 i5,.bool o,.slice a1 n1 c1,.slice a2 n2 c2]
def StmtV (w0 w':World) (b:Blk) (v:Value):Prop:=∃cs,v= .agg cs.toArray∧b.length=1∧StF cs∧StmtsR (fun k=>w0.heap.size≤k) w' b cs
def StmtC (B:Nat) (ea:Nat→Addr) (g gp bm:Nat) (s:Bytes) (m:Nat):Prop:=
 ∀(st:PS) (w:World) (vd wp:Value),RdR B ea w g gp bm vd wp s st→st.Ok s→st.depth≤8→st.loops≤2→2*left s st+1≤m→
  Calls Tryz.prog 109 #[.pointer (some ⟨g,0,none⟩)] w fun e w'=>OutR B ea w g gp bm s (stmt s m st) (StmtV w) e w'
def BlockC (B:Nat) (ea:Nat→Addr) (g gp bm:Nat) (s:Bytes) (m:Nat):Prop:=
 ∀(st:PS) (w:World) (vd wp:Value),RdR B ea w g gp bm vd wp s st→st.Ok s→st.depth≤8→st.loops≤2→2*left s st+1≤m→
  Calls Tryz.prog 75 #[.pointer (some ⟨g,0,none⟩)] w fun e w'=>OutR B ea w g gp bm s (block s m st) (fun w' b v=>BlkV (fun k=>w.heap.size≤k) w' v b) e w'
theorem app_nil:∀(b:Blk),b.app .nil=b
 | .nil=>rfl
 | .prim p r=>by simp[Blk.app,app_nil r]
 | .ite c t o e r=>by simp[Blk.app,app_nil r]
 | .rep n c b r=>by simp[Blk.app,app_nil r]
theorem app_assoc:∀(a b c:Blk),(a.app b).app c=a.app (b.app c)
 | .nil,_,_=>rfl
 | .prim p r,b,c=>by simp[Blk.app,app_assoc r]
 | .ite _ _ _ _ r,b,c=>by simp[Blk.app,app_assoc r]
 | .rep _ _ _ r,b,c=>by simp[Blk.app,app_assoc r]
theorem infoStmt:(Tryz.prog.info? 203).map (fun i=>(i.zero,i.size,i.bytes))=
  some (some (.agg #[vs [],.int .i64 0,.int .i64 0,.bool false,vs [],.int .i64 0,vs [],.int .i64 0,vs [],.int .i64 0,.bool false,.slice none 0 0,.slice none 0 0]),13,168):=by kernel_rfl
theorem WrongR.row_kept {S1:Nat→Prop} {w':World} {wp:Value} {x:Option (Nat×Nat)} (h:WrongR B ea w wp x) (hk:Kept S1 w w') (hS:∀b cs,Row w b 59 cs→¬S1 b):WrongR B ea w' wp x:=by
 cases x with
 |none=>exact h
 |some y=>
  obtain⟨gf,h1,h2,h3⟩:=h
  exact⟨gf,h1,h2,h3.kept hk (hS _ _ h3)⟩
theorem RdR.later (h:RdR B ea w g gp bm vd wp s st) {w':World} {st':PS} {wp':Value} (hk:Kg g w w') (hr:Row w' g 103 (rdCells s st' gp wp')) (hd:st'.decls=st.decls) (hf:st'.freq=st.freq) (hru:st'.rules=st.rules)
  (hw:WrongR B ea w' wp' st'.wrong) (hi:st'.i≤s.length):RdR B ea w' g gp bm vd wp' s st':=h.turn (h.kg hk) hr hd hf hru hw hi
theorem length_size:∀(b:Blk),b.length≤b.size
 | .nil=>Nat.le_refl _
 | .prim _ r=>by have:=length_size r;simp only[Blk.length,Blk.size];omega
 | .ite _ _ _ _ r=>by have:=length_size r;simp only[Blk.length,Blk.size];omega
 | .rep _ _ _ r=>by have:=length_size r;simp only[Blk.length,Blk.size];omega
structure BLoop (B:Nat) (ea:Nat→Addr) (g gp bm:Nat) (s:Bytes) (w0:World) (st0:PS) (n k:Nat) (v:Value) (wr:World) (st':PS) (done:Blk) (m:Nat) (cs:List Value) (gl cap:Nat) (wp:Value):Prop where
 ghost:left s st'≤k
 fuel:2*left s st'+2≤m
 mn:m≤n
 eq:stmts s n st0=(stmts s m st').map (fun r=>done.app r)
 ok:st'.Ok s
 fwd:Fwd s st0 st'
 len:done.length+left s st'≤701
 kg:Kg g w0 wr
 row:Row wr g 103 (rdCells s st' gp wp)
 wrong:WrongR B ea wr wp st'.wrong
 shape:v= .slice (some ⟨gl,0,none⟩) done.length cap
 sl:Sl (fun b=>w0.heap.size≤b) wr 203 13 v done.length cs
 stm:StmtsR (fun b=>w0.heap.size≤b∧b≠gl) wr done cs
def inner (s:Bytes) (st:PS):PS:={next s st with depth:=st.depth+1}
theorem left_le (s:Bytes) (st:PS):left s st≤s.length+1:=by unfold left;omega
set_option maxRecDepth 100000 in
set_option maxHeartbeats 4000000 in
theorem block_step (n:Nat) (hst:∀m,m<n+1→StmtC B ea g gp bm s m):BlockC B ea g gp bm s (n+1):=by
 intro st w vd wp h ok hd hl hn
 obtain⟨_,_,c2,_,_,_,_,c7,_⟩:=rd_cell h.row
 have hB:=h.env.size
 have hg:=h.g0
 have herr:w.cell? ⟨8,0,none⟩=some (.iface 307 (.pointer (some (ea 3)))):=h.env.err 3 (by omega) (by omega)
 have hel:8<w.heap.size:=Nat.lt_of_lt_of_le (h.env.lt 3 (by omega) (by omega)) h.env.size
 have HR:=Lib.hid h
 have HST:=Lib.hid hst
 have HOK:=Lib.hid ok
 by_cases hk:st.t.kind=kOpen
 ·have hw:want s kOpen st= .ok st.t (next s st):=by unfold want;rw[if_pos hk]
  by_cases h8:st.depth=8
  ·have e2:block s (n+1) st= .bad eDeep st.t.pos:=by unfold block;rw[if_pos ⟨hk,h8⟩];rfl
   rw[e2]
   have hf:=fail_any h 3
   have HF:=Lib.hid hf
   rw[hk]at c2
   rw[h8]at c7
   clear e2 hf h hst ok hw hk h8
   unfold vs errV at*
   go_enter Tryz.func75,Tryz.ntmps75
   go_wp2_with fail
   refine HF.out.mono ?_
   rintro e w1 ⟨gf,rfl,hF⟩
   go_wp2
   exact⟨rfl,gf,rfl,hF⟩
  ·have e2:block s (n+1) st=(stmts s n (inner s st)).bind fun b st=>.ok b (next s {st with depth:=st.depth-1}):=by
    unfold block;rw[if_neg (by rintro⟨_,x⟩;exact h8 x),hw];rfl
   rw[e2]
   have hwant:=want_any h kOpen
   rw[hw]at hwant
   have HW:=Lib.hid hwant
   have e8:((st.depth:Int)==8)=false:=by simp;omega
   rw[hk]at c2
   have HK:=Lib.hid hk
   have HN:=Lib.hid hn
   have h8':st.depth<8:=by omega
   clear e2 hwant hw h hst ok h8 hk hn herr hel
   unfold vs at*
   go_enter Tryz.func75,Tryz.ntmps75
   go_wp2_with fail
   refine HW.out.mono ?_
   rintro e w1 ⟨v,rfl,rfl,hk1,vd1,wp1,h1⟩
   obtain⟨_,_,_,_,_,_,_,c7',_⟩:=rd_cell h1.row
   have c7'':w1.cell? ⟨g,7,none⟩=some (.int .i64 st.depth):=c7'
   have f7:=h1.row.frozen 7
   have hg1:=h1.row.lt
   have h2:=h1.setDepth (st.depth+1) (i:=(st.depth:Int)+1) rfl
   have k2:Kg g w (w1.setCell ⟨g,7,none⟩ (.int .i64 ((st.depth:Int)+1))):=Kg.trans hk1 (Kg.cell g w1 7 _)
   have hsz1:w.heap.size≤w1.heap.size:=hk1.size
   have b8:(st.depth:Int)<8:=by omega
   have b0:(0:Int)≤(st.depth:Int):=by omega
   have hdp:(next s st).depth=st.depth:=rfl
   have ok1:(inner s st).Ok s:=by have:=next_ok HOK.out;exact⟨this.i,this.pos,this.more,this.num,this.name⟩
   have hl1:left s (inner s st)<left s st:=next_lt HOK.out HK.out (by decide) (by decide)
   have hs7:=h2.s
   have hll:=left_le s (inner s st)
   have hstart:BLoop B ea g gp bm s w (inner s st) n (left s st) (.slice (some ⟨w1.heap.size,0,none⟩) 0 0) ((w1.setCell ⟨g,7,none⟩ (.int .i64 ((st.depth:Int)+1))).alloc (.cells #[] 203)) (inner s st) .nil n [] w1.heap.size 0 wp1:=by
    have hal:=h2.alloc (.cells #[] 203)
    have hN:=HN.out
    refine⟨by omega,by omega,Nat.le_refl _,?_,ok1,Fwd.refl ok1,by simp only[Blk.length];omega,k2.alloc (.inr k2.size) _,hal.row,hal.wrong,rfl,?_,rfl⟩
    ·cases stmts s n (inner s st)<;>rfl
    ·have hr:=Row.new (w1.setCell ⟨g,7,none⟩ (.int .i64 ((st.depth:Int)+1))) 203 []
     have e:(w1.setCell ⟨g,7,none⟩ (.int .i64 ((st.depth:Int)+1))).heap.size=w1.heap.size:=by simp
     rw[e]at hr
     exact Sl.of_row hr hsz1 rfl (by unfold maxLen;omega)
   have HSt:=Lib.hid hstart
   have HK2:=Lib.hid k2
   clear h1 hk1 h2 k2 c7' hstart ok1 hl1 hdp hsz1 hs7 hll
   unfold encTok vs at*
   obtain⟨i0,hi0,hz0,hz1,hz2⟩:=info_parts infoStmt
   go_wp2_with fail
   go_loopg [3] (left s st) (fun kk v3 wr=>∃st' done m cs gl cap wpr,BLoop B ea g gp bm s w (inner s st) n kk v3 wr st' done m cs gl cap wpr)
   case atStart=>exact⟨_,_,_,_,_,_,_,HSt.out⟩
   case round=>
    obtain⟨st',done,m,cs,gl,cap,wpr,hL⟩:=hrel
    have hv:=hL.shape
    subst hv
    obtain⟨_,_,c2,_,_,_,_,c7,_⟩:=rd_cell hL.row
    have f7':=hL.row.frozen 7
    have hglt:=hL.row.lt
    have dp:st'.depth=st.depth+1:=hL.fwd.depth
    obtain⟨m,rfl⟩:∃x,m=x+2:=⟨m-2,by have:=hL.fuel;omega⟩
    have hrd:RdR B ea wr g gp bm vd wpr s st':=HR.out.later hL.kg hL.row hL.fwd.decls hL.fwd.freq hL.fwd.rules hL.wrong hL.ok.i
    have hlen:=hL.len
    have HRD:=Lib.hid hrd
    have HLp:=Lib.hid hL
    clear hrd hL
    by_cases hc:st'.t.kind=kClose
    ·rw[hc]at c2
     rw[dp]at c7
     have h3:=HRD.out.setDepth st.depth (i:=(st.depth:Int)) rfl
     have k3:Kg g w (wr.setCell ⟨g,7,none⟩ (.int .i64 (st.depth:Int))):=Kg.trans HLp.out.kg (Kg.cell g wr 7 _)
     have hnx:=next_all h3
     have hbv:BlkV (fun b=>w.heap.size≤b) wr (.slice (some ⟨gl,0,none⟩) done.length cap) done:=⟨cs,⟨HLp.out.sl,_,_,rfl⟩,StmtsR.mono (fun _ _ x=>x.1) _ _ HLp.out.stm⟩
     have ec:(((st.depth+1:Nat):Int)-1)=(st.depth:Int):=by omega
     have H3:=Lib.hid h3
     have K3:=Lib.hid k3
     have HNX:=Lib.hid hnx
     have HBV:=Lib.hid hbv
     have HC:=Lib.hid hc
     have EC:=Lib.hid ec
     clear h3 k3 hnx hbv hc ec
     unfold vs at*
     go_wp2_with fail
     refine HNX.out.mono ?_
     rintro e w3 ⟨rfl,hk4,h4⟩
     have F:=Lib.hid (And.intro hk4 h4)
     clear hk4 h4
     go_wp2
     go_ret
     have hfin:BlkV (fun b=>w.heap.size≤b) w3 (.slice (some ⟨gl,0,none⟩) done.length cap) done:=by
      refine HBV.out.kept (fun k cs hk hr=>?_)
      have h1:k<wr.heap.size:=hr.lt
      have h2:k≠g:=hr.ne_ HLp.out.row (by decide)
      have e1:=kg_at F.out.1 (b:=k) (by simpa using h1) h2
      have e2:=kg_at (Kg.cell g wr 7 (.int .i64 (st.depth:Int))) h1 h2
      exact e1.trans e2
     have hfuel:=HLp.out.fuel
     have hspec:((stmts s n (inner s st)).bind fun b st=>Out.ok b (next s {st with depth:=st.depth-1}))= .ok done (next s {st' with depth:=st.depth}):=by
      rw[HLp.out.eq,stmts,if_pos HC.out]
      show Out.ok (done.app .nil) (next s {st' with depth:=st'.depth-1})=_
      rw[app_nil,dp]
      rfl
     rw[hspec]
     exact⟨_,rfl,hfin,Kg.trans K3.out F.out.1,_,_,F.out.2⟩
    ·have HC:=Lib.hid hc
     have hstc:=HST.out (m+1) (by have:=HLp.out.mn;omega) st' wr _ _ HRD.out HLp.out.ok (by rw[dp];omega) (by rw[HLp.out.fwd.loops];exact hl) (by have:=HLp.out.fuel;omega)
     have e1:(st'.t.kind==kClose)=false:=by simpa using hc
     have HSTC:=Lib.hid hstc
     clear hstc hc
     go_wp2_with fail
     refine HSTC.out.mono ?_
     rintro e w2 ho
     cases hx:stmt s (m+1) st' with
     |bad k pos=>
      rw[hx]at ho
      obtain⟨gf,rfl,hF⟩:=fails_held hB hg HLp.out.kg ho
      have HX:=Lib.hid hx
      clear hx
      go_wp2
      have hspec:((stmts s n (inner s st)).bind fun b st=>Out.ok b (next s {st with depth:=st.depth-1}))= .bad k pos:=by
       rw[HLp.out.eq,stmts,if_neg HC.out,HX.out]
       rfl
      rw[hspec]
      exact⟨rfl,gf,rfl,hF⟩
     |ok x st2=>
      rw[hx]at ho
      obtain⟨v,rfl,⟨cs2,rfl,hl1,⟨k_,n_,m_,t_,b0_,i1_,b2_,i3_,b4_,i5_,o_,a1_,n1_,c1_,a2_,n2_,c2_,hcs⟩,hsr⟩,hk2,vd2,wp2,h2⟩:=ho
      have hgot:=stmt_ok HLp.out.ok (by rw[dp];omega) (by rw[HLp.out.fwd.loops];exact hl) hx
      have hsz:=hgot.size
      have hls:=length_size x
      have hlt2:left s st2<left s st':=by omega
      have hglr:gl<wr.heap.size:=HLp.out.sl.lt rfl
      have hglg:gl≠g:=fun e=>HLp.out.sl.ne_row HLp.out.row (by decide) (by rw[e];rfl)
      have sl2:=HLp.out.sl.kept hk2 (fun b hb=>by
       injection hb with hb
       simp only at hb
       subst hb
       rintro(hb|hb)
       ·exact hglg hb
       ·omega)
      have hsize:=hk2.size
      have hsize0:=HLp.out.kg.size
      subst hcs
      obtain⟨L13,hL13⟩:∃L:List Value,[vs k_,.int .i64 n_,.int .i64 m_,.bool t_,vs b0_,.int .i64 i1_,vs b2_,.int .i64 i3_,vs b4_,.int .i64 i5_,.bool o_,.slice a1_ n1_ c1_,.slice a2_ n2_ c2_]=L:=⟨_,rfl⟩
      rw[hL13]at hsr
      have sl3:=sl2.alloc (.cells #[vs k_,.int .i64 n_,.int .i64 m_,.bool t_,vs b0_,.int .i64 i1_,vs b2_,.int .i64 i3_,vs b4_,.int .i64 i5_,.bool o_,.slice a1_ n1_ c1_,.slice a2_ n2_ c2_] 203)
      have q1:w.heap.size≤(w2.alloc (.cells #[vs k_,.int .i64 n_,.int .i64 m_,.bool t_,vs b0_,.int .i64 i1_,vs b2_,.int .i64 i3_,vs b4_,.int .i64 i5_,.bool o_,.slice a1_ n1_ c1_,.slice a2_ n2_ c2_] 203)).heap.size:=by simp;omega
      have q2:=cells_new w2 [vs k_,.int .i64 n_,.int .i64 m_,.bool t_,vs b0_,.int .i64 i1_,vs b2_,.int .i64 i3_,vs b4_,.int .i64 i5_,.bool o_,.slice a1_ n1_ c1_,.slice a2_ n2_ c2_] 203
      have q3:∀u∈ [vs k_,.int .i64 n_,.int .i64 m_,.bool t_,vs b0_,.int .i64 i1_,vs b2_,.int .i64 i3_,vs b4_,.int .i64 i5_,.bool o_,.slice a1_ n1_ c1_,.slice a2_ n2_ c2_],u.oneCell'=true:=by
       intro u hu
       simp at hu
       rcases hu with rfl|rfl|rfl|rfl|rfl|rfl|rfl|rfl|rfl|rfl|rfl|rfl|rfl<;>rfl
      have q4:done.length+1≤maxLen:=by unfold maxLen;omega
      have q5:(done.length+1)*168≤140737488355328:=by omega
      have hfin:∀(g2 cap2:Nat) (w3:World),Sl (fun b=>w.heap.size≤b) w3 203 13 (.slice (some ⟨g2,0,none⟩) (done.length+1) cap2) (done.length+1) (cs++L13)→
        Kept (fun b=>(Value.slice (some ⟨gl,0,none⟩) done.length cap).ownBlock=some b∨(w2.alloc (.cells #[vs k_,.int .i64 n_,.int .i64 m_,.bool t_,vs b0_,.int .i64 i1_,vs b2_,.int .i64 i3_,vs b4_,.int .i64 i5_,.bool o_,.slice a1_ n1_ c1_,.slice a2_ n2_ c2_] 203)).heap.size≤b)
         (w2.alloc (.cells #[vs k_,.int .i64 n_,.int .i64 m_,.bool t_,vs b0_,.int .i64 i1_,vs b2_,.int .i64 i3_,vs b4_,.int .i64 i5_,.bool o_,.slice a1_ n1_ c1_,.slice a2_ n2_ c2_] 203)) w3→
        ((Value.slice (some ⟨gl,0,none⟩) done.length cap).ownBlock=some g2∨g2=(w2.alloc (.cells #[vs k_,.int .i64 n_,.int .i64 m_,.bool t_,vs b0_,.int .i64 i1_,vs b2_,.int .i64 i3_,vs b4_,.int .i64 i5_,.bool o_,.slice a1_ n1_ c1_,.slice a2_ n2_ c2_] 203)).heap.size)→
        BLoop B ea g gp bm s w (inner s st) n (left s st2) (.slice (some ⟨g2,0,none⟩) (done.length+1) cap2) w3 st2 (done.app x) (m+1) (cs++L13) g2 cap2 wp2:=by
       have hsW:(w2.alloc (.cells #[vs k_,.int .i64 n_,.int .i64 m_,.bool t_,vs b0_,.int .i64 i1_,vs b2_,.int .i64 i3_,vs b4_,.int .i64 i5_,.bool o_,.slice a1_ n1_ c1_,.slice a2_ n2_ c2_] 203)).heap.size=w2.heap.size+1:=by simp
       have hal:=h2.alloc (.cells #[vs k_,.int .i64 n_,.int .i64 m_,.bool t_,vs b0_,.int .i64 i1_,vs b2_,.int .i64 i3_,vs b4_,.int .i64 i5_,.bool o_,.slice a1_ n1_ c1_,.slice a2_ n2_ c2_] 203)
       have hkW:Kept (fun b=>w2.heap.size≤b) w2 (w2.alloc (.cells #[vs k_,.int .i64 n_,.int .i64 m_,.bool t_,vs b0_,.int .i64 i1_,vs b2_,.int .i64 i3_,vs b4_,.int .i64 i5_,.bool o_,.slice a1_ n1_ c1_,.slice a2_ n2_ c2_] 203)):=(Kept.refl _ _).alloc (Nat.le_refl _) _
       generalize (w2.alloc (.cells #[vs k_,.int .i64 n_,.int .i64 m_,.bool t_,vs b0_,.int .i64 i1_,vs b2_,.int .i64 i3_,vs b4_,.int .i64 i5_,.bool o_,.slice a1_ n1_ c1_,.slice a2_ n2_ c2_] 203))=W at*
       intro g2 cap2 w3 hs3 hk3 hloc
       have el:(done.app x).length=done.length+1:=by rw[Blk.length_app,hl1]
       have hfu:=HLp.out.fuel
       have hle:=HLp.out.len
       have hmn:=HLp.out.mn
       have far:∀b,b≠gl→b<W.heap.size→¬((Value.slice (some ⟨gl,0,none⟩) done.length cap).ownBlock=some b∨W.heap.size≤b):=by
        intro b h1 h2
        rintro(h3|h3)
        ·injection h3 with h3;exact h1 h3.symm
        ·omega
       have k3:Kg g w w3:=by
        have k1:Kg g w W:=Kg.trans (Kg.trans HLp.out.kg hk2) (hkW.mono (fun b hb=>.inr hb))
        refine Kept.trans k1 (hk3.mono (fun b hb=>.inr ?_))
        rcases hb with hb|hb
        ·exact HLp.out.sl.2 b hb
        ·omega
       have keepN:∀(k:Nat) cs,(w.heap.size≤k∧k≠gl∧k<W.heap.size)→Row W k 203 cs→w3.heap[k]?=W.heap[k]?:=fun k cs hk hr=>hk3.block k (far k hk.2.1 hk.2.2)
       have toN:∀k,k<w3.heap.size→(w.heap.size≤k∧k≠gl∧k<W.heap.size)→(w.heap.size≤k∧k≠g2):=fun k _ hk=>⟨hk.1,by
        rcases hloc with h1|h1
        ·injection h1 with h1;simp only at h1;subst h1;exact hk.2.1
        ·rw[h1];omega⟩
       refine⟨Nat.le_refl _,by omega,by omega,?_,hgot.fwd.ok,HLp.out.fwd.trans hgot.fwd,by rw[el];omega,k3,hal.row.kept hk3 (far g (fun e=>hglg e.symm) hal.row.lt),hal.wrong.row_kept hk3 (fun b cs hr=>far b (fun e=>by
        have s4:=sl3
        exact s4.ne_row (e▸hr) (by decide) rfl) hr.lt),by rw[el],by rw[el];exact hs3,?_⟩
       ·rw[HLp.out.eq,stmts,if_neg HC.out,hx]
        show((stmts s (m+1) st2).map (fun r=>x.app r)).map (fun r=>done.app r)=_
        cases stmts s (m+1) st2 with
        |ok r st3=>show Out.ok (done.app (x.app r)) st3=Out.ok ((done.app x).app r) st3;rw[app_assoc]
        |bad e p=>rfl
       ·have p1:=StmtsR.mono (N':=fun k=>w.heap.size≤k∧k≠gl∧k<W.heap.size) (fun k hk hN=>⟨hN.1,hN.2,by omega⟩) _ _ HLp.out.stm
        have p2:=StmtsR.kept (w':=W) (fun k cs hk hr=>by
         have h1:k<wr.heap.size:=hr.lt
         have h2:k≠g:=hr.ne_ HLp.out.row (by decide)
         exact(hkW.block k (by omega)).trans (kg_at hk2 h1 h2)) _ _ p1
        have p3:=StmtsR.mono toN _ _ (StmtsR.kept keepN _ _ p2)
        have r1:=StmtsR.mono (N':=fun k=>w.heap.size≤k∧k≠gl∧k<W.heap.size) (fun k hk hN=>⟨by omega,by omega,by omega⟩) _ _ hsr
        have r2:=StmtsR.kept (w':=W) (fun k cs hk hr=>hkW.block k (by have:=hr.lt;omega)) _ _ r1
        have r3:=StmtsR.mono toN _ _ (StmtsR.kept keepN _ _ r2)
        exact StmtsR.app _ _ _ _ p3 r3
      have HF:=Lib.hid hfin
      have SL3:=Lib.hid sl3
      have Q1:=Lib.hid q1
      have Q2:=Lib.hid q2
      have Q3:=Lib.hid q3
      have HL13:=Lib.hid hL13
      have hgh:=HLp.out.ghost
      clear hfin sl3 q1 q2 q3 sl2 hsr h2 hgot hls hsz hsize hsize0 hx hglr hglg hL13
      unfold vs at*
      go_wp2_with (at_builtin;go_must (refine wp_append1 Tryz.underlying105 hi0 hz0 hz1 hz2 rfl (by decide) SL3.out Q1.out rfl _ _ rfl rfl ⟨w2.heap.size,0,none⟩ 1 1 [.string ⟨k_.toArray⟩,.int .i64 n_,.int .i64 m_,.bool t_,.string ⟨b0_.toArray⟩,.int .i64 i1_,.string ⟨b2_.toArray⟩,.int .i64 i3_,.string ⟨b4_.toArray⟩,.int .i64 i5_,.bool o_,.slice a1_ n1_ c1_,.slice a2_ n2_ c2_] rfl rfl Q2.out Q3.out q4 q5 (Nat.succ_pos _) ?_;intro g2 cap2 w3 hs3 hk3 hloc;have Hs3:=Lib.hid hs3;have Hk3:=Lib.hid hk3;have Hloc:=Lib.hid hloc;clear hs3 hk3 hloc))
      go_roundg (left s st2)
      case measure=>omega
      case rel=>exact⟨_,_,_,_,_,_,_,HF.out g2 cap2 w3 (by rw[←HL13.out];exact Hs3.out) Hk3.out Hloc.out⟩
 ·have hw:want s kOpen st= .bad eSyntax st.t.pos:=by unfold want fail;rw[if_neg hk]
  have e2:block s (n+1) st= .bad eSyntax st.t.pos:=by unfold block;rw[if_neg (by rintro⟨x,_⟩;exact hk x),hw];rfl
  rw[e2]
  have hwant:=want_any h kOpen
  rw[hw]at hwant
  have HW:=Lib.hid hwant
  have e1:(st.t.kind==kOpen)=false:=by simpa using hk
  clear hwant e2 hw hk h herr hel hst ok
  unfold vs at*
  go_enter Tryz.func75,Tryz.ntmps75
  go_wp2_with fail
  refine HW.out.mono ?_
  rintro e w1 ⟨gf,rfl,hF⟩
  go_wp2
  exact⟨rfl,gf,rfl,hF⟩
end
end Go.Proofs.YtepoejiigmhlbaaGreatDoor.Ev
namespace Go.Proofs.YtepoejiigmhlbaaGreatDoor.Ev
open Go Go.RowKit
abbrev zeros13:List Value:=[vs [],.int .i64 0,.int .i64 0,.bool false,vs [],.int .i64 0,vs [],.int .i64 0,vs [],.int .i64 0,.bool false,.slice none 0 0,.slice none 0 0]
structure HeldS (B:Nat) (ea:Nat→Addr) (g gp bm:Nat) (vd:Value) (s:Bytes) (st0:PS) (w0:World) (wp0:Value) (st:PS) (w:World) (wp:Value) (R C:Nat) (cs ds:List Value):Prop where
 base:RdR B ea w0 g gp bm vd wp0 s st0
 decls:st.decls=st0.decls
 freq:st.freq=st0.freq
 rules:st.rules=st0.rules
 i:st.i≤s.length
 kg:Kg g w0 w
 row:Row w g 103 (rdCells s st gp wp)
 wrong:WrongR B ea w wp st.wrong
 rowR:Row w R 203 cs
 rowC:Row w C 203 ds
 newR:w0.heap.size≤R
 newC:w0.heap.size≤C
 ne:R≠C
section
variable {B:Nat} {ea:Nat→Addr} {w w0:World} {g gp bm R C:Nat} {vd wp wp0:Value} {s:Bytes} {st st0:PS} {cs ds:List Value}
theorem HeldS.rd (h:HeldS B ea g gp bm vd s st0 w0 wp0 st w wp R C cs ds):RdR B ea w g gp bm vd wp s st:=h.base.later h.kg h.row h.decls h.freq h.rules h.wrong h.i
theorem HeldS.start (h:RdR B ea w g gp bm vd wp s st) (ds:List Value):
  HeldS B ea g gp bm vd s st w wp st ((w.alloc (.cells #[vs [],.int .i64 0,.int .i64 0,.bool false,vs [],.int .i64 0,vs [],.int .i64 0,vs [],.int .i64 0,.bool false,.slice none 0 0,.slice none 0 0] 203)).alloc (.cells ds.toArray 203)) wp w.heap.size (w.heap.size+1) [vs [],.int .i64 0,.int .i64 0,.bool false,vs [],.int .i64 0,vs [],.int .i64 0,vs [],.int .i64 0,.bool false,.slice none 0 0,.slice none 0 0] ds:=by
 have hA:=(h.alloc (.cells #[vs [],.int .i64 0,.int .i64 0,.bool false,vs [],.int .i64 0,vs [],.int .i64 0,vs [],.int .i64 0,.bool false,.slice none 0 0,.slice none 0 0] 203)).alloc (.cells ds.toArray 203)
 have e:(w.alloc (.cells #[vs [],.int .i64 0,.int .i64 0,.bool false,vs [],.int .i64 0,vs [],.int .i64 0,vs [],.int .i64 0,.bool false,.slice none 0 0,.slice none 0 0] 203)).heap.size=w.heap.size+1:=by simp
 have hr:=Row.new (w.alloc (.cells #[vs [],.int .i64 0,.int .i64 0,.bool false,vs [],.int .i64 0,vs [],.int .i64 0,vs [],.int .i64 0,.bool false,.slice none 0 0,.slice none 0 0] 203)) 203 ds
 rw[e]at hr
 exact⟨h,rfl,rfl,rfl,h.i,((Kept.refl _ w).alloc (.inr (Nat.le_refl _)) _).alloc (.inr (by simp)) _,hA.row,hA.wrong,(Row.new w 203 [vs [],.int .i64 0,.int .i64 0,.bool false,vs [],.int .i64 0,vs [],.int .i64 0,vs [],.int .i64 0,.bool false,.slice none 0 0,.slice none 0 0]).alloc _,hr,Nat.le_refl _,by omega,by omega⟩
theorem HeldS.call (h:HeldS B ea g gp bm vd s st0 w0 wp0 st w wp R C cs ds) {w':World} {st':PS} {vd' wp':Value} (hk:Kg g w w') (hr:RdR B ea w' g gp bm vd' wp' s st') (hd:st'.decls=st.decls) (hf:st'.freq=st.freq) (hru:st'.rules=st.rules):
  HeldS B ea g gp bm vd s st0 w0 wp0 st' w' wp' R C cs ds:=
 ⟨h.base,hd.trans h.decls,hf.trans h.freq,hru.trans h.rules,hr.i,Kg.trans h.kg hk,hr.row,hr.wrong,(kg_at hk h.rowR.lt (h.rowR.ne_ h.row (by decide))).trans h.rowR,(kg_at hk h.rowC.lt (h.rowC.ne_ h.row (by decide))).trans h.rowC,h.newR,h.newC,h.ne⟩
theorem HeldS.setR (h:HeldS B ea g gp bm vd s st0 w0 wp0 st w wp R C cs ds) (i:Nat) (u:Value):HeldS B ea g gp bm vd s st0 w0 wp0 st (w.setCell ⟨R,i,none⟩ u) wp R C (cs.set i u) ds:=
 ⟨h.base,h.decls,h.freq,h.rules,h.i,h.kg.setCell (p:=⟨R,i,none⟩) (.inr h.newR) u,h.row.far (h.row.ne_ h.rowR (by decide)) u,h.wrong.row_kept (Kept.one w ⟨R,i,none⟩ u) (fun b cs hr e=>hr.ne_ h.rowR (by decide) e),h.rowR.set_ i u,h.rowC.far (fun e=>h.ne e.symm) u,h.newR,h.newC,h.ne⟩
theorem HeldS.setC (h:HeldS B ea g gp bm vd s st0 w0 wp0 st w wp R C cs ds) (i:Nat) (u:Value):HeldS B ea g gp bm vd s st0 w0 wp0 st (w.setCell ⟨C,i,none⟩ u) wp R C cs (ds.set i u):=
 ⟨h.base,h.decls,h.freq,h.rules,h.i,h.kg.setCell (p:=⟨C,i,none⟩) (.inr h.newC) u,h.row.far (h.row.ne_ h.rowC (by decide)) u,h.wrong.row_kept (Kept.one w ⟨C,i,none⟩ u) (fun b cs hr e=>hr.ne_ h.rowC (by decide) e),h.rowR.far h.ne u,h.rowC.set_ i u,h.newR,h.newC,h.ne⟩
abbrev copied (w:World) (R:Nat) (d0 d1 d2 d3 d4 d5 d6 d7 d8 d9 d10 d11 d12:Value):World:=
 ((((((((((((w.setCell ⟨R,0,none⟩ d0).setCell ⟨R,1,none⟩ d1).setCell ⟨R,2,none⟩ d2).setCell ⟨R,3,none⟩ d3).setCell ⟨R,4,none⟩ d4).setCell ⟨R,5,none⟩ d5).setCell ⟨R,6,none⟩ d6).setCell ⟨R,7,none⟩ d7).setCell ⟨R,8,none⟩ d8).setCell ⟨R,9,none⟩ d9).setCell ⟨R,10,none⟩ d10).setCell ⟨R,11,none⟩ d11).setCell ⟨R,12,none⟩ d12
theorem HeldS.copy (h:HeldS B ea g gp bm vd s st0 w0 wp0 st w wp R C zeros13 ds) (d0 d1 d2 d3 d4 d5 d6 d7 d8 d9 d10 d11 d12:Value):
  HeldS B ea g gp bm vd s st0 w0 wp0 st (copied w R d0 d1 d2 d3 d4 d5 d6 d7 d8 d9 d10 d11 d12) wp R C [d0,d1,d2,d3,d4,d5,d6,d7,d8,d9,d10,d11,d12] ds:=
 ((((((((((((h.setR 0 d0).setR 1 d1).setR 2 d2).setR 3 d3).setR 4 d4).setR 5 d5).setR 6 d6).setR 7 d7).setR 8 d8).setR 9 d9).setR 10 d10).setR 11 d11).setR 12 d12
theorem cells13 {t:TypeId} {d0 d1 d2 d3 d4 d5 d6 d7 d8 d9 d10 d11 d12:Value} (h:Row w C t [d0,d1,d2,d3,d4,d5,d6,d7,d8,d9,d10,d11,d12]):
  w.cell? ⟨C,0,none⟩=some d0∧w.cell? ⟨C,1,none⟩=some d1∧w.cell? ⟨C,2,none⟩=some d2∧w.cell? ⟨C,3,none⟩=some d3∧w.cell? ⟨C,4,none⟩=some d4∧w.cell? ⟨C,5,none⟩=some d5∧w.cell? ⟨C,6,none⟩=some d6∧
  w.cell? ⟨C,7,none⟩=some d7∧w.cell? ⟨C,8,none⟩=some d8∧w.cell? ⟨C,9,none⟩=some d9∧w.cell? ⟨C,10,none⟩=some d10∧w.cell? ⟨C,11,none⟩=some d11∧w.cell? ⟨C,12,none⟩=some d12:=
 ⟨h.cell 0,h.cell 1,h.cell 2,h.cell 3,h.cell 4,h.cell 5,h.cell 6,h.cell 7,h.cell 8,h.cell 9,h.cell 10,h.cell 11,h.cell 12⟩
theorem sizeStmt (w:World):(Go.sizeOf 203).run Tryz.prog w= .ok 13 w:=by kernel_rfl
theorem aggStmt (w:World):(isAgg 203).run Tryz.prog w= .ok true w:=by kernel_rfl
theorem prim_stmtV (w0 w':World) (p:Prim):StmtV w0 w' (.prim p .nil) (.agg (encPrim p).toArray):=
 ⟨encPrim p,rfl,rfl,⟨_,_,_,_,_,_,_,_,_,_,_,_,_,_,_,_,_,rfl⟩,⟨[],by simp,rfl⟩⟩
end
end Go.Proofs.YtepoejiigmhlbaaGreatDoor.Ev
namespace Go.Proofs.YtepoejiigmhlbaaGreatDoor.Ev
open Go Go.RowKit
abbrev rhs {a b:Bytes} (_:a=b):Bytes:=b
def HeldS.copy_ {B:Nat} {ea:Nat→Addr} {g gp bm:Nat} {vd:Value} {s:Bytes} {st0 st:PS} {w0 w:World} {wp0 wp:Value} {R C:Nat} {d0 d1 d2 d3 d4 d5 d6 d7 d8 d9 d10 d11 d12:Value} (h:HeldS B ea g gp bm vd s st0 w0 wp0 st w wp R C zeros13 [d0,d1,d2,d3,d4,d5,d6,d7,d8,d9,d10,d11,d12]):=
 h.copy d0 d1 d2 d3 d4 d5 d6 d7 d8 d9 d10 d11 d12
section
variable {B:Nat} {ea:Nat→Addr} {w:World} {g gp bm:Nat} {vd wp:Value} {s:Bytes} {st:PS}
set_option maxRecDepth 100000 in
set_option maxHeartbeats 4000000 in
theorem stmt_put (h:RdR B ea w g gp bm vd wp s st) (ok:st.Ok s) (hk:st.t.kind=kPut):
  Calls Tryz.prog 109 #[.pointer (some ⟨g,0,none⟩)] w fun e w'=>OutR B ea w g gp bm s ((name s false (next s st)).bind fun q st=>(want s kSemi (take s kTail st).2).bind fun _ st_=>.ok (.prim (.put q (take s kTail st).1) .nil) st_) (StmtV w) e w':=by
 have q0:=HeldS.start h [vs kPut,.int .i64 0,.int .i64 0,.bool false,vs [],.int .i64 0,vs [],.int .i64 0,vs [],.int .i64 0,.bool false,.slice none 0 0,.slice none 0 0]
 have hn:=next_all q0.rd
 obtain⟨_,_,c2,_⟩:=rd_cell (h.alloc (.cells #[vs [],.int .i64 0,.int .i64 0,.bool false,vs [],.int .i64 0,vs [],.int .i64 0,vs [],.int .i64 0,.bool false,.slice none 0 0,.slice none 0 0] 203)).row
 have hB:=h.env.size
 have hg:=h.g0
 rw[hk]at c2
 have Q0:=Lib.hid q0
 have HN:=Lib.hid hn
 have HOK:=Lib.hid ok
 clear q0 hn h ok hk
 unfold vs at*
 go_enter Tryz.func109,Tryz.ntmps109
 go_wp2_with fail
 refine HN.out.mono ?_
 rintro e w1 ⟨rfl,hk1,h1⟩
 have q1:=Q0.out.call hk1 h1 rfl rfl rfl
 have ok1:=next_ok HOK.out
 clear hk1 h1
 have hn0:=name_any q1.rd false
 obtain⟨e0,e1,e2,e3,e4,e5,e6,e7,e8,e9,e10,e11,e12⟩:=cells13 q1.rowC
 have z:=fun j=>q1.rowC.frozen j
 have QN0:=Lib.hid q1
 have HN0:=Lib.hid hn0
 have HOK0:=Lib.hid ok1
 clear q1 hn0 ok1 e0 e1 e2 e3 e4 e5 e6 e7 e8 e9 e10 e11 e12 z
 go_wp2_with fail
 refine HN0.out.mono ?_
 rintro e wn0 ho
 cases hx0:name s false (next s st)with
 |bad k pos=>
  rw[hx0]at ho
  obtain⟨gf,rfl,hF⟩:=fails_held hB hg QN0.out.kg ho
  have HXhx0:=Lib.hid hx0
  clear hx0
  go_wp2
  refine⟨rfl,?_⟩
  rw[HXhx0.out]
  exact⟨gf,rfl,hF⟩
 |ok n0 st1=>
  rw[hx0]at ho
  obtain⟨v,rfl,rfl,hkn0,vdn0,wpn0,hn0⟩:=ho
  have fw0:=(name_ok HOK0.out hx0).1
  have ok2:=fw0.ok
  have p0:=QN0.out.call hkn0 hn0 fw0.decls fw0.freq fw0.rules
  obtain⟨e0,e1,e2,e3,e4,e5,e6,e7,e8,e9,e10,e11,e12⟩:=cells13 p0.rowC
  have z:=fun j=>p0.rowC.frozen j
  have q2:=p0.setC 1 (.int .i64 n0)
  have HXhx0:=Lib.hid hx0
  clear hkn0 hn0 hx0 p0 fw0
  have EZ:=True.intro
  have ht:=take_any q2.rd kTail
  have QT:=Lib.hid q2
  have HT:=Lib.hid ht
  have HOKT:=Lib.hid ok2
  clear q2 ht ok2
  unfold vs at*
  go_wp2_with fail
  clear e0 e1 e2 e3 e4 e5 e6 e7 e8 e9 e10 e11 e12 z
  refine HT.out.mono ?_
  rintro e wt ⟨rfl,hkt,ht⟩
  have tp:(take s kTail st1).2.decls=st1.decls∧(take s kTail st1).2.freq=st1.freq∧(take s kTail st1).2.rules=st1.rules:=by unfold take;split<;>exact⟨rfl,rfl,rfl⟩
  have p9:=QT.out.call hkt ht tp.1 tp.2.1 tp.2.2
  obtain⟨e0,e1,e2,e3,e4,e5,e6,e7,e8,e9,e10,e11,e12⟩:=cells13 p9.rowC
  have z:=fun j=>p9.rowC.frozen j
  have q10:=p9.setC 3 (.bool (take s kTail st1).1)
  clear hkt ht p9 tp
  have hw:=want_any q10.rd kSemi
  have QW:=Lib.hid q10
  have HW:=Lib.hid hw
  clear q10 hw
  unfold vs at*
  go_wp2_with fail
  clear e0 e1 e2 e3 e4 e5 e6 e7 e8 e9 e10 e11 e12 z
  refine HW.out.mono ?_
  rintro e ww ho
  cases hxw:want s kSemi (take s kTail st1).2 with
  |bad k pos=>
   rw[hxw]at ho
   obtain⟨gf,rfl,hF⟩:=fails_held hB hg QW.out.kg ho
   have HXhxw:=Lib.hid hxw
   clear hxw
   go_wp2
   refine⟨rfl,?_⟩
   rw[HXhx0.out]
   show OutR _ _ _ _ _ _ _ ((want s kSemi (take s kTail st1).2).bind _) _ _ _
   rw[HXhxw.out]
   exact⟨gf,rfl,hF⟩
  |ok tt st9=>
   rw[hxw]at ho
   obtain⟨v,rfl,rfl,hkw,vdw,wpw,hw⟩:=ho
   have hst9:=(want_ok hxw).2.2
   have p:=QW.out.call hkw hw (by rw[hst9];rfl) (by rw[hst9];rfl) (by rw[hst9];rfl)
   obtain⟨e0,e1,e2,e3,e4,e5,e6,e7,e8,e9,e10,e11,e12⟩:=cells13 p.rowC
   obtain⟨f0,f1,f2,f3,f4,f5,f6,f7,f8,f9,f10,f11,f12⟩:=cells13 p.rowR
   have z:=fun j=>p.rowC.frozen j
   have y:=fun j=>p.rowR.frozen j
   have q:=p.copy_
   have HXhxw:=Lib.hid hxw
   have Q:=Lib.hid q
   clear hkw hw hxw p q hst9
   unfold encTok vs at*
   go_wp2
   refine bodyPost_ret (results_cell (cs:=[_,_,_,_,_,_,_,_,_,_,_,_,_]) Tryz.results109 aggStmt sizeStmt rfl Q.out.rowR) rfl ?_
   rw[HXhx0.out]
   show OutR _ _ _ _ _ _ _ ((want s kSemi (take s kTail st1).2).bind _) _ _ _
   rw[HXhxw.out]
   exact⟨_,rfl,prim_stmtV _ _ _,Q.out.kg,_,_,Q.out.rd⟩
set_option maxRecDepth 100000 in
set_option maxHeartbeats 4000000 in
theorem stmt_shift (h:RdR B ea w g gp bm vd wp s st) (ok:st.Ok s) (hk:st.t.kind=kShift):
  Calls Tryz.prog 109 #[.pointer (some ⟨g,0,none⟩)] w fun e w'=>OutR B ea w g gp bm s ((name s false (next s st)).bind fun q st=>(name s false st).bind fun p st=>(want s kSemi (take s kTail st).2).bind fun _ st_=>.ok (.prim (.shift q p (take s kTail st).1) .nil) st_) (StmtV w) e w':=by
 have q0:=HeldS.start h [vs kShift,.int .i64 0,.int .i64 0,.bool false,vs [],.int .i64 0,vs [],.int .i64 0,vs [],.int .i64 0,.bool false,.slice none 0 0,.slice none 0 0]
 have hn:=next_all q0.rd
 obtain⟨_,_,c2,_⟩:=rd_cell (h.alloc (.cells #[vs [],.int .i64 0,.int .i64 0,.bool false,vs [],.int .i64 0,vs [],.int .i64 0,vs [],.int .i64 0,.bool false,.slice none 0 0,.slice none 0 0] 203)).row
 have hB:=h.env.size
 have hg:=h.g0
 rw[hk]at c2
 have Q0:=Lib.hid q0
 have HN:=Lib.hid hn
 have HOK:=Lib.hid ok
 clear q0 hn h ok hk
 unfold vs at*
 go_enter Tryz.func109,Tryz.ntmps109
 go_wp2_with fail
 refine HN.out.mono ?_
 rintro e w1 ⟨rfl,hk1,h1⟩
 have q1:=Q0.out.call hk1 h1 rfl rfl rfl
 have ok1:=next_ok HOK.out
 clear hk1 h1
 have hn0:=name_any q1.rd false
 obtain⟨e0,e1,e2,e3,e4,e5,e6,e7,e8,e9,e10,e11,e12⟩:=cells13 q1.rowC
 have z:=fun j=>q1.rowC.frozen j
 have QN0:=Lib.hid q1
 have HN0:=Lib.hid hn0
 have HOK0:=Lib.hid ok1
 clear q1 hn0 ok1 e0 e1 e2 e3 e4 e5 e6 e7 e8 e9 e10 e11 e12 z
 go_wp2_with fail
 refine HN0.out.mono ?_
 rintro e wn0 ho
 cases hx0:name s false (next s st)with
 |bad k pos=>
  rw[hx0]at ho
  obtain⟨gf,rfl,hF⟩:=fails_held hB hg QN0.out.kg ho
  have HXhx0:=Lib.hid hx0
  clear hx0
  go_wp2
  refine⟨rfl,?_⟩
  rw[HXhx0.out]
  exact⟨gf,rfl,hF⟩
 |ok n0 st1=>
  rw[hx0]at ho
  obtain⟨v,rfl,rfl,hkn0,vdn0,wpn0,hn0⟩:=ho
  have fw0:=(name_ok HOK0.out hx0).1
  have ok2:=fw0.ok
  have p0:=QN0.out.call hkn0 hn0 fw0.decls fw0.freq fw0.rules
  obtain⟨e0,e1,e2,e3,e4,e5,e6,e7,e8,e9,e10,e11,e12⟩:=cells13 p0.rowC
  have z:=fun j=>p0.rowC.frozen j
  have q2:=p0.setC 1 (.int .i64 n0)
  have HXhx0:=Lib.hid hx0
  clear hkn0 hn0 hx0 p0 fw0
  have hnx:=name_any q2.rd false
  have QN1:=Lib.hid q2
  have HN1:=Lib.hid hnx
  have HOK1:=Lib.hid ok2
  clear q2 hnx ok2
  unfold vs at*
  go_wp2_with fail
  clear e0 e1 e2 e3 e4 e5 e6 e7 e8 e9 e10 e11 e12 z
  refine HN1.out.mono ?_
  rintro e wn1 ho
  cases hx1:name s false st1 with
  |bad k pos=>
   rw[hx1]at ho
   obtain⟨gf,rfl,hF⟩:=fails_held hB hg QN1.out.kg ho
   have HXhx1:=Lib.hid hx1
   clear hx1
   go_wp2
   refine⟨rfl,?_⟩
   rw[HXhx0.out]
   show OutR _ _ _ _ _ _ _ ((name s false st1).bind _) _ _ _
   rw[HXhx1.out]
   exact⟨gf,rfl,hF⟩
  |ok n1 st2=>
   rw[hx1]at ho
   obtain⟨v,rfl,rfl,hkn1,vdn1,wpn1,hn1⟩:=ho
   have fw1:=(name_ok HOK1.out hx1).1
   have ok3:=fw1.ok
   have p1:=QN1.out.call hkn1 hn1 fw1.decls fw1.freq fw1.rules
   obtain⟨e0,e1,e2,e3,e4,e5,e6,e7,e8,e9,e10,e11,e12⟩:=cells13 p1.rowC
   have z:=fun j=>p1.rowC.frozen j
   have q3:=p1.setC 2 (.int .i64 n1)
   have HXhx1:=Lib.hid hx1
   clear hkn1 hn1 hx1 p1 fw1
   have ht:=take_any q3.rd kTail
   have QT:=Lib.hid q3
   have HT:=Lib.hid ht
   have HOKT:=Lib.hid ok3
   clear q3 ht ok3
   unfold vs at*
   go_wp2_with fail
   clear e0 e1 e2 e3 e4 e5 e6 e7 e8 e9 e10 e11 e12 z
   refine HT.out.mono ?_
   rintro e wt ⟨rfl,hkt,ht⟩
   have tp:(take s kTail st2).2.decls=st2.decls∧(take s kTail st2).2.freq=st2.freq∧(take s kTail st2).2.rules=st2.rules:=by unfold take;split<;>exact⟨rfl,rfl,rfl⟩
   have p9:=QT.out.call hkt ht tp.1 tp.2.1 tp.2.2
   obtain⟨e0,e1,e2,e3,e4,e5,e6,e7,e8,e9,e10,e11,e12⟩:=cells13 p9.rowC
   have z:=fun j=>p9.rowC.frozen j
   have q10:=p9.setC 3 (.bool (take s kTail st2).1)
   clear hkt ht p9 tp
   have hw:=want_any q10.rd kSemi
   have QW:=Lib.hid q10
   have HW:=Lib.hid hw
   clear q10 hw
   unfold vs at*
   go_wp2_with fail
   clear e0 e1 e2 e3 e4 e5 e6 e7 e8 e9 e10 e11 e12 z
   refine HW.out.mono ?_
   rintro e ww ho
   cases hxw:want s kSemi (take s kTail st2).2 with
   |bad k pos=>
    rw[hxw]at ho
    obtain⟨gf,rfl,hF⟩:=fails_held hB hg QW.out.kg ho
    have HXhxw:=Lib.hid hxw
    clear hxw
    go_wp2
    refine⟨rfl,?_⟩
    rw[HXhx0.out]
    show OutR _ _ _ _ _ _ _ ((name s false st1).bind _) _ _ _
    rw[HXhx1.out]
    show OutR _ _ _ _ _ _ _ ((want s kSemi (take s kTail st2).2).bind _) _ _ _
    rw[HXhxw.out]
    exact⟨gf,rfl,hF⟩
   |ok tt st9=>
    rw[hxw]at ho
    obtain⟨v,rfl,rfl,hkw,vdw,wpw,hw⟩:=ho
    have hst9:=(want_ok hxw).2.2
    have p:=QW.out.call hkw hw (by rw[hst9];rfl) (by rw[hst9];rfl) (by rw[hst9];rfl)
    obtain⟨e0,e1,e2,e3,e4,e5,e6,e7,e8,e9,e10,e11,e12⟩:=cells13 p.rowC
    obtain⟨f0,f1,f2,f3,f4,f5,f6,f7,f8,f9,f10,f11,f12⟩:=cells13 p.rowR
    have z:=fun j=>p.rowC.frozen j
    have y:=fun j=>p.rowR.frozen j
    have q:=p.copy_
    have HXhxw:=Lib.hid hxw
    have Q:=Lib.hid q
    clear hkw hw hxw p q hst9
    unfold encTok vs at*
    go_wp2
    refine bodyPost_ret (results_cell (cs:=[_,_,_,_,_,_,_,_,_,_,_,_,_]) Tryz.results109 aggStmt sizeStmt rfl Q.out.rowR) rfl ?_
    rw[HXhx0.out]
    show OutR _ _ _ _ _ _ _ ((name s false st1).bind _) _ _ _
    rw[HXhx1.out]
    show OutR _ _ _ _ _ _ _ ((want s kSemi (take s kTail st2).2).bind _) _ _ _
    rw[HXhxw.out]
    exact⟨_,rfl,prim_stmtV _ _ _,Q.out.kg,_,_,Q.out.rd⟩
set_option maxRecDepth 100000 in
set_option maxHeartbeats 4000000 in
theorem stmt_evict_ {K:Bytes} {F:Int→Prim} (hc:K=kEvict∧F= .evict∨K=kCool∧F= .cool) (h:RdR B ea w g gp bm vd wp s st) (ok:st.Ok s) (hk:st.t.kind=K):
  Calls Tryz.prog 109 #[.pointer (some ⟨g,0,none⟩)] w fun e w'=>OutR B ea w g gp bm s ((name s false (next s st)).bind fun q st=>(want s kSemi st).bind fun _ st_=>.ok (.prim (F q) .nil) st_) (StmtV w) e w':=by
 rcases hc with⟨rfl,rfl⟩|⟨rfl,rfl⟩
 all_goals
  have q0:=HeldS.start h [vs (rhs hk),.int .i64 0,.int .i64 0,.bool false,vs [],.int .i64 0,vs [],.int .i64 0,vs [],.int .i64 0,.bool false,.slice none 0 0,.slice none 0 0]
  dsimp only[rhs]at q0
  have hn:=next_all q0.rd
  obtain⟨_,_,c2,_⟩:=rd_cell (h.alloc (.cells #[vs [],.int .i64 0,.int .i64 0,.bool false,vs [],.int .i64 0,vs [],.int .i64 0,vs [],.int .i64 0,.bool false,.slice none 0 0,.slice none 0 0] 203)).row
  have hB:=h.env.size
  have hg:=h.g0
  rw[hk]at c2
  have Q0:=Lib.hid q0
  have HN:=Lib.hid hn
  have HOK:=Lib.hid ok
  clear q0 hn h ok hk
  unfold vs at*
  go_enter Tryz.func109,Tryz.ntmps109
  go_wp2_with fail
  refine HN.out.mono ?_
  rintro e w1 ⟨rfl,hk1,h1⟩
  have q1:=Q0.out.call hk1 h1 rfl rfl rfl
  have ok1:=next_ok HOK.out
  clear hk1 h1
  have hn0:=name_any q1.rd false
  obtain⟨e0,e1,e2,e3,e4,e5,e6,e7,e8,e9,e10,e11,e12⟩:=cells13 q1.rowC
  have z:=fun j=>q1.rowC.frozen j
  have QN0:=Lib.hid q1
  have HN0:=Lib.hid hn0
  have HOK0:=Lib.hid ok1
  clear q1 hn0 ok1 e0 e1 e2 e3 e4 e5 e6 e7 e8 e9 e10 e11 e12 z
  go_wp2_with fail
  refine HN0.out.mono ?_
  rintro e wn0 ho
  cases hx0:name s false (next s st)with
  |bad k pos=>
   rw[hx0]at ho
   obtain⟨gf,rfl,hF⟩:=fails_held hB hg QN0.out.kg ho
   have HXhx0:=Lib.hid hx0
   clear hx0
   go_wp2
   refine⟨rfl,?_⟩
   rw[HXhx0.out]
   exact⟨gf,rfl,hF⟩
  |ok n0 st1=>
   rw[hx0]at ho
   obtain⟨v,rfl,rfl,hkn0,vdn0,wpn0,hn0⟩:=ho
   have fw0:=(name_ok HOK0.out hx0).1
   have ok2:=fw0.ok
   have p0:=QN0.out.call hkn0 hn0 fw0.decls fw0.freq fw0.rules
   obtain⟨e0,e1,e2,e3,e4,e5,e6,e7,e8,e9,e10,e11,e12⟩:=cells13 p0.rowC
   have z:=fun j=>p0.rowC.frozen j
   have q2:=p0.setC 1 (.int .i64 n0)
   have HXhx0:=Lib.hid hx0
   clear hkn0 hn0 hx0 p0 fw0
   have EZ:=True.intro
   have q9:=q2.setC 3 (.bool false)
   clear q2
   have hw:=want_any q9.rd kSemi
   have QW:=Lib.hid q9
   have HW:=Lib.hid hw
   clear q9 hw
   unfold vs at*
   go_wp2_with fail
   clear e0 e1 e2 e3 e4 e5 e6 e7 e8 e9 e10 e11 e12 z
   refine HW.out.mono ?_
   rintro e ww ho
   cases hxw:want s kSemi st1 with
   |bad k pos=>
    rw[hxw]at ho
    obtain⟨gf,rfl,hF⟩:=fails_held hB hg QW.out.kg ho
    have HXhxw:=Lib.hid hxw
    clear hxw
    go_wp2
    refine⟨rfl,?_⟩
    rw[HXhx0.out]
    show OutR _ _ _ _ _ _ _ ((want s kSemi st1).bind _) _ _ _
    rw[HXhxw.out]
    exact⟨gf,rfl,hF⟩
   |ok tt st9=>
    rw[hxw]at ho
    obtain⟨v,rfl,rfl,hkw,vdw,wpw,hw⟩:=ho
    have hst9:=(want_ok hxw).2.2
    have p:=QW.out.call hkw hw (by rw[hst9];rfl) (by rw[hst9];rfl) (by rw[hst9];rfl)
    obtain⟨e0,e1,e2,e3,e4,e5,e6,e7,e8,e9,e10,e11,e12⟩:=cells13 p.rowC
    obtain⟨f0,f1,f2,f3,f4,f5,f6,f7,f8,f9,f10,f11,f12⟩:=cells13 p.rowR
    have z:=fun j=>p.rowC.frozen j
    have y:=fun j=>p.rowR.frozen j
    have q:=p.copy_
    have HXhxw:=Lib.hid hxw
    have Q:=Lib.hid q
    clear hkw hw hxw p q hst9
    unfold encTok vs at*
    go_wp2
    refine bodyPost_ret (results_cell (cs:=[_,_,_,_,_,_,_,_,_,_,_,_,_]) Tryz.results109 aggStmt sizeStmt rfl Q.out.rowR) rfl ?_
    rw[HXhx0.out]
    show OutR _ _ _ _ _ _ _ ((want s kSemi st1).bind _) _ _ _
    rw[HXhxw.out]
    exact⟨_,rfl,prim_stmtV _ _ _,Q.out.kg,_,_,Q.out.rd⟩
set_option maxRecDepth 100000 in
set_option maxHeartbeats 4000000 in
theorem stmt_inc_ {K:Bytes} {F:Int→Prim} (hc:K=kInc∧F= .inc∨K=kDec∧F= .dec) (h:RdR B ea w g gp bm vd wp s st) (ok:st.Ok s) (hk:st.t.kind=K):
  Calls Tryz.prog 109 #[.pointer (some ⟨g,0,none⟩)] w fun e w'=>OutR B ea w g gp bm s ((name s true (next s st)).bind fun v st=>(want s kSemi st).bind fun _ st_=>.ok (.prim (F v) .nil) st_) (StmtV w) e w':=by
 rcases hc with⟨rfl,rfl⟩|⟨rfl,rfl⟩
 all_goals
  have q0:=HeldS.start h [vs (rhs hk),.int .i64 0,.int .i64 0,.bool false,vs [],.int .i64 0,vs [],.int .i64 0,vs [],.int .i64 0,.bool false,.slice none 0 0,.slice none 0 0]
  dsimp only[rhs]at q0
  have hn:=next_all q0.rd
  obtain⟨_,_,c2,_⟩:=rd_cell (h.alloc (.cells #[vs [],.int .i64 0,.int .i64 0,.bool false,vs [],.int .i64 0,vs [],.int .i64 0,vs [],.int .i64 0,.bool false,.slice none 0 0,.slice none 0 0] 203)).row
  have hB:=h.env.size
  have hg:=h.g0
  rw[hk]at c2
  have Q0:=Lib.hid q0
  have HN:=Lib.hid hn
  have HOK:=Lib.hid ok
  clear q0 hn h ok hk
  unfold vs at*
  go_enter Tryz.func109,Tryz.ntmps109
  go_wp2_with fail
  refine HN.out.mono ?_
  rintro e w1 ⟨rfl,hk1,h1⟩
  have q1:=Q0.out.call hk1 h1 rfl rfl rfl
  have ok1:=next_ok HOK.out
  clear hk1 h1
  have hn0:=name_any q1.rd true
  obtain⟨e0,e1,e2,e3,e4,e5,e6,e7,e8,e9,e10,e11,e12⟩:=cells13 q1.rowC
  have z:=fun j=>q1.rowC.frozen j
  have QN0:=Lib.hid q1
  have HN0:=Lib.hid hn0
  have HOK0:=Lib.hid ok1
  clear q1 hn0 ok1 e0 e1 e2 e3 e4 e5 e6 e7 e8 e9 e10 e11 e12 z
  go_wp2_with fail
  refine HN0.out.mono ?_
  rintro e wn0 ho
  cases hx0:name s true (next s st)with
  |bad k pos=>
   rw[hx0]at ho
   obtain⟨gf,rfl,hF⟩:=fails_held hB hg QN0.out.kg ho
   have HXhx0:=Lib.hid hx0
   clear hx0
   go_wp2
   refine⟨rfl,?_⟩
   rw[HXhx0.out]
   exact⟨gf,rfl,hF⟩
  |ok n0 st1=>
   rw[hx0]at ho
   obtain⟨v,rfl,rfl,hkn0,vdn0,wpn0,hn0⟩:=ho
   have fw0:=(name_ok HOK0.out hx0).1
   have ok2:=fw0.ok
   have p0:=QN0.out.call hkn0 hn0 fw0.decls fw0.freq fw0.rules
   obtain⟨e0,e1,e2,e3,e4,e5,e6,e7,e8,e9,e10,e11,e12⟩:=cells13 p0.rowC
   have z:=fun j=>p0.rowC.frozen j
   have q2:=p0.setC 1 (.int .i64 n0)
   have HXhx0:=Lib.hid hx0
   clear hkn0 hn0 hx0 p0 fw0
   have EZ:=True.intro
   have hw:=want_any q2.rd kSemi
   have QW:=Lib.hid q2
   have HW:=Lib.hid hw
   clear q2 hw
   unfold vs at*
   go_wp2_with fail
   clear e0 e1 e2 e3 e4 e5 e6 e7 e8 e9 e10 e11 e12 z
   refine HW.out.mono ?_
   rintro e ww ho
   cases hxw:want s kSemi st1 with
   |bad k pos=>
    rw[hxw]at ho
    obtain⟨gf,rfl,hF⟩:=fails_held hB hg QW.out.kg ho
    have HXhxw:=Lib.hid hxw
    clear hxw
    go_wp2
    refine⟨rfl,?_⟩
    rw[HXhx0.out]
    show OutR _ _ _ _ _ _ _ ((want s kSemi st1).bind _) _ _ _
    rw[HXhxw.out]
    exact⟨gf,rfl,hF⟩
   |ok tt st9=>
    rw[hxw]at ho
    obtain⟨v,rfl,rfl,hkw,vdw,wpw,hw⟩:=ho
    have hst9:=(want_ok hxw).2.2
    have p:=QW.out.call hkw hw (by rw[hst9];rfl) (by rw[hst9];rfl) (by rw[hst9];rfl)
    obtain⟨e0,e1,e2,e3,e4,e5,e6,e7,e8,e9,e10,e11,e12⟩:=cells13 p.rowC
    obtain⟨f0,f1,f2,f3,f4,f5,f6,f7,f8,f9,f10,f11,f12⟩:=cells13 p.rowR
    have z:=fun j=>p.rowC.frozen j
    have y:=fun j=>p.rowR.frozen j
    have q:=p.copy_
    have HXhxw:=Lib.hid hxw
    have Q:=Lib.hid q
    clear hkw hw hxw p q hst9
    unfold encTok vs at*
    go_wp2
    refine bodyPost_ret (results_cell (cs:=[_,_,_,_,_,_,_,_,_,_,_,_,_]) Tryz.results109 aggStmt sizeStmt rfl Q.out.rowR) rfl ?_
    rw[HXhx0.out]
    show OutR _ _ _ _ _ _ _ ((want s kSemi st1).bind _) _ _ _
    rw[HXhxw.out]
    exact⟨_,rfl,prim_stmtV _ _ _,Q.out.kg,_,_,Q.out.rd⟩
set_option maxRecDepth 100000 in
set_option maxHeartbeats 4000000 in
theorem stmt_drop_ {K:Bytes} {F:Prim} (hc:K=kDrop∧F= .drop∨K=kBump∧F= .bump) (h:RdR B ea w g gp bm vd wp s st) (ok:st.Ok s) (hk:st.t.kind=K):
  Calls Tryz.prog 109 #[.pointer (some ⟨g,0,none⟩)] w fun e w'=>OutR B ea w g gp bm s ((want s kSemi (next s st)).bind fun _ st_=>.ok (.prim F .nil) st_) (StmtV w) e w':=by
 rcases hc with⟨rfl,rfl⟩|⟨rfl,rfl⟩
 all_goals
  have q0:=HeldS.start h [vs (rhs hk),.int .i64 0,.int .i64 0,.bool false,vs [],.int .i64 0,vs [],.int .i64 0,vs [],.int .i64 0,.bool false,.slice none 0 0,.slice none 0 0]
  dsimp only[rhs]at q0
  have hn:=next_all q0.rd
  obtain⟨_,_,c2,_⟩:=rd_cell (h.alloc (.cells #[vs [],.int .i64 0,.int .i64 0,.bool false,vs [],.int .i64 0,vs [],.int .i64 0,vs [],.int .i64 0,.bool false,.slice none 0 0,.slice none 0 0] 203)).row
  have hB:=h.env.size
  have hg:=h.g0
  rw[hk]at c2
  have Q0:=Lib.hid q0
  have HN:=Lib.hid hn
  have HOK:=Lib.hid ok
  clear q0 hn h ok hk
  unfold vs at*
  go_enter Tryz.func109,Tryz.ntmps109
  go_wp2_with fail
  refine HN.out.mono ?_
  rintro e w1 ⟨rfl,hk1,h1⟩
  have q1:=Q0.out.call hk1 h1 rfl rfl rfl
  have ok1:=next_ok HOK.out
  clear hk1 h1
  obtain⟨e0,e1,e2,e3,e4,e5,e6,e7,e8,e9,e10,e11,e12⟩:=cells13 q1.rowC
  have z:=fun j=>q1.rowC.frozen j
  have hw:=want_any q1.rd kSemi
  have QW:=Lib.hid q1
  have HW:=Lib.hid hw
  clear q1 hw
  unfold vs at*
  go_wp2_with fail
  clear e0 e1 e2 e3 e4 e5 e6 e7 e8 e9 e10 e11 e12 z
  refine HW.out.mono ?_
  rintro e ww ho
  cases hxw:want s kSemi (next s st)with
  |bad k pos=>
   rw[hxw]at ho
   obtain⟨gf,rfl,hF⟩:=fails_held hB hg QW.out.kg ho
   have HXhxw:=Lib.hid hxw
   clear hxw
   go_wp2
   refine⟨rfl,?_⟩
   rw[HXhxw.out]
   exact⟨gf,rfl,hF⟩
  |ok tt st9=>
   rw[hxw]at ho
   obtain⟨v,rfl,rfl,hkw,vdw,wpw,hw⟩:=ho
   have hst9:=(want_ok hxw).2.2
   have p:=QW.out.call hkw hw (by rw[hst9];rfl) (by rw[hst9];rfl) (by rw[hst9];rfl)
   obtain⟨e0,e1,e2,e3,e4,e5,e6,e7,e8,e9,e10,e11,e12⟩:=cells13 p.rowC
   obtain⟨f0,f1,f2,f3,f4,f5,f6,f7,f8,f9,f10,f11,f12⟩:=cells13 p.rowR
   have z:=fun j=>p.rowC.frozen j
   have y:=fun j=>p.rowR.frozen j
   have q:=p.copy_
   have HXhxw:=Lib.hid hxw
   have Q:=Lib.hid q
   clear hkw hw hxw p q hst9
   unfold encTok vs at*
   go_wp2
   refine bodyPost_ret (results_cell (cs:=[_,_,_,_,_,_,_,_,_,_,_,_,_]) Tryz.results109 aggStmt sizeStmt rfl Q.out.rowR) rfl ?_
   rw[HXhxw.out]
   exact⟨_,rfl,prim_stmtV _ _ _,Q.out.kg,_,_,Q.out.rd⟩
end
end Go.Proofs.YtepoejiigmhlbaaGreatDoor.Ev
