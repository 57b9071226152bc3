/- Lemmas for a law's walk. Conditions: none. -/
import Derived.Test.YtepoejiigmhlbaaGreatDoorZa07
import Derived.Test.YtepoejiigmhlbaaGreatDoorZa11
import Derived.Test.YtepoejiigmhlbaaGreatDoorZa12
import Derived.Test.YtepoejiigmhlbaaGreatDoorZa13
set_option linter.all false
set_option maxRecDepth 100000
set_option maxHeartbeats 8000000
namespace Go.Proofs.YtepoejiigmhlbaaGreatDoor.Ev
open _root_.Go.Proofs.Tryz
open Go Go.RowKit
section
variable {B:Nat}{ea:Nat->Addr}{w:World}{g gp bm:Nat}{vd wp:Value}{s:Ah}{st:PS}
theorem qW (h:DO B ea w g gp bm vd wp s st) (c:st.Ok s) (a:isDecl st.t.kind=true) (b:st.decls.length<=900):
  Calls prog 37 #[.pointer (some ⟨g,0,none⟩)] w λe w'=>JP B ea w g gp bm s (decl s st) e w':=by
 simp only[isDecl,sN,PL]at a;rcases a with((a|a)|a)|a
 ·exact fH h c a b
 ·exact fJ h c a b
 ·exact qU h c a b
 ·exact lV h c a
end
@[go_sem] theorem Ajd (v:Value) (w:World):(Instr.typeAssert (.iface 54 v) 20 54 true).run prog w= .ok (.tuple #[v,.bool true]) w:=by kernel_rfl
theorem cC (P Q:Nat) (gf:Nat) (a:List PanicEntry) (w:World) (k:w.cell? ⟨P,0,none⟩=some (.pointer none)) (b:w.frozen? ⟨P,0,none⟩=false) (l:w.cell? ⟨Q,0,none⟩=some .nilIface) (c:w.frozen? ⟨Q,0,none⟩=false) (d:¬P=Q) (f:¬Q=P):
  CallsD prog 35 #[.pointer (some ⟨P,0,none⟩),.pointer (some ⟨Q,0,none⟩)] (.panicking ({v:=.iface 54 (.pointer (some ⟨gf,0,none⟩)),recovered:=false}::a)) w λe g w'=>
   e= .returned (.tuple #[])/\g= .panicking ({v:=.iface 54 (.pointer (some ⟨gf,0,none⟩)),recovered:=true}::a)/\
    w'=(w.setCell ⟨P,0,none⟩ (.pointer none)).setCell ⟨Q,0,none⟩ (.iface 54 (.pointer (some ⟨gf,0,none⟩))):=by
 refine callsD_of_wpS func35 rfl λh cs i=>?_;have j:(#[Value.pointer (some ⟨P,0,none⟩),.pointer (some ⟨Q,0,none⟩)]:Array Value)++Array.replicate (Tryz.f35.ntmps-(#[Value.pointer (some ⟨P,0,none⟩),.pointer (some ⟨Q,0,none⟩)]:Array Value).size) undef=#[.pointer (some ⟨P,0,none⟩),.pointer (some ⟨Q,0,none⟩),undef,undef,undef,undef,undef,undef,undef,undef,undef,undef,undef]:=by kernel_rfl
 rw[j];apply wpS_seq;apply wpS_region;simp[wpOpsS,go_sem,recoverD,i,Exit.thenS];refine wpS_of_wp ?_;go_wp2;cases h;simp_all [bodyPostS,results,Tryz.results35]
theorem fO (P Q:Nat) (w:World):
  CallsD prog 35 #[.pointer (some ⟨P,0,none⟩),.pointer (some ⟨Q,0,none⟩)] .returning w λe a w'=>e= .returned (.tuple #[])/\a= .returning/\w'=w:=by
 refine callsD_of_wpS func35 rfl λb cs c=>?_;have d:(#[Value.pointer (some ⟨P,0,none⟩),.pointer (some ⟨Q,0,none⟩)]:Array Value)++Array.replicate (Tryz.f35.ntmps-(#[Value.pointer (some ⟨P,0,none⟩),.pointer (some ⟨Q,0,none⟩)]:Array Value).size) undef=#[.pointer (some ⟨P,0,none⟩),.pointer (some ⟨Q,0,none⟩),undef,undef,undef,undef,undef,undef,undef,undef,undef,undef,undef]:=by kernel_rfl
 rw[d];apply wpS_seq;apply wpS_region;simp[wpOpsS,go_sem,recoverD,c,Exit.thenS];refine wpS_of_wp ?_;go_wp2;cases b;simp_all [bodyPostS,results,Tryz.results35]
theorem Rl {c:Array Value}{w:World}{P Q:Nat}{a b:Value}(d:c[2]?=some (.pointer (some ⟨P,0,none⟩))) (e:c[3]?=some (.pointer (some ⟨Q,0,none⟩)))
  (f:w.cell? ⟨P,0,none⟩=some a) (g:w.cell? ⟨Q,0,none⟩=some b):(results Tryz.f19 c).run prog w= .ok (.tuple #[a,b]) w:=by
 simp[results,Tryz.results19,go_sem,d,e,f,g]
theorem Ji {R:Ending->World->Prop}{c:Array Value}{w:World}{P Q gf:Nat}(m:c[2]?=some (.pointer (some ⟨P,0,none⟩))) (n:c[3]?=some (.pointer (some ⟨Q,0,none⟩)))
  (i:w.cell? ⟨P,0,none⟩=some (.pointer none)) (j:w.frozen? ⟨P,0,none⟩=false) (k:w.cell? ⟨Q,0,none⟩=some .nilIface) (l:w.frozen? ⟨Q,0,none⟩=false) (d:¬P=Q)
  (h:R (.returned (.tuple #[.pointer none,.iface 54 (.pointer (some ⟨gf,0,none⟩))])) ((w.setCell ⟨P,0,none⟩ (.pointer none)).setCell ⟨Q,0,none⟩ (.iface 54 (.pointer (some ⟨gf,0,none⟩))))):
  Leaves prog Tryz.f19 c R [{target:=.fn (.func 35) #[.pointer (some ⟨P,0,none⟩),.pointer (some ⟨Q,0,none⟩)],args:=#[]}]
   (.panicking [{v:=.iface 54 (.pointer (some ⟨gf,0,none⟩)),recovered:=false}]) w:=by
 have g:¬Q=P:=λe=>d e.symm;refine leaves_cons (f:=35) (args:=#[.pointer (some ⟨P,0,none⟩),.pointer (some ⟨Q,0,none⟩)]) (by simp) (by simp[go_sem]) ?_;refine(cC P Q gf [] w i j k l d g).mono ?_;rintro e p w' ⟨rfl,rfl,rfl⟩;have o:=Rl (a:=.pointer none) (b:=.iface 54 (.pointer (some ⟨gf,0,none⟩))) (w:=(w.setCell ⟨P,0,none⟩ (.pointer none)).setCell ⟨Q,0,none⟩ (.iface 54 (.pointer (some ⟨gf,0,none⟩)))) m n (by simp[go_sem,i,k,d,g]) (by simp[go_sem,i,k,d,g]);exact⟨_,o,h⟩
theorem Kv {R:Ending->World->Prop}{c:Array Value}{w:World}{P Q:Nat}{a b:Value}(d:c[2]?=some (.pointer (some ⟨P,0,none⟩))) (g:c[3]?=some (.pointer (some ⟨Q,0,none⟩)))
  (i:w.cell? ⟨P,0,none⟩=some a) (j:w.cell? ⟨Q,0,none⟩=some b) (h:R (.returned (.tuple #[a,b])) w):
  Leaves prog Tryz.f19 c R [{target:=.fn (.func 35) #[.pointer (some ⟨P,0,none⟩),.pointer (some ⟨Q,0,none⟩)],args:=#[]}] .returning w:=by
 refine leaves_cons (f:=35) (args:=#[.pointer (some ⟨P,0,none⟩),.pointer (some ⟨Q,0,none⟩)]) (by simp) (by simp[go_sem]) ?_;refine(fO P Q w).mono ?_;rintro e k w' ⟨rfl,rfl,rfl⟩;exact⟨_,Rl d g i j,h⟩
def IG (ea:Nat->Addr) (w:World) (s:Ah) (e:Ending) (w':World):Prop:=
 Ac (λb=>w.heap.size<=b) w w'/\match read s with
  | .error (k,pos)=>∃gf,e= .returned (.tuple #[.pointer none,.iface 54 (.pointer (some ⟨gf,0,none⟩))])/\AE w' gf 59 [Dq ea k,.int .i64 pos]/\w.heap.size<=gf
  | .ok p=>∃gp a c,e= .returned (.tuple #[.pointer (some ⟨gp,0,none⟩),.nilIface])/\rI w.heap.size w' gp a c p
section
variable {B:Nat}{ea:Nat->Addr}{w:World}{s:Ah}
theorem j8 (h:UF B ea w) (i:700<s.length):
  Calls prog 19 #[vs s] w λe w'=>IG ea w s e w':=by
 have c:w.cell? ⟨0,0,none⟩=some (.iface 307 (.pointer (some (ea 1)))):=h.err 1 (by omega) (by omega);have j:0<w.heap.size:=An (h.lt 1 (by omega) (by omega)) h.size;have m:decide ((s.length:Int)>700)=true:=by simp;omega
 have d:read s= .error (qO,0):=by unfold read;rw[Al i]
 have k:∀(f:Fn) (first a:Array Value) (w:World),(Instr.makeFunc f first a).run prog w= .ok (.func f first a) w:=λ_ _ _ _=>rfl;have l:=Aa d;clear d h;unfold vs at*
 go_enter_defers func19,ntmps19
 go_wp2_with fail;go_region
 all_goals go_wp2
 all_goals
  refine⟨_,by simp[results,Tryz.results19,go_sem];rfl,?_⟩;unfold IG;rw[l.out];have b:=AE.new ((w.alloc (.cells #[.pointer none] 49)).alloc (.cells #[.iface 54 (.pointer (some ⟨w.heap.size+1+1,0,none⟩))] 51)) 59 [Dq ea 1,.int .i64 0];have g:((w.alloc (.cells #[.pointer none] 49)).alloc (.cells #[.iface 54 (.pointer (some ⟨w.heap.size+1+1,0,none⟩))] 51)).heap.size=w.heap.size+1+1:=by simp
  rw[g]at b;exact⟨((((Ac.refl _ w).alloc (Ab _) _).alloc (by simp) _).alloc (by rw[g];omega) _).drew,_,rfl,b.drew,by omega⟩
def Acm:PS:=⟨⟨[],[],0⟩,0,[],0,false,[],0,0,none⟩
theorem kv (s:Ah):next s Acm=start s:=rfl
abbrev EH (w:World):World:=(w.alloc (.cells #[.pointer none] 49)).alloc (.cells #[.nilIface] 51)
abbrev io (w:World) (s:Ah):World:=(((EH w).alloc (.map #[] 0)).alloc (.cells #[.slice none 0 0,.int .i64 0,.map (some (w.heap.size+1+1))] 63)).alloc
 (.cells #[vs s,.int .i64 0,vs [],vs [],.int .i64 0,.pointer (some ⟨w.heap.size+1+1+1,0,none⟩),.bool false,.int .i64 0,.int .i64 0,.pointer none] 103)
theorem oo (h:UF B ea w) (m:s.length<=700):DO (w.heap.size+1+1) ea (io w s) (w.heap.size+1+1+1+1) (w.heap.size+1+1+1) (w.heap.size+1+1) (.slice none 0 0) (.pointer none) s Acm:=by
 have e1:(EH w).heap.size=w.heap.size+1+1:=by simp
 have d:((EH w).alloc (.map #[] 0)).heap.size=w.heap.size+1+1+1:=by simp
 have e:(((EH w).alloc (.map #[] 0)).alloc (.cells #[.slice none 0 0,.int .i64 0,.map (some (w.heap.size+1+1))] 63)).heap.size=w.heap.size+1+1+1+1:=by simp
 have n:Ac (λb=>w.heap.size<=b) w (io w s):=(((((Ac.refl _ w).alloc (Ab _) _).alloc (by simp) _).alloc (by rw[e1];omega) _).alloc (by rw[d];omega) _).alloc (by rw[e];omega) _;have f:=h.kept n (λb a=>Ad h.size a);have g:=BQ.new (EH w) .i64;have j:=AE.new ((EH w).alloc (.map #[] 0)) 63 [.slice none 0 0,.int .i64 0,.map (some (w.heap.size+1+1))];have l:=AE.new (((EH w).alloc (.map #[] 0)).alloc (.cells #[.slice none 0 0,.int .i64 0,.map (some (w.heap.size+1+1))] 63)) 103 [vs s,.int .i64 0,vs [],vs [],.int .i64 0,.pointer (some ⟨w.heap.size+1+1+1,0,none⟩),.bool false,.int .i64 0,.int .i64 0,.pointer none];rw[e1]at g;rw[d]at j;rw[e]at l;have c:w.heap.size+1+1<=(io w s).heap.size:=by simp
 refine⟨⟨c,f.err,λk o p=>An (h.lt k o p) (Ad h.size (by omega)),f.kw,An h.pP (Ad h.size (by omega))⟩,l,j.alloc _,⟨Cl _ _ _ _,λb a=>by cases a⟩,⟨[],(g.alloc _).alloc _,rfl,λi x y q=>by simp at q⟩,rfl,by omega,by omega,by omega,AQ _,m,AQ _⟩
theorem Rq {a b n:Int}{st st':PS}(e:number s a b st= .ok n st'):st'.decls=st.decls:=by
 unfold number at e;obtain⟨t,st1,e1,c⟩:=AC e;obtain⟨_,_,rfl⟩:=BF e1;injection c with _ c;subst c;split
 ·exact(JU (s:=[]) Lh _ _).1
 ·rfl
theorem qV {st b:PS}{u:Unit}(a:decl s st= .ok u b):b.decls.length<=st.decls.length+1:=by
 by_cases i:st.t.kind=Cx
 ·unfold decl at a;simp only at a;rw[Al i]at a;obtain⟨n,st1,e1,f⟩:=AC a;obtain⟨t,c,g,d⟩:=AC f;injection d with _ d;subst d;obtain⟨_,_,rfl⟩:=BF g;have e:=Rq e1;show st1.decls.length<=_;rw[e];show(if _ then _ else _:PS).decls.length<=_;split
  ·rw[(JU (s:=[]) CW _ _).1];exact Ca _
  ·exact Ca _
 ·rw[decl_eq s st i]at a;obtain⟨n,st1,e1,f⟩:=AC a;obtain⟨m,c,g,d⟩:=AC f;obtain⟨t,j,k,h⟩:=AC d;injection h with _ h;subst h;obtain⟨_,_,rfl⟩:=BF k;obtain⟨_,_,rfl⟩:=BF e1;have e:=Rq g;rw[(Kc _ _).1]at e;show(c.decls++[_]).length<=_;rw[e];simp[next]
structure rG (B:Nat) (ea:Nat->Addr) (g gp bm:Nat) (s:Ah) (w0:World) (st:PS) (w:World):Prop where
 rd:∃vd wp,DO B ea w g gp bm vd wp s st
 nG:mv s st
 kept:Ac (λb=>B<=b) w0 w
theorem uK (w:World):(EH w).cell? ⟨w.heap.size,0,none⟩=some (.pointer none)/\(EH w).frozen? ⟨w.heap.size,0,none⟩=false/\(EH w).cell? ⟨w.heap.size+1,0,none⟩=some .nilIface/\(EH w).frozen? ⟨w.heap.size+1,0,none⟩=false:=by
 have r1:=(AE.new w 49 [.pointer none]).alloc (.cells #[.nilIface] 51);have a:=AE.new (w.alloc (.cells #[.pointer none] 49)) 51 [.nilIface];have e:(w.alloc (.cells #[.pointer none] 49)).heap.size=w.heap.size+1:=by simp
 rw[e]at a;exact⟨r1.cell 0,r1.frozen 0,a.cell 0,a.frozen 0⟩
theorem NC {w w1:World}(e:Ac (λb=>w.heap.size+1+1<=b) (EH w) w1):w1.cell? ⟨w.heap.size,0,none⟩=some (.pointer none)/\w1.frozen? ⟨w.heap.size,0,none⟩=false/\w1.cell? ⟨w.heap.size+1,0,none⟩=some .nilIface/\w1.frozen? ⟨w.heap.size+1,0,none⟩=false:=by
 obtain⟨a,b,c,d⟩:=uK w;have n1:¬(w.heap.size+1+1<=w.heap.size):=by omega
 have f:¬(w.heap.size+1+1<=w.heap.size+1):=by omega
 exact⟨(e.cell (p:=⟨w.heap.size,0,none⟩) n1).trans a,(e.frozen (p:=⟨w.heap.size,0,none⟩) n1).trans b,(e.cell (p:=⟨w.heap.size+1,0,none⟩) f).trans c,(e.frozen (p:=⟨w.heap.size+1,0,none⟩) f).trans d⟩
theorem Pq {w w1:World}{a b:Value}(c:Ac (λb=>w.heap.size+1+1<=b) (EH w) w1):Ac (λb=>w.heap.size<=b) w ((w1.setCell ⟨w.heap.size,0,none⟩ a).setCell ⟨w.heap.size+1,0,none⟩ b):=by have d:Ac (λb=>w.heap.size<=b) w (EH w):=((Ac.refl _ w).alloc (Ab _) _).alloc (by simp) _;have e:Ac (λb=>w.heap.size<=b) w w1:=d.trans (c.mono (λb (f:w.heap.size+1+1<=b)=>by omega));exact(e.setCell (p:=⟨w.heap.size,0,none⟩) (Ab _) a).setCell (p:=⟨w.heap.size+1,0,none⟩) (Ca _) b
theorem Tf {w w1 c:World}{gf k pos:Nat}(d:Ac (λb=>w.heap.size+1+1<=b) (EH w) w1) (hF:Ac (λb=>w.heap.size+1+1<=b) w1 c) (e:AE c gf 59 [Dq ea k,.int .i64 pos]) (g:w.heap.size+1+1<=gf) (f:read s= .error (k,pos)) (a b:Value):
  IG ea w s (.returned (.tuple #[.pointer none,.iface 54 (.pointer (some ⟨gf,0,none⟩))])) ((c.setCell ⟨w.heap.size,0,none⟩ a).setCell ⟨w.heap.size+1,0,none⟩ b):=by
 unfold IG;rw[f];exact⟨Pq (d.trans hF),gf,rfl,(e.dc (by omega:gf≠w.heap.size) a).dc (by omega:gf≠w.heap.size+1) b,by omega⟩
theorem FP.mono {N N':Nat->Prop}{w:World}{c:Nat}{a:List (Int×Az)}(h:FP N w c a) (d:∀b,N b->N' b):FP N' w c a:=by obtain⟨M,e,f,j⟩:=h;refine⟨M,e,f,λi x y l m=>?_⟩;obtain⟨cs,⟨⟨n,o⟩,p⟩,q⟩:=j i x y l m;exact⟨cs,⟨⟨n,λg r=>d g (o g r)⟩,p⟩,A1.mono (λk _ t=>d k t) _ _ q⟩
theorem zM {w w3:World}{g gp h:Nat}{i l:Value}{c:PS}(m:Ac (λb=>w.heap.size+1+1<=b) (EH w) w3) (e:DO (w.heap.size+1+1) ea w3 g gp h i l s c) (n:read s= .ok ⟨c.decls,c.aD,c.rules⟩) (a b:Value):
  IG ea w s (.returned (.tuple #[.pointer (some ⟨gp,0,none⟩),.nilIface])) ((w3.setCell ⟨w.heap.size,0,none⟩ a).setCell ⟨w.heap.size+1,0,none⟩ b):=by
 unfold IG;rw[n];have k:Ac (λb=>b=w.heap.size\/b=w.heap.size+1) w3 ((w3.setCell ⟨w.heap.size,0,none⟩ a).setCell ⟨w.heap.size+1,0,none⟩ b):=((Ac.refl _ w3).setCell (p:=⟨w.heap.size,0,none⟩) (.inl rfl) a).setCell (p:=⟨w.heap.size+1,0,none⟩) (.inr rfl) b;have d:∀b,w.heap.size+1+1<=b->¬(b=w.heap.size\/b=w.heap.size+1):=λb f=>by omega
 refine⟨Pq m,gp,h,i,rfl,e.ba.kept k (d _ e.lA),?_,?_,Ad (by omega) e.lA,Ad (by omega) e.mW⟩
 ·have j:=e.decls.kept k (λb f=>d b (e.decls.2 b f).1);exact⟨j.1,λb f=>Ad (by omega) (j.2 b f).1⟩
 ·exact(e.rules.kept (k.block h (d _ e.mW)) (λb cs f _=>k.block b (d _ f.1))).mono (λb f=>Ad (by omega) f.1)
theorem fu {w w1 c:World}{gf k pos:Nat}(d:Ac (λb=>w.heap.size+1+1<=b) (EH w) w1) (hF:Ac (λb=>w.heap.size+1+1<=b) w1 c) (e:AE c gf 59 [Dq ea k,.int .i64 pos]) (g:w.heap.size+1+1<=gf) (f:read s= .error (k,pos)) (a b:Value):
  IG ea w s (.returned (.tuple #[.pointer none,.iface 54 (.pointer (some ⟨gf,0,none⟩))])) (((c.setCell ⟨w.heap.size,0,none⟩ a).setCell ⟨w.heap.size+1,0,none⟩ b).drew):=by
 unfold IG;rw[f];exact⟨(Pq (d.trans hF)).drew,gf,rfl,((e.dc (by omega:gf≠w.heap.size) a).dc (by omega:gf≠w.heap.size+1) b).drew,by omega⟩
theorem oY {w w3:World}(c:Ac (λb=>w.heap.size+1+1<=b) (EH w) w3) (g:read s= .error (P7,0)) (a b:Value):
  IG ea w s (.returned (.tuple #[.pointer none,.iface 54 (.pointer (some ⟨w3.heap.size,0,none⟩))])) ((((w3.setCell ⟨w.heap.size,0,none⟩ a).setCell ⟨w.heap.size+1,0,none⟩ b).alloc (.cells #[Dq ea P7,.int .i64 0] 59)).drew):=by
 unfold IG;rw[g];have d:((w3.setCell ⟨w.heap.size,0,none⟩ a).setCell ⟨w.heap.size+1,0,none⟩ b).heap.size=w3.heap.size:=by simp
 have e:=AE.new ((w3.setCell ⟨w.heap.size,0,none⟩ a).setCell ⟨w.heap.size+1,0,none⟩ b) 59 [Dq ea P7,.int .i64 0];rw[d]at e;have f:w.heap.size<=w3.heap.size:=Ad (by simp;omega) c.size;exact⟨((Pq c).alloc (by rw[d];exact f) _).drew,w3.heap.size,rfl,e.drew,f⟩
theorem bW {st a:PS}{n:Nat}(e1:DC s 702 (start s)=DC s (n+1) st) (b:isDecl st.t.kind=true) (c:decl s st= .ok () a):DC s 702 (start s)=DC s n a:=by rw[e1,DC,Al b,c];rfl
theorem fE {st:PS}{n:Nat}(e1:DC s 702 (start s)=DC s (n+1) st) (a:¬isDecl st.t.kind=true):DC s 702 (start s)= .ok () st:=by rw[e1,DC,Ai a]
theorem Z5 {m:Nat}{a st b:PS}{n:Nat}(e1:Eb s m 702 a=Eb s m (n+1) st) (c:st.t.kind=TF) (d:GG s m st= .ok () b):Eb s m 702 a=Eb s m n b:=by rw[e1,Eb,Al c,d];rfl
theorem dS {m:Nat}{a st:PS}{n:Nat}(e1:Eb s m 702 a=Eb s m (n+1) st) (b:st.t.kind≠TF):Eb s m 702 a= .ok () st:=by rw[e1,Eb,Ai b]
theorem Va {a:PS}(b:DC s 702 (start s)= .ok () a):Fh s=(Eb s 1500 702 a).bind λ_ st=>want s Eh st:=by unfold Fh;rw[b];rfl
theorem az (a:s.length<=700):read s=match Fh s with
  | .bad e p=>.error (e,p)
  | .ok _ st=>match st.bC with
   |some x=>.error x
   |none=>if(Eo st.rules).isNone then .error (P7,0)else .ok ⟨st.decls,st.aD,st.rules⟩:=by
 unfold read;rw[Ai (by omega)];cases Fh s<;>rfl
theorem dT {a st:PS}{n k pos:Nat}(b:DC s 702 (start s)= .ok () a) (e1:Eb s 1500 702 a=Eb s 1500 (n+1) st) (c:st.t.kind=TF) (d:GG s 1500 st= .bad k pos) (e:s.length<=700):read s= .error (k,pos):=by rw[az e,Va b,e1,Eb,Al c,d];rfl
theorem uy {a st:PS}(b:DC s 702 (start s)= .ok () a) (e1:Eb s 1500 702 a= .ok () st) (c:s.length<=700):read s=match want s Eh st with
  | .bad e p=>.error (e,p)
  | .ok _ st=>match st.bC with
   |some x=>.error x
   |none=>if(Eo st.rules).isNone then .error (P7,0)else .ok ⟨st.decls,st.aD,st.rules⟩:=by
 rw[az c,Va b,e1];rfl
theorem fF {st:PS}{n k pos:Nat}(e1:DC s 702 (start s)=DC s (n+1) st) (a:isDecl st.t.kind=true) (b:decl s st= .bad k pos) (c:s.length<=700):read s= .error (k,pos):=by unfold read Fh;rw[Ai (by omega),e1];rw[DC,Al a,b];rfl
theorem j7 (h:UF B ea w) (hl:s.length<=700):
  Calls prog 19 #[vs s] w λe w'=>IG ea w s e w':=by
 have h1:decide ((s.length:Int)>700)=false:=by simp;omega
 have dA:∀(fn:Fn) (first R:Array Value) (w:World),(Instr.makeFunc fn first R).run prog w= .ok (.func fn first R) w:=λ_ _ _ _=>rfl;have dB:=@mO prog;have eg:∀w,(binOp .eql 105 (.slice none 0 0) (.slice none 0 0)).run prog w= .ok (.bool true) w:=λ_=>rfl;have eF:∀(a:Addr) (n c:Nat) w,(binOp .eql 105 (.slice (some a) n c) (.slice none 0 0)).run prog w= .ok (.bool false) w:=λ_ _ _ _=>rfl;have g:=oo (s:=s) h hl;have S:=En g;rw[kv]at S;obtain⟨HS,HN,HE,HL⟩:=zq4 g S h hl;clear g S h;unfold io EH vs at*
 go_enter_defers func19,ntmps19
 go_wp2_with fail;refine HN.out.mono ?_;rintro e w1 ⟨rfl,L,h1⟩;have bi:rG (w.heap.size+1+1) ea (w.heap.size+1+1+1+1) (w.heap.size+1+1+1) (w.heap.size+1+1) s (EH w) (start s) w1:=by
  refine⟨⟨_,_,h1⟩,SQ s HL.out,Ac.trans ?_ (L.mono ?_)⟩
  ·exact(((Ac.refl _ (EH w)).alloc (by simp) _).alloc (by simp) _).alloc (by simp) _
  ·rintro b (rfl|hb)
   ·omega
   ·have:=HS.out.env.size;omega
 have cY:=Aa bi;clear L h1 bi;go_wp2_with fail
 go_loopg [] 702 (λY wr=>∃st,rG (w.heap.size+1+1) ea (w.heap.size+1+1+1+1) (w.heap.size+1+1+1) (w.heap.size+1+1) s (EH w) st wr/\st.rules=[]/\st.decls.length+Y<=702/\left s st<Y/\DC s 702 (start s)=DC s Y st)
 case atStart=>exact⟨_,cY.out,rfl,Ab _,by unfold left start;simp;omega,rfl⟩
 case round=>
  obtain⟨st,T,bj,U,r,y⟩:=hrel;obtain⟨vd,wp,z⟩:=T.rd;obtain⟨_,_,c2,_⟩:=AX z.row;obtain⟨k',cZ⟩:∃x,gk=x+1:=⟨gk-1,by omega⟩;rw[cZ]at U r y;obtain⟨da,D,db,V,bn,W⟩:=zq6 z T bj U r y;clear z T bj U r y;unfold vs at*;by_cases j:isDecl st.t.kind=true
  ·have N:=j;simp only[isDecl,sN,PL]at N;have M:=Aa j;clear j;rcases N with((G|G)|G)|G
   all_goals
    rw[G]at c2;clear G;go_wp2_with fail;refine(qW da.out D.out.nG.ok M.out (by have:=V.out;omega)).mono ?_;rintro e w2 C;cases A:decl s st with
    |bad k pos=>
     rw[A]at C;obtain⟨gf,rfl,hF,l,m⟩:=C;have O:=fF (n:=k') W.out M.out A HL.out;have P:=NC (D.out.kept.trans hF);have F:=Aa (And.intro P (Tf (D.out.kept) hF l m O (.pointer none) (.iface 54 (.pointer (some ⟨gf,0,none⟩)))));clear hF l m O P A;go_wp2;exact Ji rfl rfl F.out.1.1 F.out.1.2.1 F.out.1.2.2.1 F.out.1.2.2.2 (by omega) F.out.2
    |ok u X=>
     rw[A]at C;obtain⟨rfl,H,dc,dh,h2⟩:=C;obtain⟨m2,r2,l2⟩:=Sd D.out.nG M.out db.out A;have F:=Aa (And.intro (And.intro H h2) (And.intro A (And.intro m2 (And.intro r2 l2))));clear H h2 m2 r2 l2 A;go_wp2_with fail;go_roundg k'
     case measure=>omega
     case rel=>exact⟨X,⟨⟨_,_,F.out.1.2⟩,F.out.2.2.1,D.out.kept.trans F.out.1.1⟩,F.out.2.2.2.1,by have:=V.out;have:=qV F.out.2.1;omega,by have:=F.out.2.2.2.2;have:=bn.out;omega,bW W.out M.out F.out.2.1⟩
  ·have bq:=fE W.out j;have n1:(st.t.kind==EK)=false:=by rw[QP];intro e;exact j (by simp only[isDecl,e,ij])
   have n2:(st.t.kind==Ge)=false:=by rw[QP];intro e;exact j (by simp only[isDecl,e,ij,Ul])
   have n3:(st.t.kind==Jo)=false:=by rw[QP];intro e;exact j (by simp only[isDecl,e,ij,Ul])
   have n4:(st.t.kind==Cx)=false:=by rw[QP];intro e;exact j (by simp only[isDecl,e,ij,Ul])
   have br:=Aa bq;clear j bq;go_wp2_with fail
   go_loopg [] 702 (λY wr=>∃st',rG (w.heap.size+1+1) ea (w.heap.size+1+1+1+1) (w.heap.size+1+1+1) (w.heap.size+1+1) s (EH w) st' wr/\left s st'<Y/\Eb s 1500 702 st=Eb s 1500 Y st')
   case atStart=>exact⟨st,D.out,by have:=bn.out;have:=V.out;omega,rfl⟩
   case round=>
    obtain⟨st',T,r,y⟩:=hrel;obtain⟨eT,eU,z⟩:=T.rd;obtain⟨_,_,c2,_⟩:=AX z.row;obtain⟨k1,L⟩:∃x,gk=x+1:=⟨gk-1,by omega⟩;rw[L]at r y;obtain⟨o,i,bt,I⟩:=zq4 z T r y;clear z T r y;unfold vs at*;by_cases G:st'.t.kind=TF
    ·have HK:=Aa G;rw[G]at c2;clear G;go_wp2_with fail;refine(oE o.out i.out.nG.ok i.out.nG.depth i.out.nG.loops HK.out (n:=1500) (by have:=HL.out;unfold left;omega)).mono ?_;rintro e w2 C;cases A:GG s 1500 st' with
     |bad k pos=>
      rw[A]at C;obtain⟨gf,rfl,hF,l,m⟩:=C;have O:=dT br.out I.out HK.out A HL.out;have P:=NC (i.out.kept.trans hF);have F:=Aa (And.intro P (Tf (i.out.kept) hF l m O (.pointer none) (.iface 54 (.pointer (some ⟨gf,0,none⟩)))));clear hF l m O P A;go_wp2;exact Ji rfl rfl F.out.1.1 F.out.1.2.1 F.out.1.2.2.1 F.out.1.2.2.2 (by omega) F.out.2
     |ok u X=>
      rw[A]at C;obtain⟨rfl,H,dc,dh,h2⟩:=C;obtain⟨m2,l2,_⟩:=Rj i.out.nG HK.out A;have F:=Aa (And.intro (And.intro H h2) (And.intro A (And.intro m2 l2)));clear H h2 m2 l2 A;go_wp2_with fail;go_roundg k1
      case measure=>omega
      case rel=>exact⟨X,⟨⟨_,_,F.out.1.2⟩,F.out.2.2.1,i.out.kept.trans F.out.1.1⟩,by have:=F.out.2.2.2;have:=bt.out;omega,Z5 I.out HK.out F.out.2.1⟩
    ·have bu:=dS I.out G;have eW:(st'.t.kind==TF)=false:=by simpa using G
     have J:=uy br.out bu HL.out;have hw:=Db o.out Eh;obtain⟨bx,HW⟩:=zq2 J hw;clear G bu J hw;unfold vs at*;go_wp2_with fail;refine HW.out.mono ?_;rintro e w3 C;cases E:want s Eh st' with
     |bad k pos=>
      rw[E]at C;obtain⟨gf,rfl,hF,l,m⟩:=C;have O:read s= .error (k,pos):=by rw[bx.out,E]
      have P:=NC (i.out.kept.trans hF);have F:=Aa (And.intro P (Tf (i.out.kept) hF l m O (.pointer none) (.iface 54 (.pointer (some ⟨gf,0,none⟩)))));clear hF l m O P E;go_wp2;exact Ji rfl rfl F.out.1.1 F.out.1.2.1 F.out.1.2.2.1 F.out.1.2.2.2 (by omega) F.out.2
     |ok tw d=>
      rw[E]at C;obtain⟨v,rfl,rfl,bz,eY,eZ,h3⟩:=C;have fa:=o.out.env.size;have k3:Ac (λb=>w.heap.size+1+1<=b) (EH w) w3:=i.out.kept.trans (Mu o.out.env.size o.out.g0 bz);have f:read s=match d.bC with
       |some x=>.error x
       |none=>if(Eo d.rules).isNone then .error (P7,0)else .ok ⟨d.decls,d.aD,d.rules⟩:=by rw[bx.out,E]
      obtain⟨_,_,_,_,_,c5,_,_,_,c9⟩:=AX h3.row;have K:=h3.bC;obtain⟨H3,Z,bD⟩:=zq3 h3 k3 f;obtain⟨x1,x2,x3,x4⟩:=NC k3;clear h3 bz k3 f E;unfold IM at K;cases g:d.bC with
      |some x=>
       rw[g]at K;obtain⟨gf,rfl,bE,Q⟩:=K;have f:read s= .error x:=by rw[bD.out,g]
       have F:=Aa (fu (gf:=gf) Z.out (Ac.refl _ w3) Q bE f (.pointer none) (.iface 54 (.pointer (some ⟨gf,0,none⟩))));clear bE Q f g;have p:¬w.heap.size+1=w.heap.size:=by omega
       have lq:w.heap.size+1<w3.heap.size:=by have:=Z.out.size;simp at this;omega
       have lp:w.heap.size<w3.heap.size:=by omega
       go_wp2_with fail;go_region
       all_goals go_wp2
       all_goals exact Kv (a:=.pointer none) (b:=.iface 54 (.pointer (some ⟨gf,0,none⟩))) rfl rfl (by simp[go_sem,x1,x3,p]) (by simp[go_sem,x1,x3,p]) F.out
      |none=>
       rw[g]at K;obtain rfl:=K;have f:read s=if(Eo d.rules).isNone then .error (P7,0)else .ok ⟨d.decls,d.aD,d.rules⟩:=by rw[bD.out,g]
       have bF:=Aa f;clear f g;obtain⟨vm,bG,q⟩:=H3.out.rules.look (-1);have bH:=bG false;simp only[Ap,A8]at bH;have p2:=H3.out.ba.cell 2;simp at p2;have bI:=Aa q;clear bG q;cases hm:Bj d.rules (-1)with
       |none=>
        have q:=bI.out;rw[hm]at q;obtain rfl:=q;have f:read s= .error (P7,0):=by rw[bF.out];unfold Eo;rw[hm];rfl
        have HF:=Aa f;clear f hm;have p:¬w.heap.size+1=w.heap.size:=by omega
        have lq:w.heap.size+1<w3.heap.size:=by have:=Z.out.size;simp at this;omega
        have lp:w.heap.size<w3.heap.size:=by omega
        have dz:w3.cell? ⟨1,0,none⟩=some (.iface 307 (.pointer (some (ea 10)))):=H3.out.env.err 10 (by omega) (by omega);have fd:1<w.heap.size:=An (HE.out.lt 10 (by omega) (by omega)) HE.out.size;go_wp2_with fail;go_region
        all_goals go_wp2
        all_goals exact Kv (a:=.pointer none) (b:=.iface 54 (.pointer (some ⟨w3.heap.size,0,none⟩))) rfl rfl (by simp[go_sem,x1,x3,p,lp,lq]) (by simp[go_sem,x1,x3,p,lp,lq]) (oY Z.out HF.out _ _)
       |some b=>
        have q:=bI.out;rw[hm]at q;obtain⟨cs,⟨_,gl,R,rfl⟩,_⟩:=q;have f:read s= .ok ⟨d.decls,d.aD,d.rules⟩:=by rw[bF.out];unfold Eo;rw[hm];rfl
        clear hm;have p:¬w.heap.size+1=w.heap.size:=by omega
        have lq:w.heap.size+1<w3.heap.size:=by have:=Z.out.size;simp at this;omega
        have lp:w.heap.size<w3.heap.size:=by omega
        have F:=Aa (zM Z.out H3.out f (.pointer (some ⟨w.heap.size+1+1+1,0,none⟩)) .nilIface);clear f;go_wp2;exact Kv (a:=.pointer (some ⟨w.heap.size+1+1+1,0,none⟩)) (b:=.nilIface) rfl rfl (by simp[go_sem,x1,x3,p]) (by simp[go_sem,x1,x3,p]) F.out
theorem ay (h:UF B ea w) (s:Ah):Calls prog 19 #[vs s] w λe w'=>IG ea w s e w':=by
 by_cases a:700<s.length
 ·exact j8 h a
 ·exact j7 h (by omega)
end
def Qz (S:Nat->Prop) (w:World) (gm gg gp bm loops:Nat) (code:List Gk) (e:Ending) (w':World):Prop:=
 e= .returned (.tuple #[])/\Ac S w w'/\∃vl,Ot S w' gm gg gp bm vl loops code
section
variable {S:Nat->Prop}{w w':World}{gm gg gp bm loops:Nat}{vl:Value}{code:List Gk}
theorem Ot.alloc (h:Ot S w gm gg gp bm vl loops code) (o:Obj):Ot S (w.alloc o) gm gg gp bm vl loops code:=
 ⟨h.row.alloc o,h.prog.alloc o,h.l.alloc o,h.sm,h.sg⟩
theorem Up.alloc {w:World}(h:Up S w) (o:Obj):Up S (w.alloc o):=λb a=>h b (Ad (by simp) a)
theorem eE (h:Ot S w gm gg gp bm vl loops code) (d:Up S w) (f:code.length<=1000000) (i:Gk) {c a b:Int}(g:c=(i.op:Int)) (j:a=i.a) (k:b=i.b):
  Calls prog 47 #[.pointer (some ⟨gm,0,none⟩),.agg #[.int .u8 c,.int .i64 a,.int .i64 b]] w λe w'=>
   e= .returned (.int .i64 code.length)/\Ac S w w'/\∃vl,Ot S w' gm gg gp bm vl loops (code++[i]):=by
 subst g j k;exact uz h d f i
theorem nP (h:Ot S w gm gg gp bm vl loops code) (d:Up S w) (l:code.length<=1000000) (v:Qw):
  Calls prog 127 #[.pointer (some ⟨gm,0,none⟩),.agg (DB v).toArray] w λe w'=>Qz S w gm gg gp bm loops (code++[Gi v]) e w':=by
 have f:=h.alloc (.cells (DB v).toArray 199);have g:=(Ac.refl S w).alloc (d _ (Ab _)) (.cells (DB v).toArray 199);have j:=d.alloc (.cells (DB v).toArray 199);obtain⟨i,b⟩:∃i,i=Gi v:=⟨_,rfl⟩;rw[←b];obtain⟨m,n,o,c⟩:=zq4 g f j b;clear h f g j b;cases v
 all_goals
  unfold DB vs at*;simp only[Ff,C4]at*;go_enter func127,ntmps127;go_wp2_with fail;refine(eE n.out o.out l i (by rw[c.out];rfl) (by rw[c.out];rfl) (by rw[c.out];rfl)).mono ?_;rintro e q ⟨rfl,a,p,k⟩;have F:=Aa (And.intro a k);clear a k;go_wp2;refine Dj (Ct rfl _ _ _) rfl ?_;exact⟨rfl,m.out.trans F.out.1,_,F.out.2⟩
abbrev zp (S:Nat->Prop) (k:Nat):Nat->Prop:=λb=>S b/\b≠k
theorem Ot.mono {S':Nat->Prop}(h:Ot S w gm gg gp bm vl loops code) (a:∀b,S b->S' b):Ot S' w gm gg gp bm vl loops code:=
 ⟨h.row,h.prog,h.l.mono a,a _ h.sm,a _ h.sg⟩
theorem Ot.but (h:Ot S w gm gg gp bm vl loops code) (o:Obj):Ot (zp S w.heap.size) (w.alloc o) gm gg gp bm vl loops code:=
 ⟨h.row.alloc o,h.prog.alloc o,⟨(h.l.alloc o).1,λg a=>⟨h.l.2 g a,λe=>by have:=h.l.lt a;omega⟩⟩,⟨h.sm,λe=>by have:=h.row.lt;omega⟩,⟨h.sg,λe=>by have:=h.prog.lt;omega⟩⟩
theorem Up.but (h:Up S w) (o:Obj):Up (zp S w.heap.size) (w.alloc o):=λb a=>by
 have:(w.alloc o).heap.size=w.heap.size+1:=by simp
 exact⟨h b (by omega),by omega⟩
structure DM (S:Nat->Prop) (w0 w:World) (gm gg gp bm loops:Nat) (code:List Gk) (K:Nat) (t:TypeId) (cs:List Value):Prop where
 mr:∃vl,Ot (zp S K) w gm gg gp bm vl loops code
 up:Up (zp S K) w
 row:AE w K t cs
 kept:Ac S w0 w
section
variable {w0:World}{aD K:Nat}{t:TypeId}{cs:List Value}
theorem DM.start (h:Ot S w gm gg gp bm vl loops code) (a:Up S w) (t:TypeId) (cs:List Value):DM S w (w.alloc (.cells cs.toArray t)) gm gg gp bm loops code w.heap.size t cs:=
 ⟨⟨_,h.but _⟩,a.but _,AE.new w t cs,(Ac.refl S w).alloc (a _ (Ab _)) _⟩
theorem DM.call {loops':Nat}{a:List Gk}(h:DM S w0 w gm gg gp bm loops code K t cs) (c:Ac (zp S K) w w') (d:∃vl,Ot (zp S K) w' gm gg gp bm vl loops' a):DM S w0 w' gm gg gp bm loops' a K t cs:=
 ⟨d,h.up.kept c,h.row.kept c (λe=>e.2 rfl),h.kept.trans (c.mono (λb f=>f.1))⟩
theorem DM.out (h:DM S w0 w gm gg gp bm loops code K t cs):Qz S w0 gm gg gp bm loops code (.returned (.tuple #[])) w:=by obtain⟨vl,a⟩:=h.mr;exact⟨rfl,h.kept,vl,a.mono (λb c=>c.1)⟩
theorem DM.put (h:DM S w0 w gm gg gp bm loops code K t cs) (f:code.length<=1000000) (i:Gk) {d a b:Int}(g:d=(i.op:Int)) (j:a=i.a) (k:b=i.b):
  Calls prog 47 #[.pointer (some ⟨gm,0,none⟩),.agg #[.int .u8 d,.int .i64 a,.int .i64 b]] w λe w'=>
   e= .returned (.int .i64 code.length)/\DM S w0 w' gm gg gp bm loops (code++[i]) K t cs:=by
 obtain⟨vl,l⟩:=h.mr;refine(eE l h.up f i g j k).mono ?_;rintro e w' ⟨m,n,c⟩;exact⟨m,h.call n c⟩
theorem DM.value (h:DM S w0 w gm gg gp bm loops code K t cs) (b:code.length<=1000000) (v:Qw):
  Calls prog 127 #[.pointer (some ⟨gm,0,none⟩),.agg (DB v).toArray] w λe w'=>
   e= .returned (.tuple #[])/\DM S w0 w' gm gg gp bm loops (code++[Gi v]) K t cs:=by
 obtain⟨vl,c⟩:=h.mr;refine(nP c h.up b v).mono ?_;rintro e w' ⟨d,f,a⟩;exact⟨d,h.call f a⟩
end
theorem wu {t:TypeId}{C:Nat}{a b c d e f g:Value}(h:AE w C t [a,b,c,d,e,f,g]):
  w.cell? ⟨C,0,none⟩=some a/\w.cell? ⟨C,1,none⟩=some b/\w.cell? ⟨C,2,none⟩=some c/\w.cell? ⟨C,3,none⟩=some d/\w.cell? ⟨C,4,none⟩=some e/\w.cell? ⟨C,5,none⟩=some f/\w.cell? ⟨C,6,none⟩=some g:=
 ⟨h.cell 0,h.cell 1,h.cell 2,h.cell 3,h.cell 4,h.cell 5,h.cell 6⟩
theorem aL (h:Ot S w gm gg gp bm vl loops code) (o:Up S w) (D:code.length<=900000) (a b:Qw) (n:Nat):
  Calls prog 110 #[.pointer (some ⟨gm,0,none⟩),.agg (Bt ⟨.less a b,n⟩).toArray] w λe w'=>Qz S w gm gg gp bm loops (code++Ar ⟨.less a b,n⟩) e w':=by
 have j:=DM.start h o 201 (Bt ⟨.less a b,n⟩);have g:=j.value (by omega) a;obtain⟨E,s⟩:=zq2 j g;clear j g h o;unfold Bt DB vs at*;simp only[Cj,Bs,MN,DB,vs,Bx,CS]at*;go_enter gN,Zz;go_wp2_with fail;refine s.out.mono ?_;rintro e w1 ⟨rfl,k⟩;obtain⟨u,v,x,y,z,A,i⟩:=wu k.row;have g:=k.value (by simp;omega) b;have l:=Aa g;clear g k;unfold DB vs at*;go_wp2_with fail;refine l.out.mono ?_;rintro e F ⟨rfl,p⟩;clear u v x y z A i;have B:=Aa p;clear p;go_wp2_with fail;refine(B.out.put (by first|omega|(simp;omega)) .less rfl rfl rfl).mono ?_;rintro e w3 ⟨rfl,m⟩;have i:=m.row.cell 6;have q:=Aa m;clear m;simp at i;cases d:Dn n with
 |true=>
  rw[d]at i;have c:code++Ar ⟨.less a b,n⟩=code++[Gi a]++[Gi b]++[.less]++[.not]:=by unfold Dn at d;simp[Ar,Jz,d]
  have f:=Aa c;clear d c;go_wp2_with fail;refine(q.out.put (by first|omega|(simp;omega)) .not rfl rfl rfl).mono ?_;rintro e G ⟨rfl,r⟩;have C:=Aa r;clear r;go_wp2;refine Dj (Ct rfl _ _ _) rfl ?_;rw[f.out];exact C.out.out
 |false=>
  rw[d]at i;have c:code++Ar ⟨.less a b,n⟩=code++[Gi a]++[Gi b]++[.less]:=by unfold Dn at d;simp[Ar,Jz,d]
  have f:=Aa c;clear d c;go_wp2;refine Dj (Ct rfl _ _ _) rfl ?_;rw[f.out];exact q.out.out
theorem aM (h:Ot S w gm gg gp bm vl loops code) (g:Up S w) (o:code.length<=900000) (q:Int) (n:Nat):
  Calls prog 110 #[.pointer (some ⟨gm,0,none⟩),.agg (Bt ⟨.full q,n⟩).toArray] w λe w'=>Qz S w gm gg gp bm loops (code++Ar ⟨.full q,n⟩) e w':=by
 have i:=DM.start h g 201 (Bt ⟨.full q,n⟩);have l:=Aa i;clear i h g;unfold Bt vs at*;simp only[Cj,Bs,MN,vs,Bx,CS]at*;go_enter gN,Zz;go_wp2_with fail;refine(l.out.put (by first|omega|(simp;omega)) (.full q) rfl rfl rfl).mono ?_;rintro e w1 ⟨rfl,j⟩;have d:=Aa j;clear j;have f:=d.out.row.cell 6;simp at f;cases b:Dn n with
 |true=>
  rw[b]at f;have a:code++Ar ⟨.full q,n⟩=code++[(.full q)]++[.not]:=by unfold Dn at b;simp[Ar,Jz,b]
  have c:=Aa a;clear b a;go_wp2_with fail;refine(d.out.put (by first|omega|(simp;omega)) .not rfl rfl rfl).mono ?_;rintro e p ⟨rfl,k⟩;have m:=Aa k;clear k;go_wp2;refine Dj (Ct rfl _ _ _) rfl ?_;rw[c.out];exact m.out.out
 |false=>
  rw[b]at f;have a:code++Ar ⟨.full q,n⟩=code++[(.full q)]:=by unfold Dn at b;simp[Ar,Jz,b]
  have c:=Aa a;clear b a;go_wp2;refine Dj (Ct rfl _ _ _) rfl ?_;rw[c.out];exact d.out.out
theorem aK (h:Ot S w gm gg gp bm vl loops code) (g:Up S w) (o:code.length<=900000) (q:Int) (n:Nat):
  Calls prog 110 #[.pointer (some ⟨gm,0,none⟩),.agg (Bt ⟨.eU q,n⟩).toArray] w λe w'=>Qz S w gm gg gp bm loops (code++Ar ⟨.eU q,n⟩) e w':=by
 have i:=DM.start h g 201 (Bt ⟨.eU q,n⟩);have l:=Aa i;clear i h g;unfold Bt vs at*;simp only[Cj,Bs,MN,vs,Bx,CS]at*;go_enter gN,Zz;go_wp2_with fail;refine(l.out.put (by first|omega|(simp;omega)) (.eU q) rfl rfl rfl).mono ?_;rintro e w1 ⟨rfl,j⟩;have d:=Aa j;clear j;have f:=d.out.row.cell 6;simp at f;cases b:Dn n with
 |true=>
  rw[b]at f;have a:code++Ar ⟨.eU q,n⟩=code++[(.eU q)]++[.not]:=by unfold Dn at b;simp[Ar,Jz,b]
  have c:=Aa a;clear b a;go_wp2_with fail;refine(d.out.put (by first|omega|(simp;omega)) .not rfl rfl rfl).mono ?_;rintro e p ⟨rfl,k⟩;have m:=Aa k;clear k;go_wp2;refine Dj (Ct rfl _ _ _) rfl ?_;rw[c.out];exact m.out.out
 |false=>
  rw[b]at f;have a:code++Ar ⟨.eU q,n⟩=code++[(.eU q)]:=by unfold Dn at b;simp[Ar,Jz,b]
  have c:=Aa a;clear b a;go_wp2;refine Dj (Ct rfl _ _ _) rfl ?_;rw[c.out];exact d.out.out
theorem YD (h:Ot S w gm gg gp bm vl loops code) (g:Up S w) (u:code.length<=900000) (q:Int) (n:Nat):
  Calls prog 110 #[.pointer (some ⟨gm,0,none⟩),.agg (Bt ⟨.empty q,n⟩).toArray] w λe w'=>Qz S w gm gg gp bm loops (code++Ar ⟨.empty q,n⟩) e w':=by
 have i:=DM.start h g 201 (Bt ⟨.empty q,n⟩);have o:=Aa i;clear i h g;unfold Bt vs at*;simp only[Cj,Bs,MN,vs,Bx,CS]at*;go_enter gN,Zz;go_wp2_with fail;refine(o.out.put (by first|omega|(simp;omega)) (.len q) rfl rfl rfl).mono ?_;rintro e w1 ⟨rfl,j⟩;have p:=Aa j;clear j;go_wp2_with fail;refine(p.out.put (by first|omega|(simp;omega)) (.num 1) rfl rfl rfl).mono ?_;rintro e v ⟨rfl,k⟩;have r:=Aa k;clear k;go_wp2_with fail;refine(r.out.put (by first|omega|(simp;omega)) .less rfl rfl rfl).mono ?_;rintro e w3 ⟨rfl,l⟩;have d:=Aa l;clear l;have f:=d.out.row.cell 6;simp at f;cases b:Dn n with
 |true=>
  rw[b]at f;have a:code++Ar ⟨.empty q,n⟩=code++[(.len q)]++[(.num 1)]++[.less]++[.not]:=by unfold Dn at b;simp[Ar,Jz,b]
  have c:=Aa a;clear b a;go_wp2_with fail;refine(d.out.put (by first|omega|(simp;omega)) .not rfl rfl rfl).mono ?_;rintro e x ⟨rfl,m⟩;have s:=Aa m;clear m;go_wp2;refine Dj (Ct rfl _ _ _) rfl ?_;rw[c.out];exact s.out.out
 |false=>
  rw[b]at f;have a:code++Ar ⟨.empty q,n⟩=code++[(.len q)]++[(.num 1)]++[.less]:=by unfold Dn at b;simp[Ar,Jz,b]
  have c:=Aa a;clear b a;go_wp2;refine Dj (Ct rfl _ _ _) rfl ?_;rw[c.out];exact d.out.out
theorem wk (h:Ot S w gm gg gp bm vl loops code) (d:Up S w) (f:code.length<=900000) (c:C3):
  Calls prog 110 #[.pointer (some ⟨gm,0,none⟩),.agg (Bt c).toArray] w λe w'=>Qz S w gm gg gp bm loops (code++Ar c) e w':=by
 obtain⟨k,n⟩:=c;cases k with
 |full q=>exact aM h d f q n
 |empty q=>exact YD h d f q n
 |eU q=>exact aK h d f q n
 |less a b=>exact aL h d f a b n
def Vd:D0->Int×Int
 | .put _ _=>(0,1)
 | .shift _ _ _=>(3,4)
 | .bx _=>(2,2)
 | .dz _=>(8,8)
 | .drop=>(5,5)
 |_=>(7,7)
theorem kn (p:D0) (w:World) (a:∀v,p≠.inc v/\p≠.dec v):Calls prog 111 #[vs (CQ p)] w λe w'=>e= .returned (.tuple #[.int .u8 (Vd p).1,.int .u8 (Vd p).2])/\w'=w:=by
 unfold vs;cases p
 case inc v=>exact absurd rfl (a v).1
 case dec v=>exact absurd rfl (a v).2
 all_goals
  clear a;unfold CQ;go_enter func111,ntmps111;go_wp2;refine AA (results_tmp2 Tryz.results111 _ _ _) rfl ?_;exact⟨rfl,rfl⟩
end
def Qx:Az->Prop
 | .nil=>True
 | .bG _ r=>Qx r
 | .ite _ t o e r=>Qx t/\Qx e/\Qx r/\(o=false->e= .nil)
 | .rep _ _ b r=>Qx b/\Qx r
theorem Py:∀(a b:Az),(a.app b).loops=a.loops+b.loops
 | .nil,b=>by simp[Az.app,Az.loops]
 | .bG p r,b=>by simp[Az.app,Az.loops,Py r b]
 | .ite c t o e r,b=>by simp[Az.app,Az.loops,Py r b];omega
 | .rep n c x r,b=>by simp[Az.app,Az.loops,Py r b];omega
theorem O9:∀(a b:Az) (c o:Nat),Qx a->BO c o (a.app b)=BO c o a++BO (c+a.loops) (o+(BO c o a).length) b
 | .nil,b,c,o,_=>by simp[Az.app,BO,Az.loops]
 | .bG p r,b,c,o,h=>by
  have d:=O9 r b c (o+1) h;simp only[Az.app,BO,Az.loops,Bx,Af,d];rw[show o+((BO c (o+1) r).length+1)=o+1+(BO c (o+1) r).length by omega]
 | .ite k t o' e r,b,c,o,h=>by
  cases o' with
  |true=>
   have d:=λx y=>O9 r b x y h.2.2.1;simp only[Az.app,BO,Az.loops,A6];rw[d];simp only[AK,Bx,Ao,Af];simp only[EU,FA,Nat.add_left_comm]
  |false=>
   have f:=h.2.2.2 rfl;subst f;have d:=λx y=>O9 r b x y h.2.2.1;simp only[Az.app,BO,Az.loops,Ap,A8,Mi];rw[d];simp only[AK,Bx,Ao,Af];simp only[EU,FA,Nat.add_left_comm]
 | .rep n k x r,b,c,o,h=>by
  have d:=λy z=>O9 r b y z h.2;simp only[Az.app,BO,Az.loops];rw[d];simp only[AK,Bx,Ao,Af];congr 8
  ·omega
  ·omega
theorem Lj (c:C3):(Ar c).length<=4:=by
 unfold Ar;have:(Jz c.k).length<=3:=by cases c.k<;>simp[Jz]
 split<;>simp<;>omega
theorem Hj:∀(b:Az) (c o:Nat),(BO c o b).length<=8*b.size
 | .nil,c,o=>by simp[BO]
 | .bG p r,c,o=>by
  have:=Hj r c (o+1);simp only[BO,Az.size,Af];omega
 | .ite k t o' e r,c,o=>by
  have h:=Lj k;have f:=λx y=>Hj t x y;have i:=λx y=>Hj e x y;have g:=λx y=>Hj r x y;simp only[BO,Az.size];split
  ·simp only[Ao,Af];obtain⟨a,b,d⟩:=zp3 (f c (o+(Ar k).length+1)) (i (c+t.loops) (o+(Ar k).length+1+(BO c (o+(Ar k).length+1) t).length+1)) (g (c+t.loops+e.loops) (o+(Ar k).length+1+(BO c (o+(Ar k).length+1) t).length+1+(BO (c+t.loops) (o+(Ar k).length+1+(BO c (o+(Ar k).length+1) t).length+1) e).length));omega
  ·simp only[Ao,Af];have a:=f c (o+(Ar k).length+1);have d:=g (c+t.loops) (o+(Ar k).length+1+(BO c (o+(Ar k).length+1) t).length);omega
 | .rep n k x r,c,o=>by have h:=Lj k;have f:=λy z=>Hj x y z;have g:=λy z=>Hj r y z;simp only[BO,Az.size,Ao,Af];have a:=f (c+1) (o+2+(Ar k).length+1);have d:=g (c+1+x.loops) (o+2+(Ar k).length+1+(BO (c+1) (o+2+(Ar k).length+1) x).length+1);omega
section
variable {S:Nat->Prop}{w w':World}{gm gg gp bm loops:Nat}{vl:Value}{code:List Gk}
theorem Ot.dv {a n d:Nat}(h:Ot S w gm gg gp bm (.slice (some ⟨a,0,none⟩) n d) loops code) (m:n=code.length) {k j:Nat}{e i:Gk}{u:Value}(o:code[k]?=some e) (p:j<3) (q:Cy i=(Cy e).set j u):
  Ac S w (w.setCell ⟨a,k*3+j,none⟩ u)/\Ot S (w.setCell ⟨a,k*3+j,none⟩ u) gm gg gp bm (.slice (some ⟨a,0,none⟩) n d) loops (code.set k i):=by
 subst m;have c:Ac (λb=>b=a) w (w.setCell ⟨a,k*3+j,none⟩ u):=Ac.one w ⟨a,k*3+j,none⟩ u;obtain⟨cs,f⟩:=h.l.row rfl;have g:=h.l.bF (λ_=>rfl) o p q;rw[A9]at g;refine⟨c.mono (λb r=>r▸h.l.2 a rfl),h.row.kept c (h.row.bt f (by decide)),h.prog.kept c (h.prog.bt f (by decide)),?_,h.sm,h.sg⟩;rw[A9];exact g
theorem uB (h:Ot S w gm gg gp bm vl loops code) (o:Up S w) (r:code.length<=900000) (p:D0):
  Calls prog 81 #[.pointer (some ⟨gm,0,none⟩),.agg (Lf p).toArray] w λe w'=>Qz S w gm gg gp bm loops (code++[.bG p]) e w':=by
 have d:=DM.start h o 203 (Lf p);obtain⟨f,g,j,k,_⟩:=BN d.row;have c:=λ(x:∀v,p≠.inc v/\p≠.dec v) w=>kn p w x;obtain⟨i,l⟩:∃i,i=Gk.bG p:=⟨_,rfl⟩;rw[←l];obtain⟨m,a,q⟩:=zq3 d l c;clear d h o l c;cases p
 case inc v=>
  clear f g j k;simp only[Lf,CQ,G8,G9,C1,ME,A4,vs,Bx,CS]at*;go_enter W3,Uc;go_wp2_with fail;refine(m.out.put (by omega) i (by rw[a.out];rfl) (by rw[a.out];rfl) (by rw[a.out];rfl)).mono ?_;rintro e n ⟨rfl,b⟩;have F:=Aa b;clear b;go_wp2;refine Dj (Ct rfl _ _ _) rfl ?_;exact F.out.out
 case dec v=>
  clear f g j k;simp only[Lf,CQ,G8,G9,C1,ME,A4,vs,Bx,CS]at*;go_enter W3,Uc;go_wp2_with fail;refine(m.out.put (by omega) i (by rw[a.out];rfl) (by rw[a.out];rfl) (by rw[a.out];rfl)).mono ?_;rintro e n ⟨rfl,b⟩;have F:=Aa b;clear b;go_wp2;refine Dj (Ct rfl _ _ _) rfl ?_;exact F.out.out
 all_goals
  clear f g j k;simp only[Lf,CQ,G8,G9,C1,ME,A4,vs,Bx,CS]at*;go_enter W3,Uc;go_wp2_with fail;refine(q.out (λv=>⟨by simp,by simp⟩) _).mono ?_;rintro e n ⟨rfl,rfl⟩;simp only[Vd]
  try cases ‹Bool›
 all_goals
  go_wp2_with fail;refine(m.out.put (by omega) i (by rw[a.out];rfl) (by rw[a.out];rfl) (by rw[a.out];rfl)).mono ?_;rintro e n ⟨rfl,b⟩;have F:=Aa b;clear b;go_wp2;refine Dj (Ct rfl _ _ _) rfl ?_;exact F.out.out
end
theorem Xj:∃a n c,A4= .slice a n c:=⟨none,0,0,rfl⟩
theorem A1.part {N:Nat->Prop}{w:World}:∀(b:Az) (cs:List Value),b≠.nil->A1 N w b cs->∃x tl f i,b=x.app tl/\x.length=1/\cs=f++i/\StF f/\A1 N w x f/\A1 N w tl i/\b.length=tl.length+1/\x.size+tl.size=b.size
 | .nil,cs,h,_=>absurd rfl h
 | .bG p r,cs,_,⟨rest,j,z⟩=>
  ⟨.bG p .nil,r,Lf p,rest,rfl,rfl,j,⟨_,_,_,_,_,_,_,_,_,_,_,_,_,_,_,_,_,rfl⟩,⟨[],by simp,rfl⟩,z,by simp[Az.length],by simp[Az.size]⟩
 | .ite c t o e r,cs,_,⟨l,ve,rest,j,m,q,u⟩=>by
  obtain⟨A,⟨_,B,s,g⟩,_⟩:=id m;have d:∃a n c,ve= .slice a n c:=by
   cases o with
   |true=>
    rw[Al rfl]at q;obtain⟨E,⟨_,ge,y,d⟩,_⟩:=q;exact⟨_,_,_,d⟩
   |false=>
    rw[Ai AY]at q;exact q.1▸Xj
  obtain⟨F,G,c2,d⟩:=d;obtain⟨C,n1,D,n3,v⟩:=Fl c.k;refine⟨.ite c t o e .nil,r,LT c l ve,rest,rfl,rfl,j,?_,⟨l,ve,[],by simp,m,q,rfl⟩,u,by simp[Az.length],by simp[Az.size];try omega⟩;unfold LT Bt;rw[v,g,d];exact⟨_,_,_,_,_,_,_,_,_,_,_,_,_,_,_,_,_,rfl⟩
 | .rep n c b r,cs,_,⟨l,rest,j,m,u⟩=>by obtain⟨A,⟨_,B,s,g⟩,_⟩:=id m;obtain⟨C,n1,D,n3,v⟩:=Fl c.k;refine⟨.rep n c b .nil,r,IL n c l,rest,rfl,rfl,j,?_,⟨l,[],by simp,m,rfl⟩,u,by simp[Az.length],by simp[Az.size];try omega⟩;unfold IL Bt;rw[v,g];exact⟨_,_,_,_,_,_,_,_,_,_,_,_,_,_,_,_,_,rfl⟩
theorem A1.tidy {N:Nat->Prop}{w:World}:∀(b:Az) (cs:List Value),A1 N w b cs->Qx b
 | .nil,_,_=>trivial
 | .bG p r,_,⟨rest,_,i⟩=>A1.tidy r rest i
 | .ite c t o e r,_,⟨j,ve,rest,_,⟨d,_,f⟩,a,g⟩=>by
  refine⟨A1.tidy t d f,?_,A1.tidy r rest g,?_⟩
  ·cases o with
   |true=>
    rw[Al rfl]at a;obtain⟨l,_,h⟩:=a;exact A1.tidy e l h
   |false=>
    rw[Ai AY]at a;rw[a.2];trivial
  ·intro m;subst m;rw[Ai AY]at a;exact a.2
 | .rep n c b r,_,⟨j,rest,_,⟨d,_,f⟩,g⟩=>⟨A1.tidy b d f,A1.tidy r rest g⟩
def jd (m:Nat):Prop:=∀(S:Nat->Prop) (w:World) (gm gg gp bm loops:Nat) (a:Value) (code:List Gk) (x:Az) (cs:List Value),
 Ot S w gm gg gp bm a loops code->Up S w->x.length=1->x.size<=m->A1 (λk=>¬S k) w x cs->code.length+8*x.size<=900000->loops+x.size<=1000000->
  Calls prog 81 #[.pointer (some ⟨gm,0,none⟩),.agg cs.toArray] w λe w'=>Qz S w gm gg gp bm (loops+x.loops) (code++BO loops code.length x) e w'
def Tt (m:Nat):Prop:=∀(S:Nat->Prop) (w:World) (gm gg gp bm loops:Nat) (a:Value) (code:List Gk) (b:Az) (v:Value),
 Ot S w gm gg gp bm a loops code->Up S w->b.size<=m->DD (λk=>¬S k) w v b->code.length+8*b.size<=900000->loops+b.size<=1000000->
  Calls prog 46 #[.pointer (some ⟨gm,0,none⟩),v] w λe w'=>Qz S w gm gg gp bm (loops+b.loops) (code++BO loops code.length b) e w'
structure V7 (S:Nat->Prop) (w0:World) (gm gg gp bm loops:Nat) (code:List Gk) (b:Az) (cs:List Value) (k:Nat) (wr:World) (done rest:Az) (aD ba:List Value):Prop where
 eq:b=done.app rest
 cs:cs=aD++ba
 mS:aD.length=k*13
 k:k+rest.length=b.length
 tidy:Qx done
 sz:done.size+rest.size=b.size
 nc:A1 (λk=>¬S k) w0 rest ba
 mr:∃vl,Ot S wr gm gg gp bm vl (loops+done.loops) (code++BO loops code.length done)
 kept:Ac S w0 wr
theorem Jl:∀(b:Az),b.loops<=b.size
 | .nil=>Ab _
 | .bG p r=>by have:=Jl r;simp only[Az.loops,Az.size];omega
 | .ite c t o e r=>by have:=Jl t;have:=Jl e;have:=Jl r;simp only[Az.loops,Az.size];omega
 | .rep n c b r=>by have:=Jl b;have:=Jl r;simp only[Az.loops,Az.size];omega
theorem Rc:∀(a b:Az),Qx a->Qx b->Qx (a.app b)
 | .nil,b,_,h=>by simpa[Az.app]using h
 | .bG p r,b,h,d=>by simpa[Az.app,Qx]using Rc r b h d
 | .ite c t o e r,b,h,d=>by
  show Qx (.ite c t o e (r.app b));exact⟨h.1,h.2.1,Rc r b h.2.2.1 d,h.2.2.2⟩
 | .rep n c x r,b,h,d=>by show Qx (.rep n c x (r.app b));exact⟨h.1,Rc r b h.2 d⟩
section
variable {S:Nat->Prop}{w0 wr:World}{gm gg gp bm loops k:Nat}{code:List Gk}{b done rest:Az}{cs aD ba:List Value}
theorem V7.next {g d:Nat}(h:V7 S w0 gm gg gp bm loops code b cs k wr done rest aD ba) (e:Sl (λk=>¬S k) w0 203 13 (.slice (some ⟨g,0,none⟩) b.length d) b.length cs) (w:k<b.length):
  ∃x tl a c,rest=x.app tl/\x.length=1/\ba=a++c/\StF a/\A1 (λk=>¬S k) w0 x a/\A1 (λk=>¬S k) w0 tl c/\rest.length=tl.length+1/\x.size+tl.size=rest.size/\
   (∀j,j<13->wr.cell? ⟨g,k*13+j,none⟩=a[j]?)/\g<wr.heap.size:=by
 have f:rest≠.nil:=by rintro rfl;have:=h.k;simp[Az.length]at this;omega
 obtain⟨x,tl,a,c,e1,n,i,l,o,q,r,s⟩:=A1.part rest ba f h.nc;have m:a.length=13:=by obtain⟨_,_,_,_,_,_,_,_,_,_,_,_,_,_,_,_,_,rfl⟩:=l;rfl
 refine⟨x,tl,a,c,e1,n,i,l,o,q,r,s,λj y=>?_,An (e.lt rfl) h.kept.size⟩;have t:k*13+j<b.length*13:=by omega
 have u:=e.1.cellAt _ t;have v:cs[k*13+j]?=a[j]?:=by rw[h.cs,i,BE (by rw[h.mS];omega),h.mS,B6,AV (by omega)]
 exact((h.kept.cell (p:=⟨g,k*13+j,none⟩) (e.2 g rfl)).trans u).trans v
theorem V7.step {x tl:Az}{a c:List Value}{w':World}(h:V7 S w0 gm gg gp bm loops code b cs k wr done rest aD ba) (e1:rest=x.app tl) (f:ba=a++c) (g:a.length=13) (i:A1 (λk=>¬S k) w0 x a) (j:A1 (λk=>¬S k) w0 tl c)
  (m:rest.length=tl.length+1) (n:x.size+tl.size=rest.size) (l:Ac S wr w')
  (d:∃e,Ot S w' gm gg gp bm e (loops+done.loops+x.loops) (code++BO loops code.length done++BO (loops+done.loops) (code++BO loops code.length done).length x)):
  V7 S w0 gm gg gp bm loops code b cs (k+1) w' (done.app x) tl (aD++a) c:=by
 refine⟨by rw[h.eq,e1,Ia],by rw[h.cs,f,AK],by rw[Ao,h.mS,g];omega,by have:=h.k;omega,Rc _ _ h.tidy (A1.tidy _ _ i),by rw[JD];have:=h.sz;omega,j,?_,h.kept.trans l⟩;obtain⟨e,d⟩:=d;refine⟨e,?_⟩;rw[Py,O9 done x loops code.length h.tidy,←EU,←AK];rw[Ao]at d;exact d
end
theorem cE {m:Nat}(y:jd m):Tt m:=by
 intro S w gm gg gp bm loops vl code b v h hS z hb i bH;obtain⟨cs,⟨hs,g,bI,rfl⟩,j⟩:=hb;have A:V7 S w gm gg gp bm loops code b cs 0 w .nil b [] cs:=⟨by simp[Az.app],by simp,by simp,by omega,trivial,by simp[Az.size],j,⟨vl,by simpa[BO,Az.loops]using h⟩,Ac.refl _ _⟩;have cy:b.length<=900000:=by
  have:∀b:Az,b.length<=b.size:=by
   intro b
   induction b with
   |nil=>simp[Az.length]
   |bG p r ih=>simp[Az.length,Az.size];omega
   |ite c t o e r _ _ ih=>simp[Az.length,Az.size];omega
   |rep n c b r _ ih=>simp[Az.length,Az.size];omega
  have:=this b;omega
 obtain⟨G,HU,H,I,J,K⟩:=zq6 y hS hs A i z;clear y h hS hs A j i z;go_enter func46,ntmps46;go_wp2_with fail
 go_loopg [8] b.length (λL s8 wr=>∃k done rest aD ba,k<=b.length/\b.length-k<=L/\s8= .int .i64 (k:Nat)/\V7 S w gm gg gp bm loops code b cs k wr done rest aD ba)
 case atStart=>exact⟨0,.nil,b,[],cs,AQ _,by omega,rfl,I.out⟩
 case round=>
  obtain⟨k,done,rest,aD,ba,cD,hg,rfl,l⟩:=hrel;by_cases M:k<b.length
  ·obtain⟨x,tl,N,cL,e1,e2,e3,e4,e5,e6,e7,e8,a,cW⟩:=l.next H.out M;have q:N.length=13:=by obtain⟨_,_,_,_,_,_,_,_,_,_,_,_,_,_,_,_,_,rfl⟩:=id e4;rfl
   have d:=Aa (And.intro e1 (And.intro e2 (And.intro e3 (And.intro q (And.intro e5 (And.intro e6 (And.intro e7 e8)))))));obtain⟨k_,n_,m_,t_,O,P,Q,R,T,U,o_,V,W,X,Y,Z,be,rfl⟩:=e4;have x0:=a 0 (by omega);have x1:=a 1 (by omega);have x2:=a 2 (by omega);have x3:=a 3 (by omega);have x4:=a 4 (by omega);have x5:=a 5 (by omega);have x6:=a 6 (by omega);have x7:=a 7 (by omega);have x8:=a 8 (by omega);have x9:=a 9 (by omega);have bf:=a 10 (by omega);have bg:=a 11 (by omega);have bh:=a 12 (by omega);have s:=Aa l;clear l a e1 e2 e3 e5 e6 e7 e8 q;unfold vs at*;simp only[BL,AI,Mi]at x0 x1 x2 x3 x4 x5 x6 x7 x8 x9 bf bg bh;go_wp2_with fail;obtain⟨bi,B⟩:=s.out.mr;have ka:Ac S wr (wr.alloc (.cells #[.string ⟨k_.toArray⟩,.int .i64 n_,.int .i64 m_,.bool t_,.string ⟨O.toArray⟩,.int .i64 P,.string ⟨Q.toArray⟩,.int .i64 R,.string ⟨T.toArray⟩,.int .i64 U,.bool o_,.slice V W X,.slice Y Z be] 203)):=(Ac.refl S wr).alloc (HU.out.kept s.out.kept _ (Ab _)) _;have C:=s.out.kept.trans ka;have i:=Hj done loops code.length;refine(G.out S _ gm gg gp bm (loops+done.loops) bi (code++BO loops code.length done) x _ (B.alloc _) ((HU.out.kept s.out.kept).alloc _) d.out.2.1 (by have:=s.out.sz;have:=d.out.2.2.2.2.2.2.2;have:=K.out;omega)
    (A1.kept (λk cs hk _=>C.block k hk) _ _ d.out.2.2.2.2.1) (by rw[Ao];have:=s.out.sz;have:=d.out.2.2.2.2.2.2.2;have:=J.out;omega) (by have:=s.out.sz;have:=d.out.2.2.2.2.2.2.2;have:=Jl done;omega)).mono ?_
   rintro e w2 ⟨rfl,D,E⟩;have F:=Aa (s.out.step d.out.1 d.out.2.2.1 d.out.2.2.2.1 d.out.2.2.2.2.1 d.out.2.2.2.2.2.1 d.out.2.2.2.2.2.2.1 d.out.2.2.2.2.2.2.2 (ka.trans D) E);clear B ka C i D E;go_wp2;go_roundg (b.length-(k+1))
   case measure=>omega
   case rel=>exact⟨k+1,_,_,_,_,by omega,by omega,by go_num,F.out⟩
  ·have u:rest= .nil:=by
    have:=l.k;cases rest with
    |nil=>rfl
    |bG p r=>simp[Az.length]at this;omega
    |ite c t o e r=>simp[Az.length]at this;omega
    |rep n c b r=>simp[Az.length]at this;omega
   have f:b=done:=by rw[l.eq,u];exact NW done
   have F:=Aa (And.intro l.kept (And.intro l.mr f));clear l u f;go_wp2;refine Dj (Ct rfl _ _ _) rfl ?_;obtain⟨a1,a2,a3⟩:=F.out;rw[a3];exact⟨rfl,a1,a2⟩
theorem UX {α:Type}(A B:List α) (i j:α) {n:Nat}(h:n=A.length):(A++i::B).set n j=A++j::B:=by subst h;rw[M4 _ _ (Ab _),Pe,PP]
theorem YU {α:Type}(A B:List α) (i:α) {n:Nat}(h:n=A.length):(A++i::B)[n]?=some i:=by subst h;rw[BE (Ab _),Pe,AI]
section
variable {S:Nat->Prop}{w w0:World}{gm gg gp bm loops K:Nat}{vl:Value}{code:List Gk}{t:TypeId}{cs:List Value}
theorem DM.cond (h:DM S w0 w gm gg gp bm loops code K t cs) (b:code.length<=900000) (c:C3):
  Calls prog 110 #[.pointer (some ⟨gm,0,none⟩),.agg (Bt c).toArray] w λe w'=>
   e= .returned (.tuple #[])/\DM S w0 w' gm gg gp bm loops (code++Ar c) K t cs:=by
 obtain⟨vl,d⟩:=h.mr;refine(wk d h.up b c).mono ?_;rintro e w' ⟨f,g,a⟩;exact⟨f,h.call g a⟩
theorem DM.block {m:Nat}(i:Tt m) (h:DM S w0 w gm gg gp bm loops code K t cs) {b:Az}{v:Value}(c:b.size<=m) (j:DD (λk=>¬S k) w0 v b) (d:code.length+8*b.size<=900000) (f:loops+b.size<=1000000):
  Calls prog 46 #[.pointer (some ⟨gm,0,none⟩),v] w λe w'=>
   e= .returned (.tuple #[])/\DM S w0 w' gm gg gp bm (loops+b.loops) (code++BO loops code.length b) K t cs:=by
 obtain⟨vl,l⟩:=h.mr;refine(i (zp S K) w gm gg gp bm loops vl code b v l h.up c ((j.kept (λk cs a _=>h.kept.block k a)).mono (λk _ a n=>a n.1)) d f).mono ?_;rintro e w' ⟨o,a,g⟩;exact⟨o,h.call a g⟩
theorem DM.form (h:DM S w0 w gm gg gp bm loops code K t cs) (g:0<code.length):∃c a,w.cell? ⟨gm,1,none⟩=some (.slice (some ⟨c,0,none⟩) code.length a)/\
  (∀(k:Nat) (b:Gk),code[k]?=some b->∀j,j<3->w.cell? ⟨c,k*3+j,none⟩=(Cy b)[j]?/\w.frozen? ⟨c,k*3+j,none⟩=false)/\
  (∀(k:Nat) (b i:Gk) (j:Nat) (u:Value),code[k]?=some b->j<3->Cy i=(Cy b).set j u->DM S w0 (w.setCell ⟨c,k*3+j,none⟩ u) gm gg gp bm loops (code.set k i) K t cs):=by
 obtain⟨vl,d⟩:=h.mr;obtain⟨c,a,rfl,_⟩:=d.l.form g;refine⟨c,a,d.row.cell 1,λk b e j f=>⟨d.l.at_ (λ_=>rfl) e f,d.l.mG rfl _⟩,λk b i j u e f m=>?_⟩;obtain⟨n,o⟩:=d.dv rfl e f m;exact h.call n ⟨_,o⟩
theorem DM.drew (h:DM S w0 w gm gg gp bm loops code K t cs):DM S w0 w.drew gm gg gp bm loops code K t cs:=by obtain⟨vl,a⟩:=h.mr;have k:Ac (zp S K) w w.drew:=(Ac.refl _ w).drew;exact h.call k ⟨vl,a.row.drew,a.prog.drew,a.l.of_heap rfl,a.sm,a.sg⟩
theorem DM.mM (h:DM S w0 w gm gg gp bm loops code K t cs) (f:code.length<=1000000) (i:Gk) {d a b:Int}(g:d=(i.op:Int)) (j:a=i.a) (l:b=i.b):
  Calls prog 47 #[.pointer (some ⟨gm,0,none⟩),.agg #[.int .u8 d,.int .i64 a,.int .i64 b]] w λe w'=>∃(k:Nat) (c:List Gk),e= .returned (.int .i64 k)/\k=code.length/\c=code++[i]/\DM S w0 w' gm gg gp bm loops c K t cs:=by
 refine(h.put f i g j l).mono ?_;rintro e w' ⟨m,n⟩;exact⟨_,_,m,rfl,rfl,n⟩
theorem py (c:C3) (t e:Az) (loops:Nat) (code g h d f:List Gk) (a b:Nat) (i:g=code++Ar c++[.skip 0]) (n:a=(code++Ar c).length) (j:h=g++BO loops g.length t)
  (o:b=h.length) (p:d=(h++[Gk.jump 0]).set a (.skip (h++[Gk.jump 0]).length)) (k:f=d++BO (loops+t.loops) d.length e):
  f.set b (.jump f.length)=code++BO loops code.length (.ite c t true e .nil):=by
 have l1:g.length=code.length+(Ar c).length+1:=by rw[i];simp;omega
 have l:d=code++Ar c++ .skip (code.length+(Ar c).length+1+(BO loops (code.length+(Ar c).length+1) t).length+1)::(BO loops (code.length+(Ar c).length+1) t++[.jump 0]):=by
  rw[p,j,l1,i];have:(code++Ar c++[.skip 0]++BO loops (code.length+(Ar c).length+1) t++[.jump 0])=(code++Ar c)++ .skip 0::(BO loops (code.length+(Ar c).length+1) t++[.jump 0]):=by simp
  rw[this,UX _ _ _ _ n];congr 3;simp;omega
 have m:d.length=code.length+(Ar c).length+1+(BO loops (code.length+(Ar c).length+1) t).length+1:=by rw[l];simp;omega
 have q:f=(code++Ar c++ .skip (code.length+(Ar c).length+1+(BO loops (code.length+(Ar c).length+1) t).length+1)::BO loops (code.length+(Ar c).length+1) t)++ .jump 0::BO (loops+t.loops) (code.length+(Ar c).length+1+(BO loops (code.length+(Ar c).length+1) t).length+1) e:=by rw[k,m,l];simp
 have r:f.length=code.length+(Ar c).length+1+(BO loops (code.length+(Ar c).length+1) t).length+1+(BO (loops+t.loops) (code.length+(Ar c).length+1+(BO loops (code.length+(Ar c).length+1) t).length+1) e).length:=by rw[k,Ao,m]
 rw[r,q,UX _ _ _ _ (by rw[o,j,l1,Ao,l1];simp;omega)];simp[BO]
theorem kS (c:C3) (t:Az) (loops:Nat) (code d b:List Gk) (a:Nat) (e:d=code++Ar c++[.skip 0]) (g:a=(code++Ar c).length) (f:b=d++BO loops d.length t):
  b.set a (.skip b.length)=code++BO loops code.length (.ite c t false .nil .nil):=by
 have l1:d.length=code.length+(Ar c).length+1:=by rw[e];simp;omega
 have h:b=code++Ar c++ .skip 0::BO loops (code.length+(Ar c).length+1) t:=by rw[f,l1,e];simp
 have l2:b.length=code.length+(Ar c).length+1+(BO loops (code.length+(Ar c).length+1) t).length:=by rw[f,Ao,l1]
 rw[l2,h,UX _ _ _ _ g];simp[BO]
theorem oJ (n:Int) (c:C3) (x:Az) (loops:Nat) (code f g e h d:List Gk) (a b:Nat) (i:f=code++[.count loops n]) (o:a=f.length) (j:g=f++[.again loops 0]) (p:b=(g++Ar c).length) (k:e=g++Ar c++[.skip 0])
  (q:h=e++BO (loops+1) e.length x) (r:d=h++[.jump a]):
  (d.set a (.again loops d.length)).set b (.skip (d.set a (.again loops d.length)).length)=code++BO loops code.length (.rep n c x .nil):=by
 have l:a=code.length+1:=by rw[o,i];simp
 have s:e.length=code.length+2+(Ar c).length+1:=by rw[k,j,i];simp;omega
 have m:d=(code++[.count loops n])++ .again loops 0::(Ar c++ .skip 0::(BO (loops+1) (code.length+2+(Ar c).length+1) x++[.jump (code.length+1)])):=by rw[r,q,s,k,j,i,l];simp
 have u:d.length=code.length+2+(Ar c).length+1+(BO (loops+1) (code.length+2+(Ar c).length+1) x).length+1:=by rw[m];simp;omega
 rw[A9,u,m,UX _ _ _ _ (by rw[l];simp)];have:code++[Gk.count loops n]++ .again loops (code.length+2+(Ar c).length+1+(BO (loops+1) (code.length+2+(Ar c).length+1) x).length+1)::(Ar c++ .skip 0::(BO (loops+1) (code.length+2+(Ar c).length+1) x++[.jump (code.length+1)]))=
   (code++[Gk.count loops n]++ .again loops (code.length+2+(Ar c).length+1+(BO (loops+1) (code.length+2+(Ar c).length+1) x).length+1)::Ar c)++ .skip 0::(BO (loops+1) (code.length+2+(Ar c).length+1) x++[.jump (code.length+1)]):=by simp
 rw[this,UX _ _ _ _ (by rw[p,j,i];simp)];simp[BO]
theorem Ac7 {m:Nat}(hB:Tt m) (h:Ot S w gm gg gp bm vl loops code) (hS:Up S w) {c:C3}{t e:Az}{o:Bool}{vt ve:Value}(bD:t.size<=m) (bE:e.size<=m) (ht:DD (λk=>¬S k) w vt t)
  (q:if o then DD (λk=>¬S k) w ve e else ve=A4/\e= .nil) (dB:code.length+8*(1+t.size+e.size)<=900000) (eg:loops+(1+t.size+e.size)<=1000000):
  Calls prog 81 #[.pointer (some ⟨gm,0,none⟩),.agg (LT c vt ve).toArray] w λe' w'=>Qz S w gm gg gp bm (loops+(t.loops+e.loops)) (code++BO loops code.length (.ite c t o e .nil)) e' w':=by
 have eF:∀w,(binOp .neq 105 (.slice none 0 0) (.slice none 0 0)).run prog w= .ok (.bool false) w:=λ_=>rfl;have eG:∀(a:Addr) (n c:Nat) w,(binOp .neq 105 (.slice (some a) n c) (.slice none 0 0)).run prog w= .ok (.bool true) w:=λ_ _ _ _=>rfl;have h0:=DM.start h hS 203 (LT c vt ve);have A:=h0.cond (by omega) c;have eR:=Lj c;have V:=Hj t loops;have W:=Hj e (loops+t.loops);obtain⟨eS,⟨_,gt,H,rfl⟩,_⟩:=id ht;have u:∃a2 n2 c2,ve= .slice a2 n2 c2:=by
  cases o with
  |true=>
   rw[Al rfl]at q;obtain⟨ce,⟨_,ge,X,u⟩,_⟩:=q;exact⟨_,_,_,u⟩
  |false=>
   rw[Ai AY]at q;exact q.1▸Xj
 obtain⟨a2,n2,c2,rfl⟩:=u;obtain⟨bG,Y,bH,eU,HB⟩:=zq5 ht q V W hB;obtain⟨b0,n1,b2,n3,Z⟩:=Fl c.k;have p:Bt c=[vs (Cj c.k),.int .i64 (Bs c.k),vs b0,.int .i64 n1,vs b2,.int .i64 n3,.bool (Dn c.bI)]:=by unfold Bt;rw[Z];rfl
 have aD:LT c (.slice (some ⟨gt,0,none⟩) t.length H) (.slice a2 n2 c2)=[vs Ja,.int .i64 0,.int .i64 0,.bool false,vs (Cj c.k),.int .i64 (Bs c.k),vs b0,.int .i64 n1,vs b2,.int .i64 n3,.bool (Dn c.bI),.slice (some ⟨gt,0,none⟩) t.length H,.slice a2 n2 c2]:=by unfold LT;rw[p];rfl
 rw[p]at A;rw[aD]at h0 A ⊢;obtain⟨ba,H0⟩:=zq2 A h0;clear hB h0 A h hS ht q V W Z p aD;unfold vs at*;go_enter W3,Uc;go_wp2_with fail;refine ba.out.mono ?_;rintro e1 w1 ⟨rfl,h1⟩;have H1:=Aa h1;clear h1 ba;go_wp2_with fail;refine(H1.out.mM (by rw[Ao];omega) (.skip 0) rfl rfl rfl).mono ?_;rintro e1 w2 ⟨a,f,rfl,ha,P,h2⟩;obtain⟨_,_,_,_,_,_,_,_,_,_,_,cz,v⟩:=BN h2.row;have l1:f.length=code.length+(Ar c).length+1:=by rw[P];simp;omega
 have be:=h2.block HB.out bD bG.out (by omega) (by omega);obtain⟨HA,y,cD,L1⟩:=zq4 ha P be l1;clear h2 be ha P l1 v;go_wp2_with fail;refine cD.out.mono ?_;rintro e1 w3 ⟨rfl,h3⟩;obtain⟨g,z⟩:∃x,x=f++BO loops f.length t:=⟨_,rfl⟩;rw[←z]at h3;obtain⟨_,_,_,_,_,_,_,_,_,_,_,_,v⟩:=BN h3.row;have l2:g.length=f.length+(BO loops f.length t).length:=by rw[z,Ao]
 have bg:=bH.out f.length;have bh:g.length<=f.length+8*t.size:=by omega
 have eW:=L1.out;have l:g[a]?=some (.skip 0):=by rw[z,y.out];simp only[AK,Bx,CS];rw[←AK];exact YU _ _ _ HA.out
 obtain⟨B,H3,L2⟩:=zq3 z h3 l2;clear h3 z l2 bg cz;cases o with
 |false=>
  have q:=Y.out;rw[Ai AY]at q;obtain⟨Z,rfl⟩:=q;unfold A4 at Z;injection Z with Q R T;subst Q R T;have cL:a<g.length:=(Aj.1 l).1;obtain⟨gl,cW,r1,I,J⟩:=H3.out.form (by omega);obtain⟨U,fA⟩:=I a _ l 1 (by omega);obtain⟨F,eY⟩:=zq2 (J a (.skip 0) (.skip g.length) 1 (.int .i64 g.length) l (by omega) rfl) l;clear I J l;simp[Cy]at U;go_wp2_with fail;go_region
  all_goals go_wp2
  all_goals
   refine Dj (Ct rfl _ _ _) rfl ?_;rw[←kS c t loops code f g a y.out HA.out B.out];exact F.out.drew.out
 |true=>
  have q:=Y.out;rw[Al rfl]at q;obtain⟨ce,⟨_,ge,X,u⟩,_⟩:=id q;injection u with Q R T;subst Q R T;have bi:=Aa q;clear q;go_wp2_with fail;refine(H3.out.mM (by omega) (.jump 0) rfl rfl rfl).mono ?_;rintro e1 w4 ⟨b,d,rfl,hb,r,h4⟩;have s:d[a]?=some (.skip 0):=by rw[r,AV (Aj.1 l).1];exact l
  have cL:a<d.length:=(Aj.1 s).1;obtain⟨gl,cW,r1,I,J⟩:=h4.form (by omega);obtain⟨U,fA⟩:=I a _ s 1 (by omega);have F4:=Aa (J a (.skip 0) (.skip d.length) 1 (.int .i64 d.length) s (by omega) rfl);have L:d.length=g.length+1:=by rw[r];simp
  obtain⟨C,M,N,bj⟩:=zq4 hb r L bh;clear I J l s hb r h4 L bh v;simp[Cy]at U;go_wp2_with fail;go_region
  all_goals
   have h5:=F4.out.drew;obtain⟨j,D⟩:∃x,x=d.set a (.skip d.length):=⟨_,rfl⟩;rw[←D]at h5;have bn:j.length=d.length:=by rw[D,A9]
   obtain⟨_,_,_,_,_,_,_,_,_,_,_,_,v⟩:=BN h5.row;have bo:=h5.block HB.out bE bi.out (by have:=N.out;have:=bj.out;have:=L1.out;omega) (by have:=Jl t;omega);obtain⟨bp,bq,fa⟩:=zq3 bo D bn;clear h5 bo D bn r1 U fA;go_wp2_with fail;refine bp.out.mono ?_;rintro e1 w6 ⟨rfl,h6⟩;obtain⟨i,E⟩:∃x,x=j++BO (loops+t.loops) j.length e:=⟨_,rfl⟩;rw[←E]at h6;have G:i[b]?=some (.jump 0):=by rw[E,bq.out,M.out,AV (by rw[A9,C.out];simp),BT (by rw[C.out];have:=N.out;have:=HA.out;have:=y.out;have:=B.out;rw[B.out,y.out,HA.out];simp)];exact YU _ _ _ C.out
   have fb:b<i.length:=(Aj.1 G).1;obtain⟨fc,dA,r1,I,J⟩:=h6.form (by omega);obtain⟨U,fA⟩:=I b _ G 1 (by omega);obtain⟨F6,cZ⟩:=zq2 (J b (.jump 0) (.jump i.length) 1 (.int .i64 i.length) G (by omega) rfl) E;clear I J G h6 E v;simp[Cy]at U;go_wp2_with fail;go_region
   all_goals
    go_wp2;refine Dj (Ct rfl _ _ _) rfl ?_;rw[←py c t e loops code f g j i a b y.out HA.out B.out C.out (by rw[bq.out,M.out]) cZ.out];have O:=F6.out.drew.out;rw[EU]at O;exact O
end
section
variable {S:Nat->Prop}{w w0:World}{gm gg gp bm loops K:Nat}{vl:Value}{code:List Gk}{t:TypeId}{cs:List Value}
theorem DM.cells (h:DM S w0 w gm gg gp bm loops code K t cs):w.cell? ⟨gm,0,none⟩=some (.pointer (some ⟨gg,0,none⟩))/\w.cell? ⟨gg,2,none⟩=some (.int .i64 loops)/\w.frozen? ⟨gg,2,none⟩=false:=by obtain⟨vl,a⟩:=h.mr;exact⟨a.row.cell 0,a.prog.cell 2,a.prog.frozen 2⟩
theorem DM.loop (h:DM S w0 w gm gg gp bm loops code K t cs):DM S w0 (w.setCell ⟨gg,2,none⟩ (.int .i64 ((loops:Int)+1))) gm gg gp bm (loops+1) code K t cs:=by obtain⟨vl,a⟩:=h.mr;have c:Ac (λb=>b=gg) w (w.setCell ⟨gg,2,none⟩ (.int .i64 ((loops:Int)+1))):=Ac.one w ⟨gg,2,none⟩ _;exact h.call (c.mono (λb d=>d▸a.sg)) ⟨vl,a.row.kept c (a.row.bt a.prog (by decide)),a.prog.bF 2 _,a.l.kept c (λb d e=>a.l.bD a.prog (by decide) (e▸d)),a.sm,a.sg⟩
theorem zH {m:Nat}(hB:Tt m) (h:Ot S w gm gg gp bm vl loops code) (hS:Up S w) {n:Int}{c:C3}{x:Az}{Q:Value}(R:x.size<=m) (T:DD (λk=>¬S k) w Q x) (bH:code.length+8*(1+x.size)<=900000) (cy:loops+(1+x.size)<=1000000):
  Calls prog 81 #[.pointer (some ⟨gm,0,none⟩),.agg (IL n c Q).toArray] w λe' w'=>Qz S w gm gg gp bm (loops+(1+x.loops)) (code++BO loops code.length (.rep n c x .nil)) e' w':=by
 have O:=DM.start h hS 203 (IL n c Q);have cz:=Lj c;have p:=Hj x (loops+1);obtain⟨cD,⟨_,gt,v,rfl⟩,_⟩:=id T;obtain⟨U,V,HB⟩:=zq3 T p hB;obtain⟨b0,n1,b2,n3,hv⟩:=Fl c.k;have i:Bt c=[vs (Cj c.k),.int .i64 (Bs c.k),vs b0,.int .i64 n1,vs b2,.int .i64 n3,.bool (Dn c.bI)]:=by unfold Bt;rw[hv];rfl
 have I:IL n c (.slice (some ⟨gt,0,none⟩) x.length v)=[vs Bf,.int .i64 n,.int .i64 0,.bool false,vs (Cj c.k),.int .i64 (Bs c.k),vs b0,.int .i64 n1,vs b2,.int .i64 n3,.bool (Dn c.bI),.slice (some ⟨gt,0,none⟩) x.length v,.slice none 0 0]:=by unfold IL;rw[i];rfl
 rw[I]at O ⊢;have cW:wrap64 ((loops:Int)+1)=(loops:Int)+1:=by unfold wrap64;omega
 obtain⟨g0,g2,gf⟩:=O.cells;obtain⟨H0,W⟩:=zq2 O i;clear hB O h hS T p hv i I;unfold vs at*;go_enter W3,Uc;go_wp2_with fail;have P:=H0.out.loop;refine(P.mM (by omega) (.count loops n) rfl rfl rfl).mono ?_;rintro e1 w1 ⟨_,j,rfl,_,A,P⟩;have l1:j.length=code.length+1:=by rw[A];simp
 obtain⟨H1,X⟩:=zq2 P A;clear P A g0 g2 gf;go_wp2_with fail;refine(H1.out.mM (by omega) (.again loops 0) rfl rfl rfl).mono ?_;rintro e1 w2 ⟨a,l,rfl,ha,B,Y⟩;have l2:l.length=j.length+1:=by rw[B];simp
 obtain⟨_,_,_,_,x4,x5,x6,x7,x8,x9,Z,_,_⟩:=BN Y.row;have C:=Y.cond (by omega) c;rw[W.out]at C;obtain⟨D,HA,ba⟩:=zq3 B ha C;clear Y B ha C;unfold vs at*;go_wp2_with fail;refine ba.out.mono ?_;rintro e1 w3 ⟨rfl,h3⟩;have H3:=Aa h3;clear h3 x4 x5 x6 x7 x8 x9 Z;go_wp2_with fail;refine(H3.out.mM (by rw[Ao];omega) (.skip 0) rfl rfl rfl).mono ?_;rintro e1 w4 ⟨b,e,rfl,hb,E,h4⟩;obtain⟨_,_,_,_,_,_,_,_,_,_,_,bf,_⟩:=BN h4.row;have l3:e.length=l.length+(Ar c).length+1:=by rw[E];simp;omega
 have J:=h4.block HB.out R U.out (by omega) (by omega);obtain⟨F,G,bg⟩:=zq3 E hb J;clear h4 E hb J;go_wp2_with fail;refine bg.out.mono ?_;rintro e1 w5 ⟨rfl,h5⟩;obtain⟨g,q⟩:∃y,y=e++BO (loops+1) e.length x:=⟨_,rfl⟩;rw[←q]at h5;have p:=V.out e.length;have l4:g.length=e.length+(BO (loops+1) e.length x).length:=by rw[q,Ao]
 have dt:g.length<=e.length+8*x.size:=by omega
 obtain⟨H5,H⟩:=zq2 h5 q;clear h5 q p bf l4;go_wp2_with fail;refine(H5.out.mM (by omega) (.jump a) rfl rfl rfl).mono ?_;rintro e1 w6 ⟨_,d,rfl,_,r,h6⟩;have l5:d.length=g.length+1:=by rw[r];simp
 have s:d[a]?=some (.again loops 0):=by rw[r,H.out,F.out,D.out];simp only[AK,Bx,CS];exact YU _ _ _ HA.out
 have dy:a<d.length:=(Aj.1 s).1;obtain⟨gl,dz,r1,L,M⟩:=h6.form (by omega);obtain⟨cA,fA⟩:=L a _ s 2 (by omega);obtain⟨F6,N,L5⟩:=zq3 (M a (.again loops 0) (.again loops d.length) 2 (.int .i64 d.length) s (by omega) rfl) r l5;clear L M s r h6 l5;simp[Cy]at cA;go_wp2_with fail;go_region
 all_goals
  have h7:=F6.out.drew;obtain⟨f,o⟩:∃y,y=d.set a (.again loops d.length):=⟨_,rfl⟩;rw[←o]at h7;have bn:f.length=d.length:=by rw[o,A9]
  have u:f[b]?=some (.skip 0):=by rw[o,BT (by rw[G.out,HA.out,D.out];simp),N.out,H.out,F.out];simp only[AK,Bx,CS];rw[←AK];exact YU _ _ _ G.out
  have eF:b<f.length:=(Aj.1 u).1;obtain⟨eG,bG,r1,L,M⟩:=h7.form (by have:=L5.out;omega);obtain⟨cA,fA⟩:=L b _ u 1 (by omega);obtain⟨F7,bo⟩:=zq2 (M b (.skip 0) (.skip f.length) 1 (.int .i64 f.length) u (by omega) rfl) o;clear L M u h7 o bn;simp[Cy]at cA;go_wp2_with fail;go_region
  all_goals
   go_wp2;refine Dj (Ct rfl _ _ _) rfl ?_;rw[←oJ n c x loops code j l e g d a b X.out HA.out D.out G.out F.out H.out N.out,←bo.out];have z:=F7.out.drew.out;rw[EU]at z;exact z
theorem Rv:∀(b:Az),b.length=0->b= .nil
 | .nil,_=>rfl
 | .bG p r,h=>by simp[Az.length]at h
 | .ite c t o e r,h=>by simp[Az.length]at h
 | .rep n c b r,h=>by simp[Az.length]at h
theorem uh {m:Nat}(v:Tt m):jd (m+1):=by
 intro S w gm gg gp bm loops vl code x cs h s q g f i j;cases x with
 |nil=>cases q
 |bG p r=>
  have k:=Rv r (by simpa[Az.length]using q);subst k;obtain⟨rest,rfl,rfl⟩:=f;simp only[Az.loops,Az.size,Mi,AM,BO]at*;exact uB h s (by omega) p
 |ite c t o e r=>
  have k:=Rv r (by simpa[Az.length]using q);subst k;obtain⟨y,ve,rest,rfl,u,z,rfl⟩:=f;have l:1+t.size+e.size<=m+1:=by simpa[Az.size]using g
  have a:code.length+8*(1+t.size+e.size)<=900000:=by simpa[Az.size]using i
  have d:loops+(1+t.size+e.size)<=1000000:=by simpa[Az.size]using j
  rw[AM];show Calls _ _ _ _ λe' w'=>Qz S w gm gg gp bm (loops+(t.loops+e.loops+0)) _ e' w';exact Ac7 v h s (by omega) (by omega) u z a d
 |rep n c b r=>
  have k:=Rv r (by simpa[Az.length]using q);subst k;obtain⟨y,rest,rfl,u,rfl⟩:=f;have l:1+b.size<=m+1:=by simpa[Az.size]using g
  have a:code.length+8*(1+b.size)<=900000:=by simpa[Az.size]using i
  have d:loops+(1+b.size)<=1000000:=by simpa[Az.size]using j
  rw[AM];show Calls _ _ _ _ λe' w'=>Qz S w gm gg gp bm (loops+(1+b.loops+0)) _ e' w';exact zH v h s (by omega) u a d
theorem XH:∀m,jd m/\Tt m
 |0=>by
  have h:jd 0:=by
   intro S w gm gg gp bm loops vl code x cs h f d a;cases x with
   |nil=>cases d
   |bG p r=>simp[Az.size]at a
   |ite c t o e r=>simp[Az.size]at a
   |rep n c b r=>simp[Az.size]at a
  exact⟨h,cE h⟩
 |m+1=>by have h:=uh (XH m).2;exact⟨h,cE h⟩
theorem Y1 (h:Ot S w gm gg gp bm vl loops code) (d:Up S w) {b:Az}{v:Value}(f:DD (λk=>¬S k) w v b) (a:code.length+8*b.size<=900000) (c:loops+b.size<=1000000):
  Calls prog 46 #[.pointer (some ⟨gm,0,none⟩),v] w λe w'=>Qz S w gm gg gp bm (loops+b.loops) (code++BO loops code.length b) e w':=
 (XH b.size).2 S w gm gg gp bm loops vl code b v h d (Ab _) f a c
end
end Go.Proofs.YtepoejiigmhlbaaGreatDoor.Ev
namespace Go.Proofs.YtepoejiigmhlbaaGreatDoor.Ev
open _root_.Go.Proofs.Tryz
open Go Go.RowKit
open Go.ChangeMaps (setBlock)
def JF (w:World) (r b:Nat) (k:IntKind) (M:GZ) (sk:List Int):Prop:=
 ∃(c:Array MapEntry) (a:Nat) (d:Array Nat),w.heap[b]?=some (.map c a)/\c.toList.map (λe=>(e.key,e.val))=M.map (λx=>(Value.int k x.1,x.2))/\(∀e∈c.toList,e.born<a)/\(c.toList.map (·.born)).Nodup/\
  (M.map (·.1)).Nodup/\w.heap[r]?=some (.mapIter (some b) a d a)/\∀(i:Nat) (e:MapEntry) (y:Int×Value),c.toList[i]?=some e->M[i]?=some y->(d.contains e.born=true↔y.1∈sk)
theorem aI {α:Type}{l:List α}(h:l.Nodup) {i j:Nat}{x:α}(a:l[i]?=some x) (c:l[j]?=some x):i=j:=by obtain⟨e,e1⟩:=Aj.1 a;obtain⟨f,d⟩:=Aj.1 c;exact(List.getElem_inj h).1 (e1.trans d.symm)
section
variable {P:Program}{w:World}{r b:Nat}{k:IntKind}{M:GZ}{sk:List Int}
theorem BQ.range (h:BQ w b k M) {T K E:TypeId}(n:P.underlying T=some (.map K E)):
  ∃a,(Instr.range T (.map (some b))).run P w= .ok (.pointer (some ⟨w.heap.size,0,none⟩)) (w.alloc (.mapIter (some b) a #[] a))/\JF (w.alloc (.mapIter (some b) a #[] a)) w.heap.size b k M []:=by
 obtain⟨d,a,f,g,j,l,m⟩:=h;have c:b<w.heap.size:=BQ.lt (k:=k) (M:=M) ⟨d,a,f,g,j,l,m⟩;refine⟨a,run_range_map w T K E b d a n f,d,a,#[],?_,g,j,l,m,PH w _,λi e y _ _=>by simp⟩
 (first|rw[heap_alloc_old w _ c]|rw[heap_alloc_old w _ _ c]);exact f
theorem JF.next (h:JF w r b k M sk) (ty:TypeId):
  ((∀y∈M,y.1∈sk)/\(Instr.next (.pointer (some ⟨r,0,none⟩)) false ty).run P w= .ok (.tuple #[.bool false]) w)\/
  ∃y∈M,y.1∉sk/\∃w',(Instr.next (.pointer (some ⟨r,0,none⟩)) false ty).run P w= .ok (.tuple #[.bool true,.int k y.1,y.2]) w'/\JF w' r b k M (y.1::sk)/\Ac (λi=>i=r) w w'/\
   (Instr.entry (.pointer (some ⟨r,0,none⟩))).run P w'= .ok (.tuple #[.int k y.1,y.2]) w':=by
 obtain⟨n,a,m,F,G,R,H,S,z,I⟩:=h;have t:∀(i:Nat) (e:MapEntry),n.toList[i]?=some e->∃y,M[i]?=some y/\e.key= .int k y.1/\e.val=y.2:=by
  intro i e o;have:=AG (λl=>l[i]?) G;simp only[At,o,B8]at this;cases D:M[i]? with
  |none=>rw[D]at this;cases this
  |some y=>
   rw[D]at this;simp only[B8,Cm,Sv]at this;exact⟨y,rfl,this.1,this.2⟩
 have q:∀(i:Nat) (y:Int×Value),M[i]?=some y->∃e,n.toList[i]?=some e:=by
  intro i y o;have:=AG (λl=>l[i]?) G;simp only[At,o,B8]at this;cases D:n.toList[i]? with
  |none=>rw[D]at this;cases this
  |some e=>exact⟨e,rfl⟩
 have J:r≠b:=by rintro rfl;rw[F]at z;cases z
 rcases run_next_at (P:=P) w ty r b a a m n a z F R (Ab _)with⟨V,p⟩|⟨e,u,w1,s,p⟩
 ·left;refine⟨λy v=>?_,p⟩;obtain⟨i,o⟩:=JQ v;obtain⟨e,u⟩:=q i y o;refine(I i e y u o).1 ?_;by_cases E:m.contains e.born=true
  ·exact E
  ·have A:e∈(leftOf n m).toList:=by unfold leftOf;have c:e∈n.toList:=Aw u;simp only[Array.toList_filter,D1];exact⟨c,by simpa using E⟩
   have:(leftOf n m).toList.length=0:=by simpa using V
   rw[In this]at A;cases A
 ·right;have c:e∈n.toList/\¬m.contains e.born=true:=by unfold leftOf at u;simp only[Array.toList_filter,D1]at u;exact⟨u.1,by simpa using u.2⟩
  obtain⟨i,o⟩:=JQ c.1;obtain⟨y,v,T,U⟩:=t i e o;have K:y.1∉sk:=λW=>c.2 ((I i e y o v).2 W);have d:w1.heap=w.heap:=by rcases s with rfl|rfl<;>rfl
  have L:r<w.heap.size:=by
   rcases Be r w.heap.size with N|O
   ·exact N
   ·rw[Ch O]at z;cases z
  have B:(setBlock w1 r (.mapIter (some b) a (m.push e.born) a)).heap[b]?=some (.map n a):=by show(w1.heap.setIfInBounds r _)[b]?=_;rw[d,jn J];exact F
  have C:(setBlock w1 r (.mapIter (some b) a (m.push e.born) a)).heap[r]?=some (.mapIter (some b) a (m.push e.born) a):=by show(w1.heap.setIfInBounds r _)[r]?=_;rw[d,Array.getElem?_setIfInBounds_self_of_lt L]
  refine⟨y,Aw v,K,_,by rw[p,T,U],⟨n,a,m.push e.born,B,G,R,H,S,C,λQ e' X f g=>?_⟩,?_,?_⟩
  ·have E:(m.push e.born).contains e'.born=true↔m.contains e'.born=true\/e'.born=e.born:=by simp
   rw[E,I Q e' X f g,A3,or_comm];refine or_congr ⟨λY=>?_,λZ=>?_⟩ Iff.rfl
   ·have:=aI H (i:=Q) (j:=i) (x:=e.born) (by simp[At,f,Y]) (by simp[At,o]);subst this;rw[v]at g;injection g with g;rw[g]
   ·have:=aI S (i:=Q) (j:=i) (x:=y.1) (by simp[At,g,Z]) (by simp[At,v]);subst this;rw[o]at f;injection f with f;rw[f]
  ·refine⟨by rcases s with rfl|rfl<;>rfl,by rcases s with rfl|rfl<;>rfl,by rcases s with rfl|rfl<;>rfl,?_,λj hj=>?_⟩
   ·show w.heap.size<=(w1.heap.setIfInBounds r _).size;rw[d];simp
   ·show(w1.heap.setIfInBounds r _)[j]?=_;rw[d,jn (λe=>hj e.symm)]
  ·rw[run_entry_at (P:=P) _ r b a m n a e C B c.1 H,T,U]
end
theorem JF.hU {w w':World}{r b:Nat}{k:IntKind}{M:GZ}{sk:List Int}(h:JF w r b k M sk) (a:w'.heap[r]?=w.heap[r]?) (d:w'.heap[b]?=w.heap[b]?):JF w' r b k M sk:=by obtain⟨e,c,f,g,i,j,l,m,n,o⟩:=h;exact⟨e,c,f,d.trans g,i,j,l,m,a.trans n,o⟩
theorem JF.bD {w:World}{r b g:Nat}{k:IntKind}{M:GZ}{sk:List Int}{t:TypeId}{cs:List Value}(h:JF w r b k M sk) (a:AE w g t cs):g≠r:=by rintro rfl;obtain⟨e,c,f,_,_,_,_,_,d,_⟩:=h;unfold AE at a;rw[a]at d;cases d
theorem YE {M:GZ}{x k:Int}{v u:Value}(h:FV M k=some u):FV (M++[(x,v)]) k=some u:=by unfold FV at*;rw[A7]at h;obtain⟨y,a,c⟩:=h;rw[Jc,a];exact AG some c
theorem YF {M:GZ}{x:Int}{v:Value}(h:FV M x=none):FV (M++[(x,v)]) x=some v:=by unfold FV at*;rw[Iw]at h;rw[Jc,h];simp
theorem Ww {M:GZ}{x k:Int}{v:Value}(h:FV M k=none) (a:k≠x):FV (M++[(x,v)]) k=none:=by unfold FV at*;rw[Iw]at h;rw[Jc,h];have:¬x=k:=λe=>a e.symm;simp[this]
theorem Vj {M:GZ}{x:Int}(v:Value) (h:FV M x=none):T1 M x v=M++[(x,v)]:=by unfold T1;rw[h];rfl
theorem ON:∀(a b:List Int),a.Nodup->(∀x∈a,x∈b)->a.length<=b.length
 | [],_,_,_=>AQ _
 |x::a,b,h,d=>by
  have f:=By.1 h;have g:x∈b:=d x (Lm ..);have j:=ON a (b.erase x) f.2 (λy i=>by
   have c:y≠x:=λe=>f.1 (e▸i);exact(List.mem_erase_of_ne c).2 (d y (GQ _ i)))
  rw[List.length_erase_of_mem g]at j;have:=List.length_pos_of_mem g;simp only[Af];omega
end Go.Proofs.YtepoejiigmhlbaaGreatDoor.Ev
namespace Go.Proofs.YtepoejiigmhlbaaGreatDoor.Ev
open _root_.Go.Proofs.Tryz
open Go Go.RowKit
structure OfL (w wr:World) (gp bm:Nat) (rules:List (Int×Az)) (Mp:GZ) (sk:List Int) (loops:Nat):Prop where
 qa:JF wr (w.heap.size+1+1) bm .i64 Mp sk
 nd:sk.Nodup
 sub:∀k∈sk,k∈Mp.map (·.1)
 row:AE wr (w.heap.size+1) 76 [.pointer (some ⟨gp,0,none⟩),.map (some w.heap.size),.int .i64 loops]
 map:∃M:GZ,BQ wr w.heap.size .i64 M/\(∀k,k∈sk->∃v,FV M k=some v/\V5 (λb=>w.heap.size<=b) wr rules loops k v)/\∀k,k∉sk->FV M k=none
 lo:loops<=700*sk.length
 kept:Ac (λb=>w.heap.size<=b) w wr
theorem V5.kept {S S1:Nat->Prop}{w w':World}{a:List (Int×Az)}{d loops':Nat}{k:Int}{v:Value}(h:V5 S w a d k v) (f:Ac S1 w w') (i:∀b cs,AE w b 131 cs->¬S1 b) (n:d<=loops'):V5 S w' a loops' k v:=by obtain⟨b,c,j,e,o⟩:=h;refine⟨b,c,j,e.kept f (λg l=>?_),by omega⟩;obtain⟨cs,m⟩:=e.row l;exact i g cs m
theorem Xu:∀(l:List (Int×Az)) (i:Nat) (x:Int×Az),(l.map (·.1)).Nodup->l[i]?=some x->Bj l x.1=some x.2
 | [],i,x,_,h=>by simp at h
 |y::l,0,x,_,h=>by
  simp only[AI,Cm]at h;subst h;simp[Bj]
 |y::l,i+1,x,a,h=>by simp only[BL]at h;rw[BR,By]at a;have b:y.1≠x.1:=λe=>a.1 (e▸AD.2 ⟨x,Aw h,rfl⟩);have c:=Xu l i x a.2 h;unfold Bj at*;rw[Ex (by simpa using b)];exact c
theorem PX:∀(l:List (Int×Az)) (x:Int×Az),x∈l->x.2.size<=KI l
 | [],x,h=>by cases h
 |y::l,x,h=>by
  have e:KI (y::l)=y.2.size+KI l:=by simp[KI]
  rcases A3.1 h with rfl|h
  ·omega
  ·have:=PX l x h;omega
section
variable {B:Nat}{w:World}{gp bm:Nat}{vd:Value}{p:Ax}
theorem zN (h:rI B w gp bm vd p) (hp:Ej p):Calls prog 22 #[.pointer (some ⟨gp,0,none⟩)] w λe w'=>
  ∃gg bc a,e= .returned (.pointer (some ⟨gg,0,none⟩))/\Ac (λb=>w.heap.size<=b) w w'/\TZ (λb=>w.heap.size<=b) w' gg gp bc a p.rules:=by
 have fj:=@mO prog;obtain⟨Mp,hM,Z,D⟩:=h.rules;have aD:=(hM.alloc (.map #[] 0)).alloc (.cells #[.pointer (some ⟨gp,0,none⟩),.map (some w.heap.size),.int .i64 0] 76);obtain⟨d,n,E⟩:=aD.range (P:=prog) Fb;have e1:(w.alloc (.map #[] 0)).heap.size=w.heap.size+1:=by simp
 have e2:((w.alloc (.map #[] 0)).alloc (.cells #[.pointer (some ⟨gp,0,none⟩),.map (some w.heap.size),.int .i64 0] 76)).heap.size=w.heap.size+1+1:=by simp
 rw[e2]at n E;have p2:=h.row.cell 2;have pl:=h.row.lt;simp at p2;obtain⟨HR,HM,F,cZ,HP⟩:=zq5 E hM Z D hp;clear h hM aD Z D hp E;go_enter func22,ntmps22;go_wp2_with fail
 go_loopg [] p.rules.length (λkk wr=>∃s a,p.rules.length-s.length<=kk/\OfL w wr gp bm p.rules Mp s a)
 case atStart=>
  have da:=(((Ac.refl (λb=>w.heap.size<=b) w).alloc (Ab _) (.map #[] 0)).alloc (by rw[e1];omega) (.cells #[.pointer (some ⟨gp,0,none⟩),.map (some w.heap.size),.int .i64 0] 76)).alloc (by rw[e2];omega) (.mapIter (some bm) d #[] d);have be:=(AE.new (w.alloc (.map #[] 0)) 76 [.pointer (some ⟨gp,0,none⟩),.map (some w.heap.size),.int .i64 0]).alloc (.mapIter (some bm) d #[] d);rw[e1]at be;exact⟨[],0,by simp,HR.out,Xa,(λk j=>absurd j mw),be,⟨[],((BQ.new w .i64).alloc _).alloc _,(λk j=>absurd j mw),λk _=>rfl⟩,AQ _,da⟩
 case round=>
  obtain⟨s,a,fP,C⟩:=hrel;have bf:s.length<=p.rules.length:=by have o:=ON s _ C.nd C.sub;rw[F.out]at o;simpa using o
  rcases C.qa.next (P:=prog) 0 with⟨N,n⟩|⟨y,hy,K,w',n,T,L,dc⟩
  ·have G:=Aa C;have bg:=Aa N;clear C N;go_wp2_with fail;go_ret;refine⟨_,_,a,rfl,G.out.kept,G.out.row,?_,by have:=G.out.lo;have:=HP.out.rl;omega,Ca _,Ab _⟩;obtain⟨M,m1,m2,m3⟩:=G.out.map;refine⟨M,m1,λk=>?_⟩;by_cases j:k∈s
   ·obtain⟨v,hv,hc⟩:=m2 k j;obtain⟨b,c,t,o,h2⟩:=id hc;rw[t];exact⟨v,hv,hc⟩
   ·cases m:Bj p.rules k with
    |none=>exact m3 k j
    |some b=>
     exfalso;apply j;have O:k∈p.rules.map (·.1):=by
      cases hn:(Bj p.rules k).isSome with
      |false=>rw[m]at hn;cases hn
      |true=>
       unfold Bj at m;rw[A7]at m;obtain⟨x,q,_⟩:=m;have o:=List.find?_some q;have h2:=yY q;exact AD.2 ⟨x,h2,by simpa using o⟩
     rw[←F.out]at O;obtain⟨z,hz,rfl⟩:=AD.1 O;exact bg.out z hz
  ·obtain⟨k,v⟩:=y;simp only at K n T dc;obtain⟨i,hi⟩:=JQ hy;obtain⟨yb,H⟩:∃yb,p.rules[i]?=some yb:=by
    have:=AG (λl=>l[i]?) F.out;simp only[At,hi,B8]at this;cases hm:p.rules[i]? with
    |none=>rw[hm]at this;cases this
    |some z=>exact⟨z,rfl⟩
   have bi:yb.1=k:=by have:=AG (λl=>l[i]?) F.out;simp only[At,hi,H,B8,Cm]at this;exact this.symm
   obtain⟨r,b⟩:=yb;simp only at bi;subst bi;have Q:DD (λk=>k<w.heap.size) w v b:=(cZ.out i (r,v) (r,b) hi H).mono (λk o _=>o);have bj:Bj p.rules r=some b:=Xu p.rules i (r,b) HP.out.rules.nodup H;have gY:b.size<=700:=Ad (PX p.rules (r,b) (Aw H)) HP.out.size;have U:r∈Mp.map (·.1):=AD.2 ⟨(r,v),hy,rfl⟩;have dh:(r::s).length<=p.rules.length:=by have o:=ON (r::s) (Mp.map (·.1)) (By.2 ⟨K,C.nd⟩) (λx q=>(A3.1 q).elim (λe=>e▸U) (C.sub x));rw[F.out]at o;simpa using o
   have I:Ac (λb=>w.heap.size<=b) w w':=C.kept.trans (L.mono (λb t=>by rw[t];omega));have f:AE w' (w.heap.size+1) 76 [.pointer (some ⟨gp,0,none⟩),.map (some w.heap.size),.int .i64 a]:=C.row.kept L (by omega);have eX:=f.lt;have R:Ot (λb=>b=w.heap.size+1\/w'.heap.size<=b) (w'.alloc (.cells #[.pointer (some ⟨w.heap.size+1,0,none⟩),.slice none 0 0] 126)) w'.heap.size (w.heap.size+1) gp w.heap.size (.slice none 0 0) a []:=
    ⟨AE.new w' _ _,f.alloc _,⟨Cl _ _ _ _,λb t=>by cases t⟩,.inr (Ab _),.inl rfl⟩
   have V:Up (λb=>b=w.heap.size+1\/w'.heap.size<=b) (w'.alloc (.cells #[.pointer (some ⟨w.heap.size+1,0,none⟩),.slice none 0 0] 126)):=λb t=>.inr (by simp at t;omega);have bn:=Y1 R V (b:=b) (v:=v) ((Q.kept (λk cs j m=>by
     have o:=I.block k (by omega);exact(FT w' _ k (An j I.size)).trans o)).mono (λk _ o=>by have:=I.size;rintro(rfl|h2)<;>omega)) (by simp;omega) (by have:=C.lo;have:=HP.out.rl;have:s.length<=700:=Ad bf HP.out.rl;omega)
   obtain⟨G,bo,bp,di,dj,eY,bq,dm⟩:=zq8 C T L bj I f K U;obtain⟨dr,dt⟩:=zq2 bn V;clear C T L Q bj I f K hi H hy U R V bn;go_wp2_with fail;refine dr.out.mono ?_;rintro e w2 ⟨rfl,W,gZ,br⟩;have bu:([]++BO a ([]:List Gk).length b).length<=1000000:=by have:=Hj b a 0;simp;omega
   have S:=eE br (dt.out.kept W) bu .fin rfl rfl rfl;obtain⟨bx,K2⟩:=zq2 S W;clear S W br bu;go_wp2_with fail;refine bx.out.mono ?_;rintro e w3 ⟨rfl,bz,X,u⟩;have ka:Ac (λb=>w'.heap.size<=b) w' (w'.alloc (.cells #[.pointer (some ⟨w.heap.size+1,0,none⟩),.slice none 0 0] 126)):=(Ac.refl _ w').alloc (Ab _) _;have k3:Ac (λb=>b=w.heap.size+1\/w'.heap.size<=b) w' w3:=(ka.mono (λb t=>.inr t)).trans (K2.out.trans bz);obtain⟨M,m1,m2,m3⟩:=G.out.map;have hI:w.heap.size+1+1<w'.heap.size:=by
    obtain⟨es,c,sb,_,_,_,_,_,h6,_⟩:=bo.out;rcases Be (w.heap.size+1+1) w'.heap.size with dy|dz
    ·exact dy
    ·rw[Ch dz]at h6;cases h6
   have Y:Ac (λb=>b=w.heap.size+1+1\/b=w.heap.size+1\/w'.heap.size<=b) wr w3:=(bp.out.mono (λb t=>.inl t)).trans (k3.mono (λb t=>.inr t));have D:BQ w3 w.heap.size .i64 M:=m1.kept Y (by omega);obtain⟨c1,g1,l3,l4⟩:=zp4 (u.row.cell 1) (u.prog.cell 1) u.row.lt u.prog.lt;simp at c1 g1;obtain⟨bC,bE,M2,M3,K3,dB,M1⟩:=zq7 D.drew u m2 m3 k3 Y m1;clear D u m1 m2 m3 k3 Y ka bz;go_wp2_with fail
   (refine Ds 9 (by kernel_rfl) (by kernel_rfl) ?_;simp only[Au,AH,Av,AJ];repeat still_step)
   refine BS ?_;go_wp2_with (at_mapUpdate;go_must (refine Ho gy C9 bC.out rfl _ _ _ rfl rfl r rfl X rfl ?_;intro w6 J bF;have eg:=Aa J;have A:=Aa bF;clear J bF));have bG:∀x cs,AE w3 x 131 cs->¬x=w.heap.size:=λx cs m e=>bC.out.bD m.drew e.symm;have bH:FV M r=none:=M3.out r bq.out;have J:=eg.out;rw[Vj X bH]at J;go_roundg (p.rules.length-(s.length+1))
   case measure=>have:(r::s).length=s.length+1:=rfl;omega
   case rel=>
    refine⟨r::s,a+b.loops,by simp,?_⟩;have fc:bm<w.heap.size:=HM.out.lt;refine⟨bo.out.hU ?_ ?_,By.2 ⟨bq.out,G.out.nd⟩,λx q=>(A3.1 q).elim (λe=>e▸dm.out) (G.out.sub x),bE.out.prog.drew.kept A.out (by omega),⟨_,J,?_,?_⟩,?_,?_⟩
    ·exact(A.out.block _ (by omega)).trans (K3.out.block _ (by omega))
    ·exact(A.out.block _ (by omega)).trans (K3.out.block _ (by omega))
    ·intro k j;rcases A3.1 j with rfl|j
     ·refine⟨X,YF bH,b,a,di.out,?_,Ab _⟩;have hs:=bE.out.l.mono (S':=λb=>w.heap.size<=b) (λx q=>by rcases q with rfl|q<;>omega);have eF:=(hs.of_heap (w':=w3.drew) rfl).kept A.out (λg hg=>by obtain⟨cs,m⟩:=hs.row hg;exact bG g cs m);exact eF
     ·obtain⟨v',eG,hc⟩:=M2.out k j;refine⟨v',YE eG,?_⟩;have eR:=hc.kept (loops':=a+b.loops) dB.out (λx cs m=>by
       have o:=G.out.qa.bD m;have h2:=m.bt G.out.row (by decide);obtain⟨h3,h4⟩:=zp2 m.lt bp.out.size;omega) (by omega)
      have eS:V5 (λb=>w.heap.size<=b) w3.drew p.rules (a+b.loops) k v':=eR.kept (S1:=λ_=>False) ((Ac.refl _ w3).drew) (λ_ _ _ x=>x) (Ab _);exact eS.kept A.out (λx cs m=>bG x cs m) (Ab _)
    ·intro k j;exact Ww (M3.out k (λh=>j (GQ _ h))) (λe=>j (e▸Lm ..))
    ·have:=G.out.lo;have:=Jl b;simp only[Af];omega
    ·exact((dj.out.trans (K3.out.mono (λx q=>by rcases q with rfl|q<;>omega))).drew).trans (A.out.mono (λx q=>by rw[q];exact Ab _))
end
theorem FP.eS {N N':Nat->Prop}{w:World}{bm:Nat}{rules:List (Int×Az)}(h:FP N w bm rules) (a:∀k,k<w.heap.size->N k->N' k):FP N' w bm rules:=by obtain⟨M,b,c,d⟩:=h;exact⟨M,b,c,λi x y f g=>(d i x y f g).mono a⟩
structure JG (S:Nat->Prop) (w:World) (gg:Nat) (p:Ax) (gp bm bc loops:Nat) (vd:Value):Prop where
 code:TZ S w gg gp bc loops p.rules
 ba:AE w gp 63 [vd,.int .i64 p.aD,.map (some bm)]
 decls:Sl S w 83 3 vd p.decls.length (p.decls.flatMap Dv)
 rules:FP S w bm p.rules
 sp:S gp
 sb:S bm
section
variable {S S' T:Nat->Prop}{w w':World}{gg gp bm bc loops:Nat}{vd:Value}{p:Ax}{rules:List (Int×Az)}
theorem TZ.hU (h:TZ S w gg gp bc loops rules) (d:Ac T w w') (f:∀b,S b->b<w.heap.size->¬T b):TZ S w' gg gp bc loops rules:=by
 obtain⟨M,j,n⟩:=h.map;refine⟨h.row.kept d (f _ h.sg h.row.lt),⟨M,j.kept d (f _ h.sm j.lt),λk=>?_⟩,h.lo,h.sg,h.sm⟩;have:=n k;cases l:Bj rules k with
 |none=>rw[l]at this;exact this
 |some b=>
  rw[l]at this;obtain⟨v,a,o,c,q,i,r⟩:=this;exact⟨v,a,o,c,q,i.kept d (λg m=>f g (i.2 g m) (i.lt m)),r⟩
theorem TZ.eS (h:TZ S w gg gp bc loops rules) (d:∀b,b<w.heap.size->S b->S' b):TZ S' w gg gp bc loops rules:=by
 obtain⟨M,i,m⟩:=h.map;refine⟨h.row,⟨M,i,λk=>?_⟩,h.lo,d _ h.row.lt h.sg,d _ i.lt h.sm⟩;have:=m k;cases j:Bj rules k with
 |none=>rw[j]at this;exact this
 |some b=>
  rw[j]at this;obtain⟨v,a,n,c,o,f,q⟩:=this;exact⟨v,a,n,c,o,⟨f.1,λg l=>d g (f.lt l) (f.2 g l)⟩,q⟩
theorem JG.kept (h:JG S w gg p gp bm bc loops vd) (a:Ac T w w') (c:∀b,S b->b<w.heap.size->¬T b):JG S w' gg p gp bm bc loops vd:=by
 obtain⟨M,f,_⟩:=h.rules;exact⟨h.code.hU a c,h.ba.kept a (c _ h.sp h.ba.lt),h.decls.kept a (λb d=>c b (h.decls.2 b d) (h.decls.lt d)),
  h.rules.kept (a.block bm (c _ h.sb f.lt)) (λk cs g i=>a.block k (c k g i.lt)),h.sp,h.sb⟩
theorem JG.mono (h:JG S w gg p gp bm bc loops vd) (a:∀b,b<w.heap.size->S b->S' b):JG S' w gg p gp bm bc loops vd:=by obtain⟨M,d,_⟩:=h.rules;exact⟨h.code.eS a,h.ba,⟨h.decls.1,λg c=>a g (h.decls.lt c) (h.decls.2 g c)⟩,FP.eS h.rules a,a _ h.ba.lt h.sp,a _ d.lt h.sb⟩
theorem JG.ro (h:JG S w gg p gp bm bc loops vd):tD w.heap.size w gg gp vd (.map (some bm)) (.map (some bc)) loops p:=
 ⟨h.code.row,h.ba,⟨h.decls.1,λ_ a=>h.decls.lt a⟩,h.code.row.lt,h.ba.lt⟩
end
structure Abb (S:Nat->Prop) (w:World) (ge:Nat) (e:EX) (gg gs ga gp bm bc loops:Nat) (vd mQ:Value) (SA:Nat->Prop) (A:Am) (ns:List (List Nat)):Prop where
 row:AE w ge 73 [.pointer (some ⟨gg,0,none⟩),.pointer (some ⟨gs,0,none⟩),.int .i64 e.n.ft,.int .i64 e.n.dA,.int .i64 e.n.cD]
 prog:JG (λb=>S b/\¬SA b) w gg e.p gp bm bc loops vd
 bg:AE w gs 71 [.pointer (some ⟨ga,0,none⟩),mQ]
 vars:Sl (λb=>S b/\¬SA b) w 3 1 mQ e.s.vars.length (e.s.vars.map Jv)
 ar:∃vl vf vq bm,BJ SA w ga A vl vf vq bm
 inv:CD A ns e.s.q
 si:GY e.p e.s
 pw:Ej e.p
 mJ:∀(j:Nat) x,Np e.s j x->(Aq e.p.decls (j:Int)).kind≠2
 sa:∀b,SA b->S b
 se:S ge/\¬SA ge
 ss:S gs/\¬SA gs
def GR (S:Nat->Prop) (w:World) (ge:Nat) (e:EX):Prop:=
 ∃gg gs b gp bm bc loops vd a c A d,Abb S w ge e gg gs b gp bm bc loops vd a c A d
section
variable {S S' T:Nat->Prop}{w w':World}{ge:Nat}{e:EX}
theorem GR.kept (h:GR S w ge e) (c:Ac T w w') (d:∀b,S b->b<w.heap.size->¬T b):GR S w' ge e:=by
 obtain⟨gg,gs,l,gp,bm,bc,loops,vd,f,k,A,m,h⟩:=h;obtain⟨n,o,q,g,r⟩:=h.ar;have i:=r.shrink;have j:∀b,S b/\¬k b->b<w.heap.size->¬T b:=λb a=>d b a.1;refine⟨gg,gs,l,gp,bm,bc,loops,vd,f,k,A,m,h.row.kept c (d _ h.se.1 h.row.lt),h.prog.kept c j,h.bg.kept c (d _ h.ss.1 h.bg.lt),h.vars.kept c (λb a=>d b (h.vars.2 b a).1 (h.vars.lt a)),
  ⟨n,o,q,g,(i.kept c (λb a=>d b (h.sa b a.1) a.2)).mono (λb a=>a.1)⟩,h.inv,h.si,h.pw,h.mJ,h.sa,h.se,h.ss⟩
theorem GR.mono (h:GR S w ge e) (c:∀b,S b->S' b):GR S' w ge e:=by obtain⟨gg,gs,i,gp,bm,bc,loops,vd,d,f,A,j,h⟩:=h;have g:∀b,b<w.heap.size->(S b/\¬f b)->(S' b/\¬f b):=λb _ a=>⟨c b a.1,a.2⟩;exact⟨gg,gs,i,gp,bm,bc,loops,vd,d,f,A,j,h.row,h.prog.mono g,h.bg,h.vars.mono (λb a=>⟨c b a.1,a.2⟩),h.ar,h.inv,h.si,h.pw,h.mJ,λb a=>c b (h.sa b a),⟨c _ h.se.1,h.se.2⟩,⟨c _ h.ss.1,h.ss.2⟩⟩
theorem GR.lt (h:GR S w ge e):ge<w.heap.size:=by obtain⟨gg,gs,b,gp,bm,bc,loops,vd,a,c,A,d,h⟩:=h;exact h.row.lt
theorem GR.inv (h:GR S w ge e):Ej e.p/\SF e.p e.s:=by obtain⟨gg,gs,c,gp,bm,bc,loops,vd,a,d,A,b,h⟩:=h;exact⟨h.pw,h.si,h.mJ,A,b,h.inv⟩
end
end Go.Proofs.YtepoejiigmhlbaaGreatDoor.Ev
namespace Go.Proofs.YtepoejiigmhlbaaGreatDoor.Ev
open _root_.Go.Proofs.Tryz
def F0 (q:Bi->Bool):List Bi->Nat->Int
 | [],_=> -1
 |d::l,k=>if q d=true then(k:Int)else F0 q l (k+1)
theorem NN (q:Bi->Bool):∀(l:List Bi) (k:Nat),(∀(j:Nat) (d:Bi),l[j]?=some d->q d=false)->F0 q l k= -1
 | [],k,_=>rfl
 |d::l,k,h=>by rw[F0,Ai (by rw[h 0 d rfl];decide)];exact NN q l (k+1) (λj a b=>h (j+1) a b)
theorem Td (q:Bi->Bool):∀(l:List Bi) (k i:Nat) (d:Bi),l[i]?=some d->q d=true->(∀(j:Nat) (d:Bi),j<i->l[j]?=some d->q d=false)->F0 q l k=((k+i:Nat):Int)
 | [],k,i,d,h,_,_=>by simp at h
 |c::l,k,0,d,h,b,_=>by
  simp only[AI,Cm]at h;subst h;rw[F0,Al b];rfl
 |c::l,k,i+1,d,h,b,a=>by rw[F0,Ai (by rw[a 0 c (Cg _) rfl];decide),Td q l (k+1) i d (by simpa using h) b (λj x f e=>a (j+1) x (by omega) (by simpa using e))];congr 1;omega
def Kz (nm:Ah) (v:Bool) (d:Bi):Bool:=d.name==nm&&((d.kind==2)==v)
theorem VQ {l:List Bi}(r:(l.map (·.name)).Nodup) (nm:Ah) (v:Bool):
  F0 (Kz nm v) l 0=if find l nm<0\/((Aq l (find l nm)).kind==2)≠v then-1 else find l nm:=by
 have g:∀(i j:Nat) (d c:Bi),l[i]?=some d->l[j]?=some c->d.name=nm->c.name=nm->i=j:=by intro i j d c f b s t;exact jb r (i:=i) (j:=j) (x:=nm) (by rw[At,f,B8,s]) (by rw[At,b,B8,t])
 rcases Js nm l 0 with h|⟨i,d,f,o,h⟩
 ·have m:find l nm= -1:=h;rw[m,Al (.inl (by decide))];refine NN _ _ _ (λj d b=>?_);have a:d.name≠nm:=by intro e;have k:=bM (l:=l) (name:=nm) (by rw[m];decide);exact k (AD.2 ⟨d,Aw b,e⟩)
  unfold Kz;simp[a]
 ·have m:find l nm=(i:Int):=by have:find l nm=((0+i:Nat):Int):=h;rw[this,DH]
  have p:Aq l (i:Int)=d:=Mv f;rw[m,p];by_cases n:(d.kind==2)=v
  ·rw[Ai (by rintro(h|h);omega;exact h n)];have:=Td (Kz nm v) l 0 i d f (by unfold Kz;simp[o,n]) (λj c b q=>by
    unfold Kz;have a:c.name≠nm:=λe=>by have:=g j i c d q f e o;omega
    simp[a])
   rw[this,DH]
  ·rw[Al (.inr n)];refine NN _ _ _ (λj c b=>?_);unfold Kz;by_cases a:c.name=nm
   ·have:=g j i c d b f a o;subst this;rw[f]at b;injection b with b;subst b;have:((d.kind==2)==v)=false:=by simpa using n
    rw[this,Bool.and_false]
   ·simp[a]
theorem eN {p:Ax}{s:St}{c:J9}(b:(p.decls.map (·.name)).Nodup) (nm:Ah):
  (⟨p,s,c⟩:EX).keys nm=if F0 (Kz nm false) p.decls 0<0 then none else some ((s.queue (F0 (Kz nm false) p.decls 0)).map (·.key)):=by
 rw[VQ b];unfold EX.keys;by_cases h:find p.decls nm<0\/(Aq p.decls (find p.decls nm)).kind=2
 ·have a:find p.decls nm<0\/((Aq p.decls (find p.decls nm)).kind==2)≠false:=h.elim .inl (λe=>.inr (by simp[e]));simp only[Al h,Al a];rw[Al (by decide)]
 ·have a:¬(find p.decls nm<0\/((Aq p.decls (find p.decls nm)).kind==2)≠false):=λe=>h (e.elim .inl (λe=>.inr (by simpa using e)));simp only[Ai h,Ai a];rw[Ai (λe=>h (.inl e))]
theorem ZN {p:Ax}{s:St}{c:J9}(b:(p.decls.map (·.name)).Nodup) (nm:Ah):
  (⟨p,s,c⟩:EX).value nm=if F0 (Kz nm true) p.decls 0<0 then none else some (s.var (F0 (Kz nm true) p.decls 0)):=by
 rw[VQ b];unfold EX.value;by_cases h:find p.decls nm<0\/(Aq p.decls (find p.decls nm)).kind≠2
 ·have a:find p.decls nm<0\/((Aq p.decls (find p.decls nm)).kind==2)≠true:=h.elim .inl (λe=>.inr (by simp[e]));simp only[Al h,Al a];rw[Al (by decide)]
 ·have a:¬(find p.decls nm<0\/((Aq p.decls (find p.decls nm)).kind==2)≠true):=λe=>h (e.elim .inl (λe=>.inr (by simpa using e)));simp only[Ai h,Ai a];rw[Ai (λe=>h (.inl e))]
theorem bN (q:Bi->Bool) (l:List Bi):F0 q l 0= -1\/Ix l.length (F0 q l 0):=by
 have:∀(l:List Bi) (k:Nat),F0 q l k= -1\/((k:Int)<=F0 q l k/\F0 q l k<((k+l.length:Nat):Int)):=by
  intro l
  induction l with
  |nil=>exact λk=>.inl rfl
  |cons d l a=>
   intro k;rw[F0];split
   ·right;simp;omega
   ·rcases a (k+1)with h|h
    ·exact .inl h
    ·right;simp;omega
 rcases this l 0 with h|h
 ·exact .inl h
 ·exact .inr ⟨by simpa using h.1,by simpa using h.2⟩
end Go.Proofs.YtepoejiigmhlbaaGreatDoor.Ev
namespace Go.Proofs.YtepoejiigmhlbaaGreatDoor.Ev
open _root_.Go.Proofs.Tryz
open Go Go.RowKit Go.Shelf
theorem fC (nm:Ah) (v:Bool) (b a:Nat) (d:Bi) (w:World) (k:b<w.heap.size) (h:a<w.heap.size) (l:w.cell? ⟨b,0,none⟩=some (vs nm)) (i:w.cell? ⟨a,0,none⟩=some (.bool v)):
  Calls prog 67 #[.agg (Dv d).toArray,.pointer (some ⟨b,0,none⟩),.pointer (some ⟨a,0,none⟩)] w λe w'=>e= .returned (.bool (Kz nm v d))/\Below w.heap.size w w':=by
 have j:b≠w.heap.size:=by omega
 have c:a≠w.heap.size:=by omega
 unfold Dv vs at*;unfold Kz;have f:(d.kind==2)=decide ((d.kind:Int)=2):=by rw[GF];simp;omega
 rw[f];generalize (d.kind:Int)=K;clear f;by_cases g:d.name=nm
 ·have e1:(d.name==nm)=true:=by simpa using g
  rw[e1];go_enter func67,ntmps67;go_wp2
  all_goals(go_ret;exact⟨by simp_all<;>rfl,(Lo _ w).alloc (Ab _) _⟩)
 ·have e1:(d.name==nm)=false:=by simpa using g
  rw[e1];go_enter func67,ntmps67;go_wp2
  all_goals(go_ret;exact⟨by simp_all<;>rfl,(Lo _ w).alloc (Ab _) _⟩)
theorem fB {S:Nat->Prop}(nm:Ah) (v:Bool) (b s:Nat) (l:List Bi) (F:Value) (w:World) (z:Sl S w 83 3 F l.length (l.flatMap Dv)) (T:l.length<=1000) (G:b<w.heap.size) (t:s<w.heap.size)
  (H:w.cell? ⟨b,0,none⟩=some (vs nm)) (u:w.cell? ⟨s,0,none⟩=some (.bool v)):
  Calls prog 66 #[F,.func (.func 67) #[] #[.pointer (some ⟨b,0,none⟩),.pointer (some ⟨s,0,none⟩)]] w λe w'=>e= .returned (.int .i64 (F0 (Kz nm v) l 0))/\Below w.heap.size w w':=by
 obtain⟨U,M,rfl⟩:=z.bz;obtain⟨N,O,I,B,y⟩:=zq5 z H G u t;clear z H G u t;go_enter func66,ntmps66;go_wp2
 go_loopg [5,8] l.length (λP _ Q wr=>∃g:Nat,g<=l.length/\l.length-g<=P/\Q= .int .i64 g/\Below w.heap.size w wr/\(∀(j:Nat) (d:Bi),j<g->l[j]?=some d->Kz nm v d=false))
 case atStart=>exact⟨0,AQ _,by omega,rfl,Lo _ w,λj d J=>absurd J (Uy _)⟩
 case round=>
  obtain⟨g,R,V,rfl,K,a⟩:=hrel;obtain⟨h,A⟩:=zq2 K a;clear K a;by_cases C:g<l.length
  ·obtain⟨x,D⟩:∃x,l[g]?=some x:=⟨_,Ae C⟩;obtain⟨q,rfl,k,f⟩:=N.out.nC (λ_=>rfl) D;have W:wr.cell? ⟨q,g*3,none⟩=some (.int .i64 x.kind):=(h.out.cell (p:=⟨q,g*3,none⟩) k).trans (f 0 (by omega));have X:wr.cell? ⟨q,g*3+1,none⟩=some (vs x.name):=(h.out.cell (p:=⟨q,g*3+1,none⟩) k).trans (f 1 (by omega));have c2:wr.cell? ⟨q,g*3+2,none⟩=some (.int .i64 x.max):=(h.out.cell (p:=⟨q,g*3+2,none⟩) k).trans (f 2 (by omega));have c:=fC nm v b s x wr (An I.out h.out.size) (An y.out h.out.size) ((h.out.cell (p:=⟨b,0,none⟩) I.out).trans O.out) ((h.out.cell (p:=⟨s,0,none⟩) y.out).trans B.out);have L:=Aa D;clear D f k;unfold vs at*;cases r:Kz nm v x with
   |true=>
    rw[r]at c;obtain⟨n,E⟩:=zq2 c r;clear c r;go_wp2_with fail;refine n.out.mono ?_;rintro e w' ⟨rfl,i⟩;have o:=Aa i;clear i;go_wp2;go_ret;refine⟨?_,h.out.trans (o.out.mono h.out.size)⟩;rw[Td _ l 0 g x L.out E.out A.out,DH];rfl
   |false=>
    rw[r]at c;obtain⟨n,E⟩:=zq2 c r;clear c r;go_wp2_with fail;refine n.out.mono ?_;rintro e w' ⟨rfl,i⟩;have o:=Aa i;clear i;go_wp2;go_roundg (l.length-(g+1))
    case measure=>omega
    case rel=>
     refine⟨g+1,by omega,by omega,by go_num,h.out.trans (o.out.mono h.out.size),λj d J m=>?_⟩;by_cases e:j=g
     ·subst e;rw[L.out]at m;injection m with m;exact m▸E.out
     ·exact A.out j d (by omega) m
  ·have:g=l.length:=by omega
   subst this;go_wp2;go_ret;refine⟨?_,h.out⟩;rw[NN _ l 0 (λj d m=>A.out j d (Aj.1 m).1 m)];rfl
def Aal (w:World) (n:Int) (e:Ending) (w':World):Prop:=e= .returned (.int .i64 n)/\Ac (λb=>w.heap.size<=b) w w'
theorem Ac.mN {w w':World}(h:Below w.heap.size w w'):Ac (λb=>w.heap.size<=b) w w':=Ac.cY h (λ_ h=>h)
theorem X6 {S:Nat->Prop}{w:World}{ge:Nat}{e:EX}(h:GR S w ge e) (nm:Ah) (v:Bool):
  Calls prog 33 #[.pointer (some ⟨ge,0,none⟩),vs nm,.bool v] w (Aal w (F0 (Kz nm v) e.p.decls 0)):=by
 obtain⟨i,gs,t,gp,u,x,f,k,l,y,A,z,h⟩:=h;obtain⟨m,n,o,r1,B,C⟩:=zp6 (h.row.cell 0) (h.prog.code.row.cell 0) (h.prog.ba.cell 0) h.row.lt h.prog.code.row.lt h.prog.ba.lt;have q:∀(j:Fn) (first c:Array Value) (w:World),(Instr.makeFunc j first c).run prog w= .ok (.func j first c) w:=λ_ _ _ _=>rfl;have a:=fB nm v w.heap.size (w.heap.size+1) e.p.decls k ((w.alloc (.cells #[vs nm] 9)).alloc (.cells #[.bool v] 4)) ((h.prog.decls.alloc _).alloc _) (by have:=h.pw.decls.len;omega) (by simp;omega) (by simp) (by simp) (by simp);obtain⟨E,c,rfl⟩:=h.prog.decls.bz;have F:¬ge=w.heap.size:=by omega
 have G:¬ge=w.heap.size+1:=by omega
 have H:¬i=w.heap.size:=by omega
 have I:¬i=w.heap.size+1:=by omega
 have J:¬gp=w.heap.size:=by omega
 have K:¬gp=w.heap.size+1:=by omega
 have r:=Aa a;generalize F0 (Kz nm v) e.p.decls 0=R at*;generalize e.p.decls.length=D at*;clear a h;simp at m n o;unfold vs at*;go_enter func33,ntmps33;go_wp2_with fail;refine r.out.mono ?_;rintro e w' ⟨rfl,d⟩;have g:=Aa d;clear d;go_wp2;go_ret;exact⟨rfl,(((Ac.refl _ w).alloc (Ab _) _).alloc (by simp) _).trans ((Ac.mN g.out).mono (λb s=>by simp at s;omega))⟩
end Go.Proofs.YtepoejiigmhlbaaGreatDoor.Ev
namespace Go.Proofs.YtepoejiigmhlbaaGreatDoor.Ev
open _root_.Go.Proofs.Tryz
open Go Go.RowKit
def wQ (w:World) (r:Option (List Int)) (e:Ending) (w':World):Prop:=
 Ac (λb=>w.heap.size<=b) w w'/\match r with
  |none=>e= .returned (.tuple #[.slice none 0 0,.int .i64 13])
  |some l=>∃v,e= .returned (.tuple #[v,.int .i64 0])/\Sl (λb=>w.heap.size<=b) w' 32 1 v l.length (l.map Kp)
section
variable {S:Nat->Prop}{w:World}{ge:Nat}{e:EX}
theorem lT (C:GR S w ge e) (nm:Ah):Calls prog 18 #[.pointer (some ⟨ge,0,none⟩),vs nm] w (wQ w (e.keys nm)):=by
 have f:=X6 C nm false;have g:=C.inv;have i:e.keys nm=if F0 (Kz nm false) e.p.decls 0<0 then none else some ((e.s.queue (F0 (Kz nm false) e.p.decls 0)).map (·.key)):=eN (p:=e.p) (s:=e.s) (c:=e.n) g.1.decls.nodup nm;rw[i];have a:=bN (Kz nm false) e.p.decls;generalize F0 (Kz nm false) e.p.decls 0=R at*;obtain⟨N,T⟩:=zq2 f C;clear f i C;unfold vs at*;rcases a with rfl|a
 ·clear g;go_enter func18,ntmps18;go_wp2_with fail;refine N.out.mono ?_;rintro e1 w1 ⟨rfl,d⟩;go_wp2;go_ret2;exact⟨d,rfl⟩
 ·have t:¬R<0:=by have:=a.1;omega
  rw[Ai t];obtain⟨m,rfl⟩:∃m:Nat,R=(m:Int):=⟨R.toNat,by have:=a.1;omega⟩;obtain⟨Z,gs,O,gp,bm,bc,H,vd,U,SA,A,ns,h⟩:=T.out;obtain⟨vl,vf,vq,V,u⟩:=h.ar;have I:m<A.qs.length:=by rw[←h.inv.jh,h.si.q];have:=a.2;omega
  obtain⟨l,D⟩:=h.inv.get I;have x:=h.inv.chain D;have J:=h.inv.iQ m l D;have E:=h.inv.queue e.s.vars D;have y:(⟨e.s.q,e.s.vars⟩:St)=e.s:=rfl;rw[y]at E;have z:Pt A l=((e.s.queue (m:Int)).map (·.key)).map Kp:=by rw[E];unfold Pt;rw[Iz,Iz];rfl
  have o:((e.s.queue (m:Int)).map (·.key)).length=l.length:=by rw[E];simp
  obtain⟨P,Q,r1,r2⟩:=zp4 (h.row.cell 1) (h.bg.cell 0) h.row.lt h.bg.lt;have j:∀W,Ac (λb=>w.heap.size<=b) w W->Calls prog 34 #[.pointer (some ⟨O,0,none⟩),.int .i64 m] W λe w'=>
    ∃v,e= .returned v/\Ac (λb=>W.heap.size<=b) W w'/\Sl (λb=>W.heap.size<=b) w' 32 1 v l.length (Pt A l):=λW F=>by
   have X:=(u.shrink).kept F (λb r=>by have:=r.2;omega);exact pq X (So:=λb=>W.heap.size<=b) (λk F=>F) (λb r=>by have:=r.2;have:=F.size;omega) h.inv.ok (by have:=h.inv.q8;omega) m I l x (by omega)
  obtain⟨Y,K,B⟩:=zq3 j z o;clear j u h x D E y z o g I J a;simp at P Q;go_enter func18,ntmps18;go_wp2_with fail;refine N.out.mono ?_;rintro e1 w1 ⟨rfl,d⟩;have d1:w1.cell? ⟨ge,1,none⟩=some (.pointer (some ⟨gs,0,none⟩)):=(d.cell (p:=⟨ge,1,none⟩) (by simp only;omega)).trans P;have d0:w1.cell? ⟨gs,0,none⟩=some (.pointer (some ⟨O,0,none⟩)):=(d.cell (p:=⟨gs,0,none⟩) (by simp only;omega)).trans Q;have G:=Aa d;clear d;go_wp2_with fail;refine(Y.out _ G.out).mono ?_;rintro e1 w2 ⟨v,rfl,L,M⟩;go_wp2;go_ret2;refine⟨G.out.trans (L.mono (λb r=>Ad G.out.size r)),v,rfl,?_⟩;rw[B.out,←K.out];exact M.mono (λb r=>Ad G.out.size r)
def Aai (w:World) (r:Option Int) (e:Ending) (w':World):Prop:=
 Ac (λb=>w.heap.size<=b) w w'/\match r with
  |none=>e= .returned (.tuple #[.int .i64 0,.int .i64 13])
  |some n=>e= .returned (.tuple #[.int .i64 n,.int .i64 0])
theorem fv (k:GR S w ge e) (nm:Ah):Calls prog 64 #[.pointer (some ⟨ge,0,none⟩),vs nm] w (Aai w (e.value nm)):=by
 have f:=X6 k nm true;have b:=k.inv;have g:e.value nm=if F0 (Kz nm true) e.p.decls 0<0 then none else some (e.s.var (F0 (Kz nm true) e.p.decls 0)):=ZN (p:=e.p) (s:=e.s) (c:=e.n) b.1.decls.nodup nm;rw[g];have d:=bN (Kz nm true) e.p.decls;generalize F0 (Kz nm true) e.p.decls 0=R at*;obtain⟨r,B⟩:=zq2 f k;clear f g k;unfold vs at*;rcases d with rfl|d
 ·clear b;go_enter func64,ntmps64;go_wp2_with fail;refine r.out.mono ?_;rintro e1 w1 ⟨rfl,a⟩;go_wp2;go_ret2;exact⟨a,rfl⟩
 ·have i:¬R<0:=by have:=d.1;omega
  rw[Ai i];obtain⟨m,rfl⟩:∃m:Nat,R=(m:Int):=⟨R.toNat,by have:=d.1;omega⟩;obtain⟨H,gs,I,gp,J,K,l,M,C,N,A,O,h⟩:=B.out;have j:e.s.vars.length=e.p.decls.length:=h.si.v;have t:m<e.s.vars.length:=by rw[j];have:=d.2;omega
  have P:=b.1.decls.len;obtain⟨o,D,rfl,_,E,q,F⟩:=h.vars.form (by omega);have u:=h.vars.1.cellAt m (by simpa using t);have x:(e.s.vars.map Jv)[m]?=some (.int .i64 (e.s.var (m:Int))):=by unfold St.var;rw[As,At,Ae t];rfl
  rw[x]at u;obtain⟨y,z,r1,Q⟩:=zp4 (h.row.cell 1) (h.bg.cell 1) h.row.lt h.bg.lt;unfold maxLen at q;generalize e.s.vars.length=L at*;clear h b x d j;simp at y z;go_enter func64,ntmps64;go_wp2_with fail;refine r.out.mono ?_;rintro e1 w1 ⟨rfl,a⟩;have T:w1.cell? ⟨ge,1,none⟩=some (.pointer (some ⟨gs,0,none⟩)):=(a.cell (p:=⟨ge,1,none⟩) (by simp only;omega)).trans y;have U:w1.cell? ⟨gs,1,none⟩=some (.slice (some ⟨o,0,none⟩) L D):=(a.cell (p:=⟨gs,1,none⟩) (by simp only;omega)).trans z;have V:w1.cell? ⟨o,m,none⟩=some (.int .i64 (e.s.var (m:Int))):=(a.cell (p:=⟨o,m,none⟩) (by simp only;omega)).trans u;have G:=Aa a;clear a;go_wp2;go_ret2;exact⟨G.out,rfl⟩
theorem mm (w:World):(isAgg 36).run prog w= .ok true w:=by kernel_rfl
theorem dQ (w:World):(Go.sizeOf 36).run prog w= .ok 3 w:=by kernel_rfl
def qJ (c:J9):Value:=.agg #[.int .i64 c.ft,.int .i64 c.dA,.int .i64 c.cD]
def rO (w:World) (c:J9) (e:Ending) (w':World):Prop:=e= .returned (qJ c)/\Ac (λb=>w.heap.size<=b) w w'
theorem bU (b:GR S w ge e):Calls prog 11 #[.pointer (some ⟨ge,0,none⟩)] w (rO w e.n):=by
 obtain⟨d,gs,f,gp,g,i,a,j,c,k,A,l,h⟩:=b;obtain⟨c2,c3,c4,r1⟩:=zp4 (h.row.cell 2) (h.row.cell 3) (h.row.cell 4) h.row.lt;have m:¬ge=w.heap.size:=by omega
 clear h;simp at c2 c3 c4;go_enter func11,ntmps11;go_wp2;refine AA (AP (cs:=[.int .i64 e.n.ft,.int .i64 e.n.dA,.int .i64 e.n.cD]) Tryz.results11 mm dQ rfl (AE.new w _ _)) rfl ?_;exact⟨rfl,(Ac.refl _ w).alloc (Ab _) _⟩
end
end Go.Proofs.YtepoejiigmhlbaaGreatDoor.Ev
namespace Go.Proofs.YtepoejiigmhlbaaGreatDoor.Ev
open _root_.Go.Proofs.Tryz
open Go Go.RowKit Go.Extern.Stop Go.Stop Go.Extern
theorem Rw (v:Value) (w:World):(Extern.ReflectliteType.typeOf #[.iface 307 v]).run prog w= .ok (.iface 184 (.agg #[.pointer (some ⟨21,307,none⟩)])) w:=by kernel_rfl
theorem KV (w:World):((Extern.ReflectliteType.method λt=>do Extern.Rtype.noPackHeld "Comparable" t;Functor.map (λa=>Value.bool a.comparable) (typeInfo t)) #[.agg #[.pointer (some ⟨21,307,none⟩)]]).run prog w= .ok (.bool true) w:=by kernel_rfl
theorem Gf (v:Value) (w:World):(Go.method 439 184 v "Comparable").run prog w= .ok (195,v) w:=by kernel_rfl
theorem YK:(prog.info? 307).map (·.comparable)=some true:=by kernel_rfl
theorem YI:(prog.info? 309).map (·.size)=some 1:=by kernel_rfl
theorem oU (v:Value) (a:TypeId) (w:World):(Instr.typeAssert (.iface 307 v) a 239 true).run prog w= .ok (.tuple #[.nilIface,.bool false]) w:=MW underlying239 (by kernel_rfl) (by kernel_rfl) v a w
theorem SV (v:Value) (a:TypeId) (w:World):(Instr.typeAssert (.iface 307 v) a 192 true).run prog w= .ok (.tuple #[.nilIface,.bool false]) w:=MW underlying192 (by kernel_rfl) (by kernel_rfl) v a w
theorem Qi (v:Value) (a:TypeId) (w:World):(Instr.typeAssert (.iface 307 v) a 194 true).run prog w= .ok (.tuple #[.nilIface,.bool false]) w:=MW underlying194 (by kernel_rfl) (by kernel_rfl) v a w
theorem oT (v:Value) (a:TypeId) (w:World):(Instr.typeAssert (.iface 54 v) a 239 true).run prog w= .ok (.tuple #[.nilIface,.bool false]) w:=MW underlying239 (by kernel_rfl) (by kernel_rfl) v a w
theorem Qr (v:Value) (a:TypeId) (w:World):(Instr.typeAssert (.iface 54 v) a 192 true).run prog w= .ok (.tuple #[.iface 54 v,.bool true]) w:=run_typeAssert_hasB underlying192 (by kernel_rfl) v a w
theorem UP (gf:Nat) (a b:Value) (w:World) (h:AE w gf 59 [a,b]):Calls prog 188 #[.pointer (some ⟨gf,0,none⟩)] w λe w'=>e= .returned a/\w'=w:=by have c:=h.cell 0;simp at c;clear h;go_enter func188,ntmps188;go_wp2;go_ret;exact⟨rfl,rfl⟩
theorem uU (a:Addr) (w:World):
  Calls prog 45 #[.iface 307 (.pointer (some a)),.iface 307 (.pointer (some a))] w λe w'=>e= .returned (.bool true)/\w'=w:=by
 obtain⟨i,c,b⟩:=A7.1 YK;obtain⟨j,d,f⟩:=A7.1 YI;obtain⟨k,l,m,g⟩:=zp4 Rw KV Gf (run_eql_iface_ptr_same (P:=prog) w a GH Lk c b d);have n:=@Bb prog 77 _ Extern.ReflectliteType.typeOf W5 (by kernel_rfl) (by kernel_rfl) (by kernel_rfl) (by kernel_rfl);have h:=@Bb prog 195 _ (Extern.ReflectliteType.method λt=>do Extern.Rtype.noPackHeld "Comparable" t;pure (.bool (←typeInfo t).comparable)) gF (by kernel_rfl) (by kernel_rfl) (by kernel_rfl) (by kernel_rfl);go_enter ni,gB;go_wp2;refine PA 1 ?_;rw[Nz];go_wp2;go_ret;exact⟨rfl,rfl⟩
theorem NE (v:Value) (w:World):(Go.method 439 54 v "Unwrap").run prog w= .ok (188,v) w:=by kernel_rfl
theorem pz (a b:Addr) (g h:Array Value) (k l:TypeId) (w:World) (d:a≠b) (m:w.heap[a.block]?=some (.cells g k (0,0))) (n:w.heap[b.block]?=some (.cells h l (0,0))):
  Calls prog 45 #[.iface 307 (.pointer (some a)),.iface 307 (.pointer (some b))] w λe w'=>e= .returned (.bool false)/\w'=w:=by
 obtain⟨i,o,c⟩:=A7.1 YK;obtain⟨j,p,f⟩:=A7.1 YI;obtain⟨s,u,v,x,y,z,A,B⟩:=zp8 Rw KV Gf oU SV Qi oT Qr;have C:=NE;have q:=run_eql_iface_ptr_other (P:=prog) w GH Lk o c p (by rw[f];decide) d m n;have D:=@Bb prog 77 _ Extern.ReflectliteType.typeOf W5 (by kernel_rfl) (by kernel_rfl) (by kernel_rfl) (by kernel_rfl);have r:=@Bb prog 195 _ (Extern.ReflectliteType.method λt=>do Extern.Rtype.noPackHeld "Comparable" t;pure (.bool (←typeInfo t).comparable)) gF (by kernel_rfl) (by kernel_rfl) (by kernel_rfl) (by kernel_rfl);go_enter ni,gB;go_wp2;refine PA 1 ?_;rw[Nz];go_wp2;go_ret;exact⟨rfl,rfl⟩
theorem Wx (gf:Nat) (x:Value) (b:Addr) (w:World) (h:AE w gf 59 [.iface 307 (.pointer (some b)),x]):
  Calls prog 45 #[.iface 54 (.pointer (some ⟨gf,0,none⟩)),.iface 307 (.pointer (some b))] w λe w'=>e= .returned (.bool true)/\w'=w:=by
 obtain⟨i,c,a⟩:=A7.1 YK;obtain⟨j,d,f⟩:=A7.1 YI;obtain⟨n,o,p,q,r,s,u,v⟩:=zp8 Rw KV Gf oU SV Qi oT Qr;have y:=NE;have g:=run_eql_iface_ptr_same (P:=prog) w b GH Lk c a d;have k:=run_eql_iface_types (P:=prog) 54 307 (.pointer (some ⟨gf,0,none⟩)) (.pointer (some b)) GH (by decide) w;have z:=@Bb prog 77 _ Extern.ReflectliteType.typeOf W5 (by kernel_rfl) (by kernel_rfl) (by kernel_rfl) (by kernel_rfl);have l:=@Bb prog 195 _ (Extern.ReflectliteType.method λt=>do Extern.Rtype.noPackHeld "Comparable" t;pure (.bool (←typeInfo t).comparable)) gF (by kernel_rfl) (by kernel_rfl) (by kernel_rfl) (by kernel_rfl);have m:=Aa h;clear h;go_enter ni,gB;go_wp2;refine PA 2 ?_;rw[Nz];go_wp2_with (go_at_call 188;refine(UP gf _ x w m.out).mono ?_;rintro e w' ⟨rfl,rfl⟩);rw[Nz];go_wp2;go_ret;exact⟨rfl,rfl⟩
theorem Vr (gf:Nat) (x:Value) (a b:Addr) (g k:Array Value) (l m:TypeId) (w:World) (h:AE w gf 59 [.iface 307 (.pointer (some a)),x]) (d:a≠b) (n:w.heap[a.block]?=some (.cells g l (0,0))) (o:w.heap[b.block]?=some (.cells k m (0,0))):
  Calls prog 45 #[.iface 54 (.pointer (some ⟨gf,0,none⟩)),.iface 307 (.pointer (some b))] w λe w'=>e= .returned (.bool false)/\w'=w:=by
 obtain⟨i,p,c⟩:=A7.1 YK;obtain⟨j,q,f⟩:=A7.1 YI;obtain⟨y,z,A,B,C,D,E,F⟩:=zp8 Rw KV Gf oU SV Qi oT Qr;have G:=NE;have r:=run_eql_iface_ptr_other (P:=prog) w GH Lk p c q (by rw[f];decide) d n o;have s:=run_eql_iface_types (P:=prog) 54 307 (.pointer (some ⟨gf,0,none⟩)) (.pointer (some b)) GH (by decide) w;have H:=@Bb prog 77 _ Extern.ReflectliteType.typeOf W5 (by kernel_rfl) (by kernel_rfl) (by kernel_rfl) (by kernel_rfl);have u:=@Bb prog 195 _ (Extern.ReflectliteType.method λt=>do Extern.Rtype.noPackHeld "Comparable" t;pure (.bool (←typeInfo t).comparable)) gF (by kernel_rfl) (by kernel_rfl) (by kernel_rfl) (by kernel_rfl);have v:=Aa h;clear h;go_enter ni,gB;go_wp2;refine PA 2 ?_;rw[Nz];go_wp2_with (go_at_call 188;refine(UP gf _ x w v.out).mono ?_;rintro e w' ⟨rfl,rfl⟩);rw[Nz];go_wp2;go_ret;exact⟨rfl,rfl⟩
theorem Y4 (t:Addr) (w:World):(ReflectliteValue.unpack (.iface 56 (.pointer (some t)))).run prog w
  = .ok (.agg #[.pointer (some ⟨21,56,none⟩),.pointer (some ⟨w.heap.size,0,none⟩),.int .u64 150]) (w.alloc (.cells #[.pointer (some t)] 56)):=by kernel_rfl
theorem mh (a:Addr) (w:World):(ReflectliteValue.methodAny (ReflectliteValue.valueError "reflectlite.Value.Type" 0) (λt _ _ _=>ReflectliteType.toType t) #[.agg #[.pointer (some ⟨21,56,none⟩),.pointer (some a),.int .u64 150]]).run prog w
  = .ok (.iface 184 (.agg #[.pointer (some ⟨21,56,none⟩)])) w:=by kernel_rfl
theorem WW (h:Value) (w:World):(Go.method 439 184 (.agg #[h]) "Kind").run prog w= .ok (184,h) w:=by kernel_rfl
theorem mi (w:World):((ReflectliteType.abiMethod λt=>Functor.map (λa:Nat=>Value.int IntKind.u8 (a:Int)) (Rtype.kind t)) #[.pointer (some ⟨21,56,none⟩)]).run prog w= .ok (.int .u8 22) w:=by kernel_rfl
theorem mj (w:World):((ReflectliteType.abiMethod λt=>Functor.map (λa:Nat=>Value.int IntKind.u8 (a:Int)) (Rtype.kind t)) #[.pointer (some ⟨21,54,none⟩)]).run prog w= .ok (.int .u8 22) w:=by kernel_rfl
theorem rlm (z:Sem Value) (f:TypeId->Addr->Nat->Nat->Sem Value) (v:Value):
  ReflectliteValue.method z f #[v]=(do match←ReflectliteValue.parts v with|none=>z|some (t,a,b)=>f t a b (b%32)):=rfl
theorem V1 (a:Addr) (w:World):(ReflectliteValue.parts (.agg #[.pointer (some ⟨21,56,none⟩),.pointer (some a),.int .u64 150])).run prog w= .ok (some (56,a,150)) w:=by kernel_rfl
theorem gc (a p:Addr) (W:World) (b:W.cell? a=some (.pointer (some p))):
  (ReflectliteValue.method (ReflectliteValue.valueError "reflectlite.Value.IsNil" 0) ReflectliteValue.isNil #[.agg #[.pointer (some ⟨21,56,none⟩),.pointer (some a),.int .u64 150]]).run prog W= .ok (.bool false) W:=by
 rw[rlm];simp only[GL,V1,Result.andThen];simp[ReflectliteValue.isNil,loadVar,isAgg,underlying,underlying56,b,Result.andThen]
theorem WX (h:Value) (w:World):(Go.method 439 184 (.agg #[h]) "Elem").run prog w= .ok (196,.agg #[h]) w:=by kernel_rfl
theorem PM (h:Value) (w:World):(Go.method 439 184 (.agg #[h]) "Implements").run prog w= .ok (197,.agg #[h]) w:=by kernel_rfl
theorem Oi (h:Value) (w:World):(Go.method 439 184 (.agg #[h]) "AssignableTo").run prog w= .ok (194,.agg #[h]) w:=by kernel_rfl
theorem ml (w:World):(ReflectliteType.method ReflectliteType.elem #[.agg #[.pointer (some ⟨21,56,none⟩)]]).run prog w= .ok (.iface 184 (.agg #[.pointer (some ⟨21,54,none⟩)])) w:=by kernel_rfl
theorem Ua (w:World):(ReflectliteType.relation "Implements" ReflectliteType.implements_ #[.agg #[.pointer (some ⟨21,54,none⟩)],.iface 184 (.agg #[.pointer (some ⟨21,51,none⟩)])]).run prog w= .ok (.bool true) w:=by kernel_rfl
theorem cH (v:Value) (w:World):(ReflectliteType.typeOf #[.iface 54 v]).run prog w= .ok (.iface 184 (.agg #[.pointer (some ⟨21,54,none⟩)])) w:=by kernel_rfl
theorem Ub (w:World):(ReflectliteType.relation "AssignableTo" ReflectliteType.assignableTo #[.agg #[.pointer (some ⟨21,54,none⟩)],.iface 184 (.agg #[.pointer (some ⟨21,54,none⟩)])]).run prog w= .ok (.bool true) w:=by kernel_rfl
theorem Y5 (e:Addr) (w:World):(ReflectliteValue.unpack (.iface 54 (.pointer (some e)))).run prog w
  = .ok (.agg #[.pointer (some ⟨21,54,none⟩),.pointer (some ⟨w.heap.size,0,none⟩),.int .u64 150]) (w.alloc (.cells #[.pointer (some e)] 54)):=by kernel_rfl
theorem cJ (w:World):(Rtype.elem? 56).run prog w= .ok (some 54) w:=by kernel_rfl
theorem wK (p:Addr) (w:World):(ReflectliteValue.mk 54 p ReflectliteValue.flagAddr).run prog w= .ok (.agg #[.pointer (some ⟨21,54,none⟩),.pointer (some p),.int .u64 406]) w:=by kernel_rfl
theorem gj (a p:Addr) (W:World) (b:W.cell? a=some (.pointer (some p))):
  (ReflectliteValue.method (ReflectliteValue.valueError "reflectlite.Value.Elem" 0) ReflectliteValue.elem #[.agg #[.pointer (some ⟨21,56,none⟩),.pointer (some a),.int .u64 150]]).run prog W
   = .ok (.agg #[.pointer (some ⟨21,54,none⟩),.pointer (some p),.int .u64 406]) W:=by
 rw[rlm];simp only[GL,V1,Result.andThen];simp[ReflectliteValue.elem,loadVar,isAgg,underlying,underlying56,b,Result.andThen,cJ,wK]
theorem rls (v x:Value):ReflectliteValue.set #[v,x]=(do
  let (some (c,a,f),some (d,b,_)):=(←ReflectliteValue.parts v,←ReflectliteValue.parts x)
   |unsupported (.noEntry "extern/(internal/reflectlite.Value).Set.zeroValue")
  if f/ReflectliteValue.flagAddr%2==0 then unsupported (.noEntry "extern/(internal/reflectlite.Value).Set.unaddressable")
  let e←loadVar d b
  if←Rtype.directlyAssignable c d then storeVar c a e
  else if←Rtype.implements c d then
   if(←Rtype.kind d)==20 then
    match e with
    | .nilIface=>unsupported (.noEntry "extern/reflectlite: a nil value of one interface type handed on as a value of another")
    |_=>storeVar c a e
   else storeVar c a (.iface d e)
  else panicString ("reflectlite.Set: value of type " ++(←Rtype.spelt d)++ " is not assignable to type " ++(←Rtype.spelt c))
  pure (.tuple #[])):=rfl
theorem cI (a:Addr) (w:World):(ReflectliteValue.parts (.agg #[.pointer (some ⟨21,54,none⟩),.pointer (some a),.int .u64 406])).run prog w= .ok (some (54,a,406)) w:=by kernel_rfl
theorem fZ (a:Addr) (w:World):(ReflectliteValue.parts (.agg #[.pointer (some ⟨21,54,none⟩),.pointer (some a),.int .u64 150])).run prog w= .ok (some (54,a,150)) w:=by kernel_rfl
theorem cK (w:World):(Rtype.directlyAssignable 54 54).run prog w= .ok true w:=by kernel_rfl
theorem rn (a b e:Addr) (c:Value) (W:World) (d:W.cell? b=some (.pointer (some e))) (f:W.cell? a=some c) (g:W.frozen? a=false):
  (ReflectliteValue.set #[.agg #[.pointer (some ⟨21,54,none⟩),.pointer (some a),.int .u64 406],.agg #[.pointer (some ⟨21,54,none⟩),.pointer (some b),.int .u64 150]]).run prog W
   = .ok (.tuple #[]) (W.setCell a (.pointer (some e))):=by
 rw[rls];simp only[GL,cI,fZ,Result.andThen];simp[ReflectliteValue.flagAddr,loadVar,isAgg,underlying,underlying54,d,Result.andThen,cK,storeVar,Value.cells,storeCells,Addr.add];rw[run_store prog W a _ _ (by rfl)];simp[f,g]
theorem Aab (e t:Addr) (a:Value) (w:World) (g:w.cell? ⟨2,0,none⟩=some (.iface 184 (.agg #[.pointer (some ⟨21,51,none⟩)]))) (b:w.cell? t=some a) (d:w.frozen? t=false):
  Calls prog 20 #[.iface 54 (.pointer (some e)),.iface 56 (.pointer (some t))] w λi w'=>i= .returned (.bool true)/\w'=((((w.alloc (.cells #[.pointer (some t)] 56)).alloc (.cells #[.pointer (some ⟨21,56,none⟩),.pointer (some ⟨w.heap.size,0,none⟩),.int .u64 150] 109)).alloc (.cells #[.pointer (some ⟨21,56,none⟩),.pointer (some ⟨w.heap.size,0,none⟩),.int .u64 150] 109)).alloc (.cells #[.pointer (some e)] 54)).setCell t (.pointer (some e)):=by
 have z:=@Bb prog 40 _ (λargs=>ReflectliteValue.unpack (args.getD 0 (.tuple #[]))) func40 (by kernel_rfl) (by kernel_rfl) (by kernel_rfl) (by kernel_rfl);have A:=@Bb prog 41 _ (ReflectliteValue.methodAny (ReflectliteValue.valueError "reflectlite.Value.Type" 0) (λt _ _ _=>ReflectliteType.toType t)) func41 (by kernel_rfl) (by kernel_rfl) (by kernel_rfl) (by kernel_rfl);have B:=@Bb prog 42 _ (ReflectliteValue.method (ReflectliteValue.valueError "reflectlite.Value.IsNil" 0) ReflectliteValue.isNil) func42 (by kernel_rfl) (by kernel_rfl) (by kernel_rfl) (by kernel_rfl);have j:=@Bb prog 184 _ (ReflectliteType.abiMethod λt=>do pure (.int .u8 (←Rtype.kind t))) func184 (by kernel_rfl) (by kernel_rfl) (by kernel_rfl) (by kernel_rfl);have k:=@Bb prog 196 _ (ReflectliteType.method ReflectliteType.elem) func196 (by kernel_rfl) (by kernel_rfl) (by kernel_rfl) (by kernel_rfl);have l:=@Bb prog 197 _ (ReflectliteType.relation "Implements" ReflectliteType.implements_) func197 (by kernel_rfl) (by kernel_rfl) (by kernel_rfl) (by kernel_rfl);have m:=@Bb prog 77 _ ReflectliteType.typeOf W5 (by kernel_rfl) (by kernel_rfl) (by kernel_rfl) (by kernel_rfl);have n:=@Bb prog 194 _ (ReflectliteType.relation "AssignableTo" ReflectliteType.assignableTo) func194 (by kernel_rfl) (by kernel_rfl) (by kernel_rfl) (by kernel_rfl);have o:=@Bb prog 78 _ (ReflectliteValue.method (ReflectliteValue.valueError "reflectlite.Value.Elem" 0) ReflectliteValue.elem) func78 (by kernel_rfl) (by kernel_rfl) (by kernel_rfl) (by kernel_rfl);have p:=@Bb prog 79 _ ReflectliteValue.set func79 (by kernel_rfl) (by kernel_rfl) (by kernel_rfl) (by kernel_rfl);obtain⟨C,D,q,r,E,F,G,H⟩:=zp8 cH Oi Ub Y5 Y4 mh WW WX;obtain⟨I,s,u,v,x⟩:=zp5 PM mi mj ml Ua;have J:=gc ⟨w.heap.size,0,none⟩ t ((w.alloc (.cells #[.pointer (some t)] 56)).alloc (.cells #[.pointer (some ⟨21,56,none⟩),.pointer (some ⟨w.heap.size,0,none⟩),.int .u64 150] 109)) (by simp);have f:2<w.heap.size:=CT w _ g;have y:((w.alloc (.cells #[.pointer (some t)] 56)).alloc (.cells #[.pointer (some ⟨21,56,none⟩),.pointer (some ⟨w.heap.size,0,none⟩),.int .u64 150] 109)).cell? ⟨2,0,none⟩=some (.iface 184 (.agg #[.pointer (some ⟨21,51,none⟩)])):=by rw[EW _ _ ⟨2,0,none⟩ (by simp;omega),EW _ _ ⟨2,0,none⟩ f];exact g
 have c:t.block<w.heap.size:=by
  rcases Be t.block w.heap.size with h|h
  ·exact h
  ·simp[World.cell?,Ch h]at b
 have K:=gj ⟨w.heap.size,0,none⟩ t (((w.alloc (.cells #[.pointer (some t)] 56)).alloc (.cells #[.pointer (some ⟨21,56,none⟩),.pointer (some ⟨w.heap.size,0,none⟩),.int .u64 150] 109)).alloc (.cells #[.pointer (some ⟨21,56,none⟩),.pointer (some ⟨w.heap.size,0,none⟩),.int .u64 150] 109)) (by rw[EW _ _ ⟨w.heap.size,0,none⟩ (by simp;omega)];simp);have st:=rn t ⟨w.heap.size+1+1+1,0,none⟩ e a ((((w.alloc (.cells #[.pointer (some t)] 56)).alloc (.cells #[.pointer (some ⟨21,56,none⟩),.pointer (some ⟨w.heap.size,0,none⟩),.int .u64 150] 109)).alloc (.cells #[.pointer (some ⟨21,56,none⟩),.pointer (some ⟨w.heap.size,0,none⟩),.int .u64 150] 109)).alloc (.cells #[.pointer (some e)] 54))
  (by rw[World.cell?_alloc_at _ _ _ _ (by simp)];rfl)
  (by rw[EW _ _ t (by simp;omega),EW _ _ t (by simp;omega),EW _ _ t (by simp;omega),EW _ _ t c];exact b)
  (by rw[LA _ _ t (by simp;omega),LA _ _ t (by simp;omega),LA _ _ t (by simp;omega),LA _ _ t (Nat.ne_of_lt c)];exact d)
 go_enter func20,ntmps20;go_wp2;refine PA 1 ?_;rw[Nz];go_wp2;go_ret;exact⟨rfl,rfl⟩
end Go.Proofs.YtepoejiigmhlbaaGreatDoor.Ev
namespace Go.Proofs.YtepoejiigmhlbaaGreatDoor.Ev
open _root_.Go.Proofs.Tryz
open Go Go.RowKit
def gP (w:World) (size:Nat) (u:Value) (m:Nat) (news:List Value):Prop:=
 news.length=m*size/\((u= .slice none 0 0/\m=0)\/∃a c,u= .slice (some a) m c/\∀j x,news[j]?=some x->w.cell? (a.add j)=some x)
section
variable {S:Nat->Prop}{w w':World}{e:TypeId}{size n m:Nat}{u v:Value}{xs news:List Value}
theorem qY (g j:Nat):(⟨g,0,none⟩:Addr).add j=⟨g,j,none⟩:=by
 unfold Addr.add;split
 ·rename_i h;subst h;rfl
 ·simp
theorem Sl.src (h:Sl S w e size v n xs):gP w size v n xs:=by
 refine⟨h.1.1,?_⟩;rcases h.1.2 with⟨a,b⟩|⟨g,c,d,rfl,_⟩
 ·exact .inl ⟨a,b⟩
 ·refine .inr ⟨_,_,rfl,λj x f=>?_⟩;exact h.1.cells (g:=g) rfl j x f
theorem Sl.nz {g a k:Nat}(h:Sl S w e size (.slice (some ⟨g,0,none⟩) n a) n xs) (f:k<=n) (c:Nat):
  gP w size (.slice (some ⟨g,k*size,none⟩) (n-k) c) (n-k) (xs.drop (k*size)):=by
 refine⟨by rw[Tm,h.1.1,Nat.sub_mul],.inr ⟨_,_,rfl,λj x b=>?_⟩⟩;rw[Ln]at b;have d:=h.1.cells (g:=g) rfl _ x b;rw[qY]at d;have e:(⟨g,k*size,none⟩:Addr).add j=⟨g,k*size+j,none⟩:=by
  unfold Addr.add;split
  ·rename_i h;subst h;rfl
  ·rfl
 rw[e];exact d
theorem gP.kept {T:Nat->Prop}(h:gP w size u m news) (b:Ac T w w') (d:∀a n c,u= .slice (some a) n c->¬T a.block):gP w' size u m news:=by
 refine⟨h.1,?_⟩;rcases h.2 with f|⟨a,c,rfl,g⟩
 ·exact .inl f
 ·refine .inr ⟨a,c,rfl,λj x i=>?_⟩;have k:(a.add j).block=a.block:=by unfold Addr.add;split<;>rfl
  exact(b.cell (p:=a.add j) (by rw[k];exact d a m c rfl)).trans (g j x i)
theorem gP.of_heap (h:gP w size u m news) (a:w'.heap=w.heap):gP w' size u m news:=
 h.kept (T:=λ_=>False) (w':={w with heap:=w'.heap}) ⟨rfl,rfl,rfl,by rw[a];exact Ab _,λk _=>by rw[a]⟩ (λ_ _ _ _ h=>h)
theorem dD {P:Program}{k:Array Oper}{rest:List Oper}{o:Oper}{a:Act}{Q:Exit->Act->World->Prop}{i:TypeInfo}{z:Value}{bytes:Nat}{t:TypeId}(A:P.underlying t=some (.slice e)) (B:P.info? e=some i) (G:i.zero=some z)
  (g:i.size=size) (p:i.bytes=bytes) (q:z.cells.size=size) (r:0<size) (h:Sl S w e size v n xs) (H:S w.heap.size)
  (l:o.guard=none) (s x:Operand) (C:o.op= .call {callee:=.builtin .append,args:=#[s,x],argTypes:=#[t,t]}) (D:a.eval s=v)
  (E:a.eval x=u) (d:gP w size u m news) (I:∀u∈news,u.oneCell'=true)
  (y:n+m<=maxLen) (f:(n+m)*bytes<=140737488355328)
  (F:∀j w',Sl S w' e size j (n+m) (xs++news)->Ac (λb=>v.ownBlock=some b\/w.heap.size<=b) w w'->(j.ownBlock=v.ownBlock\/j.ownBlock=some w.heap.size)->
   wpList P k Q rest (a.put o.dst j) w'):wpList P k Q (o::rest) a w:=by
 rcases d.2 with⟨rfl,rfl⟩|⟨J,c,rfl,K⟩
 ·have L:news=[]:=In (by simpa using d.1);subst L;refine wpList_append_own_none l s x t C 0 e i size A B v n xs D h.1 E ?_;refine F v w ?_ zAr (.inl rfl);rw[AM];exact h
 ·exact Xg A B G g p q r h H l s x C D J m c news E d.1 K I y f (λj w' M N O _=>F j w' M N O)
theorem Sl.later {T:Nat->Prop}(h:Sl S w e size v n xs) (a:Ac T w w') (c:∀b,T b->w.heap.size<=b):Sl S w' e size v n xs:=h.kept a (λg d f=>by have:=h.lt d;have:=c g f;omega)
theorem Sl.iO (h:Sl S w e size v n xs):∀a n c,v= .slice (some a) n c->a.block<w.heap.size:=λa n c e=>h.lt (by rw[e];rfl)
theorem Sl.hQ (S:Nat->Prop) (w:World) (e:TypeId) (size:Nat):Sl S w e size (.slice none 0 0) 0 []:=⟨Cl _ _ _ _,λg a=>by cases a⟩
theorem oB {P:Program}{w0:World}{N:Nat}{i:TypeInfo}{z:Value}{bytes:Nat}{t ty:TypeId}(r:Ac (λb=>N<=b) w0 w) (F:N<=w.heap.size) (f:gP w0 size u m news) (x:∀j n c,u= .slice (some j) n c->j.block<N)
  (C:P.underlying t=some (.slice e)) (D:P.info? e=some i) (G:i.zero=some z) (h:i.size=size) (y:i.bytes=bytes) (A:z.cells.size=size) (B:0<size) (H:∀u∈news,u.oneCell'=true)
  (I:m<=maxLen) (d:m*bytes<=140737488355328):
  ∃s w',(Builtin.append_ #[t,t] ty #[.slice none 0 0,u]).run P w= .ok s w'/\Sl (λb=>w.heap.size<=b) w' e size s m news/\Ac (λb=>w.heap.size<=b) w w'/\Ac (λb=>N<=b) w0 w':=by
 have a:=f.kept r (λj n c J E=>by have:=x j n c J;omega);rcases a.2 with⟨rfl,rfl⟩|⟨j,c,rfl,K⟩
 ·have E:news=[]:=In (by simpa using f.1);subst E;exact⟨_,_,run_append_owned_none (P:=P) (w:=w) 0 t ty e i size C D (.slice none 0 0) 0 [] (Cl _ _ _ _),Sl.hQ _ _ _ _,Ac.refl _ _,r⟩
 ·obtain⟨s,w',L,M,o,_,p⟩:=run_append_own_at (P:=P) w 0 t ty e i z size bytes C D G h y A B (.slice none 0 0) 0 [] (Cl _ _ _ _) j m c news a.1 K H (by omega) (by rw[DH];exact d) (AQ _);have q:Ac (λb=>w.heap.size<=b) w w':=⟨o.os,o.tape,o.output,o.size,λk r=>o.block k (by omega) (by simp[Value.ownBlock])⟩;refine⟨s,w',L,⟨by simpa using M,λg l=>?_⟩,q,r.trans (q.mono (λb x=>Ad F x))⟩;rcases p with p|p
  ·rw[p]at l;cases l
  ·rw[p]at l;injection l with l;exact l▸Ab _
theorem Lp {P:Program}{k:Array Oper}{o:Oper}{a:Act}{K:Act->World->Prop}{Q:Exit->Act->World->Prop}{E:Prop}{w0:World}{N:Nat}{i:TypeInfo}{z:Value}{bytes:Nat}{t:TypeId}
  (B:Ac (λb=>N<=b) w0 w) (F:N<=w0.heap.size) (l:gP w0 size u m news) (G:∀C n c,u= .slice (some C) n c->C.block<N)
  (H:P.underlying t=some (.slice e)) (I:P.info? e=some i) (J:i.zero=some z) (f:i.size=size) (p:i.bytes=bytes) (q:z.cells.size=size) (r:0<size) (L:∀u∈news,u.oneCell'=true)
  (y:m<=maxLen) (d:m*bytes<=140737488355328) (A:o.guard=none) (s x:Operand) (M:o.op= .call {callee:=.builtin .append,args:=#[s,x],argTypes:=#[t,t]}) (O:a.eval s= .slice none 0 0) (R:a.eval x=u)
  (T:∀h j w',Sl (λb=>w.heap.size<=b) w' e size (.slice h m j) m news->Ac (λb=>w.heap.size<=b) w w'->Ac (λb=>N<=b) w0 w'->K (a.put o.dst (.slice h m j)) w'):if Region.wanted o (yielded k a.tmps)=true then Oper.wp P o a w K Q else E:=by
 have U:Region.wanted o (yielded k a.tmps)=true:=by simp[Region.wanted,A]
 rw[Al U];obtain⟨V,w',W,D,X,Y⟩:=oB (P:=P) (ty:=o.type) B (Ad F B.size) l G H I J f p q r L y d;unfold Oper.wp execOp;simp only[M,resolve,invoke,builtin,GL,Ue,GM,Tl,BR,Pg,O,R,W];obtain⟨h,j,rfl⟩:∃h j,V= .slice h m j:=by
  rcases D.1.2 with⟨e1,Z⟩|⟨g,aD,ba,e1,_⟩
  ·exact⟨none,0,by rw[e1,Z]⟩
  ·exact⟨_,_,e1⟩
 exact T h j w' D X Y
end
structure JI (B:Nat) (ea:Nat->Addr) (w:World):Prop where
 obj:∀k,1<=k->k<=12->∃(cs:Array Value) (t:TypeId),w.heap[(ea k).block]?=some (.cells cs t (0,0))
 lt:∀k,1<=k->k<=12->(ea k).block<B
 inj:∀j k,1<=j->j<=12->1<=k->k<=12->ea j=ea k->j=k
 qz:w.cell? ⟨2,0,none⟩=some (.iface 184 (.agg #[.pointer (some ⟨21,51,none⟩)]))
 p8:2<B
theorem JI.kept {B:Nat}{ea:Nat->Addr}{w w':World}(h:JI B ea w) {S:Nat->Prop}(c:Ac S w w') (d:∀b,S b->B<=b):JI B ea w':=by
 refine⟨λk e f=>?_,h.lt,h.inj,?_,h.p8⟩
 ·obtain⟨cs,t,g⟩:=h.obj k e f;exact⟨cs,t,(c.block _ (λa=>by have:=d _ a;have:=h.lt k e f;omega)).trans g⟩
 ·exact(c.cell (p:=⟨2,0,none⟩) (λa=>by have:=d _ a;have:=h.p8;simp only at*;omega)).trans h.qz
def Lg (ea:Nat->Addr) (k:Nat):List Value:=[Dq ea k,.int .i64 k]
def Kb:List Nat:=[1,2,3,4,5,6,7,8,9,10,11,12]
section
variable {B:Nat}{ea:Nat->Addr}{w:World}
theorem aH (a:UF B ea w):Calls prog 44 #[] w λe w'=>
  e= .returned (.slice (some ⟨w.heap.size,0,none⟩) 12 12)/\w'=w.alloc (.cells (Kb.flatMap (Lg ea)).toArray 121):=by
 have e1:w.cell? ⟨0,0,none⟩=some (Dq ea 1):=a.err 1 (by omega) (by omega);have g:w.cell? ⟨7,0,none⟩=some (Dq ea 2):=a.err 2 (by omega) (by omega);have h:w.cell? ⟨8,0,none⟩=some (Dq ea 3):=a.err 3 (by omega) (by omega);have i:w.cell? ⟨4,0,none⟩=some (Dq ea 4):=a.err 4 (by omega) (by omega);have j:w.cell? ⟨9,0,none⟩=some (Dq ea 5):=a.err 5 (by omega) (by omega);have k:w.cell? ⟨10,0,none⟩=some (Dq ea 6):=a.err 6 (by omega) (by omega);have l:w.cell? ⟨11,0,none⟩=some (Dq ea 7):=a.err 7 (by omega) (by omega);have m:w.cell? ⟨6,0,none⟩=some (Dq ea 8):=a.err 8 (by omega) (by omega);have n:w.cell? ⟨5,0,none⟩=some (Dq ea 9):=a.err 9 (by omega) (by omega);have c:w.cell? ⟨1,0,none⟩=some (Dq ea 10):=a.err 10 (by omega) (by omega);have d:w.cell? ⟨12,0,none⟩=some (Dq ea 11):=a.err 11 (by omega) (by omega);have f:w.cell? ⟨13,0,none⟩=some (Dq ea 12):=a.err 12 (by omega) (by omega);clear a;have b:Kb.flatMap (Lg ea)=[Dq ea 1,.int .i64 1,Dq ea 2,.int .i64 2,Dq ea 3,.int .i64 3,Dq ea 4,.int .i64 4,Dq ea 5,.int .i64 5,Dq ea 6,.int .i64 6,Dq ea 7,.int .i64 7,Dq ea 8,.int .i64 8,Dq ea 9,.int .i64 9,Dq ea 10,.int .i64 10,Dq ea 11,.int .i64 11,Dq ea 12,.int .i64 12]:=rfl;rw[b];clear b;unfold Dq at*;go_enter func44,ntmps44;go_wp2;go_ret;exact⟨rfl,rfl⟩
theorem uD (k:Nat) (a:k<12):Kb[k]?=some (k+1):=by
 match k,a with
 |0,_|1,_|2,_|3,_|4,_|5,_|6,_|7,_|8,_|9,_|10,_|11,_=>rfl
def rS (B:Nat) (ea:Nat->Addr) (w:World) (v:Value) (k:Nat):Prop:=
 ∀(j:Nat) (W:World),1<=j->j<=12->Ac (λb=>w.heap.size<=b) w W->Calls prog 45 #[v,Dq ea j] W λe w'=>e= .returned (.bool (j==k))/\w'=W
theorem kU (d:JI B ea w) (l:B<=w.heap.size) {k:Nat}(f:1<=k) (g:k<=12):rS B ea w (Dq ea k) k:=by
 intro j W h i m;have a:=d.kept m (λb c=>Ad l c);by_cases e:j=k
 ·subst e;rw[mc];exact uU (ea j) W
 ·have e':(j==k)=false:=by simpa using e
  rw[e'];obtain⟨n,o,p⟩:=a.obj k f g;obtain⟨q,r,c⟩:=a.obj j h i;exact pz (ea k) (ea j) n q o r W (λs=>e (d.inj k j f g h i s).symm) p c
theorem aV (f:JI B ea w) (o:B<=w.heap.size) {k gf:Nat}{x:Value}(g:1<=k) (h:k<=12) (i:AE w gf 59 [Dq ea k,x]):rS B ea w (.iface 54 (.pointer (some ⟨gf,0,none⟩))) k:=by
 intro j W l m n;have a:=f.kept n (λb d=>Ad o d);have c:=i.kept n (by have:=i.lt;omega);by_cases e:j=k
 ·subst e;rw[mc];exact Wx gf x (ea j) W c
 ·have e':(j==k)=false:=by simpa using e
  rw[e'];obtain⟨p,q,r⟩:=a.obj k g h;obtain⟨s,t,d⟩:=a.obj j l m;exact Vr gf x (ea k) (ea j) p s q t W c (λu=>e (f.inj k j g h l m u).symm) r d
def rQ (w:World) (k:Nat) (e:Ending) (w':World):Prop:=e= .returned (.int .i64 k)/\Ac (λb=>w.heap.size<=b) w w'
theorem Vh (A:UF B ea w) {v:Value}{k:Nat}(W:1<=k) (X:k<=12) (C:rS B ea w v k):
  Calls prog 21 #[v] w (rQ w k):=by
 have D:=aH A;have d:AE (w.alloc (.cells (Kb.flatMap (Lg ea)).toArray 121)) w.heap.size 121 (Kb.flatMap (Lg ea)):=AE.new w _ _;have m:=Sl.fc (S:=λ_=>True) d trivial (size:=2) (n:=12) rfl (by unfold maxLen;omega);have o:Ac (λb=>w.heap.size<=b) w (w.alloc (.cells (Kb.flatMap (Lg ea)).toArray 121)):=(Ac.refl _ w).alloc (Ab _) _;have p:(w.alloc (.cells (Kb.flatMap (Lg ea)).toArray 121)).heap.size=w.heap.size+1:=by simp
 generalize t:w.alloc (.cells (Kb.flatMap (Lg ea)).toArray 121)=w1 at*;obtain⟨J,K,L,M,F⟩:=zq5 D m o C p;clear D m o C A d t p;go_enter func21,ntmps21;go_wp2_with fail;refine J.out.mono ?_;rintro e w' ⟨rfl,rfl⟩;go_wp2_with fail
 go_loopg [7] 12 (λN O wr=>∃i:Nat,i<k/\12-i<=N/\O= .int .i64 i/\Ac (λb=>w'.heap.size<=b) w' wr)
 case atStart=>exact⟨0,by omega,by omega,rfl,Ac.refl _ _⟩
 case round=>
  obtain⟨i,P,Q,rfl,a⟩:=hrel;have r:i<12:=by omega
  have u:=K.out.later a (λb G=>G);have x:=uD i r;have H:=u.at_ (l:=Kb) (f:=Lg ea) (λ_=>rfl) x (j:=0) (by omega);have I:=u.at_ (l:=Kb) (f:=Lg ea) (λ_=>rfl) x (j:=1) (by omega);have R:wr.cell? ⟨w.heap.size,i*2,none⟩=some (.iface 307 (.pointer (some (ea (i+1))))):=H;have T:wr.cell? ⟨w.heap.size,i*2+1,none⟩=some (.int .i64 ((i:Int)+1)):=I;have U:w.heap.size<wr.heap.size:=by have:=F.out;have:=a.size;omega
  have h:Ac (λb=>w.heap.size<=b) w (wr.alloc (.cells #[.iface 307 (.pointer (some (ea (i+1)))),.int .i64 ((i:Int)+1)] 121)):=(L.out.trans (a.mono (λb G=>by have:=F.out;omega))).alloc (by omega) _;have c:=M.out (i+1) _ (by omega) (by omega) h;have g:Ac (λb=>w'.heap.size<=b) w' (wr.alloc (.cells #[.iface 307 (.pointer (some (ea (i+1)))),.int .i64 ((i:Int)+1)] 121)):=a.alloc a.size _;obtain⟨s,y,z⟩:=zq3 c g h;clear c a u x H I g h;have q:¬w.heap.size=wr.heap.size:=by omega
  unfold Dq at s;by_cases e:i+1=k
  ·have e1:(i+1==k)=true:=by simpa using e
   rw[e1]at s;have E:=Aa e;clear e1 e;go_wp2_with (go_at_call 45;((with_reducible refine s.out.mono ?_);rintro e V ⟨rfl,rfl⟩));go_ret;exact⟨by rw[←E.out];go_num,z.out⟩
  ·have e1:(i+1==k)=false:=by simpa using e
   rw[e1]at s;have E:=Aa e;clear e1 e;go_wp2_with (go_at_call 45;((with_reducible refine s.out.mono ?_);rintro e V ⟨rfl,rfl⟩));go_roundg (12-(i+1))
   case measure=>omega
   case rel=>exact⟨i+1,by have:=E.out;omega,by omega,by go_num,y.out⟩
end
end Go.Proofs.YtepoejiigmhlbaaGreatDoor.Ev
namespace Go.Proofs.YtepoejiigmhlbaaGreatDoor.Ev
open _root_.Go.Proofs.Tryz
def EOk (e:Nat):Prop:=1<=e/\e<=12
def Qa (st:PS):Prop:=∀y,st.bC=some y->EOk y.1
def SK {α:Type} (o:AO α):Prop:=
 match o with
 | .ok _ st=>Qa st
 | .bad e _=>EOk e
section
variable {α β:Type}{s:Ah}{st:PS}
theorem SK.bind {x:AO α}{f:α->PS->AO β}(h:SK x) (b:∀a st,Qa st->SK (f a st)):SK (x.bind f):=by
 cases x with
 |ok a st=>exact b a st h
 |bad e p=>exact h
theorem SK.map {x:AO α}{f:α->β}(h:SK x):SK (x.map f):=by
 cases x with
 |ok a st=>exact h
 |bad e p=>exact h
theorem Qa.next (h:Qa st):Qa (next s st):=h
theorem Qa.note {e pos:Nat}(h:Qa st) (c:EOk e):Qa (note e pos st):=by
 intro y a;unfold Ev.note at a;cases b:st.bC with
 |none=>
  rw[b]at a;simp only[Cm]at a;subst a;exact c
 |some z=>
  rw[b]at a;exact h y a
theorem MB {k:Ah}(h:Qa st):SK (want s k st):=by
 unfold want;split
 ·exact h
 ·exact(⟨by decide,by decide⟩:EOk D5)
theorem od {k:Ah}(h:Qa st):Qa (take s k st).2:=by unfold take;split<;>exact h
theorem Rp {a b:Int}(h:Qa st):SK (number s a b st):=by
 unfold number;refine(MB h).bind λt st h=>?_;show Qa _;split
 ·exact h.note ⟨by decide,by decide⟩
 ·exact h
theorem JV {v:Bool}(h:Qa st):SK (name s v st):=by
 unfold name;refine(MB h).bind λt st h=>?_;show Qa _;unfold Cv;split
 ·exact h.note ⟨by decide,by decide⟩
 ·split
  ·exact h.note ⟨by decide,by decide⟩
  ·exact h
theorem ip (h:Qa st):SK (value s st):=by
 unfold value;split
 ·exact(Rp h).map
 ·split
  ·exact(JV h.next).map
  ·split
   ·exact h
   ·exact(JV h).map
theorem fM (h:Qa st):SK (ET s st):=by
 unfold ET;split
 ·exact(JV h.next).map
 ·split
  ·exact(JV h.next).map
  ·split
   ·exact(JV h.next).map
   ·exact(ip h).bind λa st h=>(MB h).bind λ_ st h=>(ip h).map
theorem fD:EOk D5:=⟨by decide,by decide⟩
theorem eDp:EOk Sa:=⟨by decide,by decide⟩
theorem fK:∀(n:Nat) {st:PS},Qa st->SK (cond s n st)
 |0,st,h=>fD
 |n+1,st,h=>by
  unfold cond;split
  ·exact(fK n h.next).map
  ·exact fM h
theorem OF {x:D0}(h:Qa st):SK ((want s AN st).bind λ_ st=>AO.ok (Az.bG x .nil) st):=(MB h).bind λ_ _ h=>h
theorem ja:∀(n:Nat),(∀{st:PS},Qa st->SK (block s n st))/\(∀{st:PS},Qa st->SK (Fw s n st))/\(∀{st:PS},Qa st->SK (stmt s n st))
 |0=>⟨λ_=>by unfold block;exact fD,λ_=>by unfold Fw;exact fD,λ_=>by unfold stmt;exact fD⟩
 |n+1=>by
  obtain⟨a,d,y⟩:=ja n;refine⟨λ{st} h=>?_,λ{st} h=>?_,λ{st} h=>?_⟩
  ·unfold block;split
   ·exact eDp
   ·refine(MB h).bind λ_ st h=>?_;refine SK.bind (d (st:={st with depth:=st.depth+1}) h) λb st h=>?_;exact h
  ·unfold Fw;split
   ·exact h
   ·exact(y h).bind λx st h=>(d h).map
  ·rw[stmt];by_cases f:st.t.kind=Kx
   ·rw[Al f];exact(JV h.next).bind λq st h=>OF (od h)
   rw[Ai f];by_cases g:st.t.kind=Ep
   ·rw[Al g];exact(JV h.next).bind λq st h=>OF h
   rw[Ai g];by_cases i:st.t.kind=Ig
   ·rw[Al i];exact(JV h.next).bind λq st h=>OF h
   rw[Ai i];by_cases j:st.t.kind=Do
   ·rw[Al j];exact(JV h.next).bind λq st h=>(JV h).bind λp st h=>OF (od h)
   rw[Ai j];by_cases l:st.t.kind=Mb
   ·rw[Al l];exact(JV h.next).bind λq st h=>OF h
   rw[Ai l];by_cases m:st.t.kind=Mc
   ·rw[Al m];exact(JV h.next).bind λq st h=>OF h
   rw[Ai m];by_cases o:st.t.kind=IW
   ·rw[Al o];exact OF h.next
   rw[Ai o];by_cases r:st.t.kind=IX
   ·rw[Al r];exact OF h.next
   rw[Ai r];by_cases u:st.t.kind=Ja
   ·rw[Al u];refine(fK _ h.next).bind λc st h=>(a h).bind λt st h=>?_;split
    ·exact(a h.next).bind λe st h=>h
    ·exact h
   rw[Ai u];by_cases v:st.t.kind=Bf
   ·rw[Al v];by_cases w:st.loops=2
    ·rw[Al w];exact eDp
    rw[Ai w];refine(Rp h.next).bind λk st h=>(MB h).bind λ_ st h=>(fK _ h).bind λc st h=>?_;exact SK.bind (a (st:={st with loops:=st.loops+1}) h) λb st h=>h
   rw[Ai v];exact fD
theorem zU3 (h:Qa st):SK (decl s st):=by
 unfold decl;simp only;split
 ·have a:Qa (if(next s st).bp then note CW st.t.pos (next s st)else next s st):=by
   split
   ·exact h.next.note ⟨by decide,by decide⟩
   ·exact h.next
  refine SK.bind (Rp (st:={(if(next s st).bp then note CW st.t.pos (next s st)else next s st)with bp:=true}) a) λn st h=>?_;exact SK.bind (MB (st:={st with aD:=n}) h) λ_ st h=>h
 ·refine(MB h.next).bind λn st h=>?_;have a:Qa (Bh n st):=by
   have b:Qa (if 0<=find st.decls n.text then note CW n.pos st else st):=by
    split
    ·exact h.note ⟨by decide,by decide⟩
    ·exact h
   show Qa (if(if 0<=find st.decls n.text then note CW n.pos st else st).decls.length=8 then note N8 n.pos (if 0<=find st.decls n.text then note CW n.pos st else st)else(if 0<=find st.decls n.text then note CW n.pos st else st));generalize (if 0<=find st.decls n.text then note CW n.pos st else st)=c at b ⊢;by_cases d:c.decls.length=8
   ·rw[Al d];exact b.note ⟨by decide,by decide⟩
   ·rw[Ai d];exact b
  exact(Rp a).bind λm st h=>(MB h).bind λ_ st h=>h
theorem zC {n:Nat}(h:Qa st):SK (GG s n st):=by
 unfold GG;refine SK.bind ?_ λk st h=>((ja n).1 h).bind λb st h=>?_
 ·unfold CP;simp only;refine SK.bind ?_ λk st h=>?_
  ·split
   ·exact h
   ·exact JV h.next
  ·show Qa _;split
   ·exact h.note ⟨by decide,by decide⟩
   ·exact h
 ·show Qa _;split<;>exact h
theorem i8:∀(n:Nat) {st:PS},Qa st->SK (DC s n st)
 |0,st,h=>fD
 |n+1,st,h=>by
  unfold DC;split
  ·exact(zU3 h).bind λ_ st h=>i8 n h
  ·exact h
theorem iu {m:Nat}:∀(n:Nat) {st:PS},Qa st->SK (Eb s m n st)
 |0,st,h=>fD
 |n+1,st,h=>by
  unfold Eb;split
  ·exact(zC h).bind λ_ st h=>iu n h
  ·exact h
theorem kc:SK (Fh s):=by unfold Fh;refine(i8 _ (λy a=>by cases a)).bind λ_ st h=>(iu _ h).bind λ_ st h=>MB h
theorem ax {k pos:Nat}(h:read s= .error (k,pos)):1<=k/\k<=12:=by
 unfold read at h;split at h
 ·injection h with h;injection h with b f;subst b;exact⟨by decide,by decide⟩
 ·have c:=kc (s:=s);cases g:Fh s with
  |bad e p=>
   rw[g]at h c;injection h with h;injection h with b f;subst b;exact c
  |ok a st=>
   rw[g]at h c;simp only at h;cases d:st.bC with
   |some x=>
    rw[d]at h;simp only at h;injection h with h;have:=c x d;rw[h]at this;exact this
   |none=>
    rw[d]at h;simp only at h;split at h
    ·injection h with h;injection h with b f;subst b;exact⟨by decide,by decide⟩
    ·cases h
end
theorem JZ (k:C3) {c:Nat}{n:Int}:Gk.count c n∉Ar k:=by
 intro h;unfold Ar at h;rcases CC.1 h with h|h
 ·cases d:k.k with
  |less a b=>
   rw[d]at h;cases a<;>cases b<;>simp[Jz,Gi]at h
  |_=>rw[d]at h;simp[Jz]at h
 ·split at h<;>simp at h
theorem Gh {l:List Bi}:∀(b:Az) (c o:Nat),D9 l b->∀(a:Nat) (n:Int),Gk.count a n∈BO c o b->0<=n/\n<=50
 | .nil,_,_,_,_,_,h=>by simp[BO]at h
 | .bG p r,c,o,d,a,n,h=>by
  simp only[BO,A3]at h;rcases h with h|h
  ·cases h
  ·exact Gh r _ _ d.2 a n h
 | .ite k t f e r,c,o,d,a,n,h=>by
  obtain⟨_,w1,g,w3⟩:=d;simp only[BO]at h;split at h
  ·simp only[CC,A3]at h;rcases h with h|h|h|h|h|h
   ·exact absurd h (JZ k)
   ·cases h
   ·exact Gh t _ _ w1 a n h
   ·cases h
   ·exact Gh e _ _ g a n h
   ·exact Gh r _ _ w3 a n h
  ·simp only[CC,A3]at h;rcases h with h|h|h|h
   ·exact absurd h (JZ k)
   ·cases h
   ·exact Gh t _ _ w1 a n h
   ·exact Gh r _ _ w3 a n h
 | .rep m k b r,c,o,d,a,n,h=>by
  obtain⟨_,w1,g,w3⟩:=d;simp only[BO,CC,A3]at h;rcases h with h|h|h|h|h|h|h
  ·injection h with _ h;subst h;omega
  ·cases h
  ·exact absurd h (JZ k)
  ·cases h
  ·exact Gh b _ _ w1 a n h
  ·cases h
  ·exact Gh r _ _ g a n h
theorem dV {l:List Bi}{b:Az}{c:Nat}(h:D9 l b):∀(d:Nat) (n:Int),Gk.count d n∈BO c 0 b++[.fin]->0<=n/\n<=50:=by
 intro d n a;rcases CC.1 a with a|a
 ·exact Gh b c 0 h d n a
 ·simp at a
end Go.Proofs.YtepoejiigmhlbaaGreatDoor.Ev
namespace Go.Proofs.YtepoejiigmhlbaaGreatDoor.Ev
open _root_.Go.Proofs.Tryz
open Go Go.RowKit
theorem GA (x:Value) (n:Nat):madeCells #[x] n=(List.replicate n x).toArray:=by
 apply Array.toList_inj.1;apply Fe;intro i;unfold madeCells;simp only[Array.toList_map,Array.toList_range,At];by_cases a:i<n
 ·rw[Zd a];simp[BK,a,Nat.mod_one]
 ·rw[Bl (by simp;omega),Bl (by simp;omega)];rfl
theorem Cq.first {B:Nat}{w0:World}{f gp gs n d o:Nat}{q i j:Value}{r:Nat->Prop}{A:Am}{p:Ax}{key:Int}{s:St}(l:tD B w0 f gp q i (.map (some o)) d p) (c:yT B w0 gs n j r A s.vars) (t:B<=w0.heap.size) (u:d<=490000):
  Cq B ((w0.alloc (.cells (List.replicate d (Value.int .i64 0)).toArray 3)).alloc (.cells #[.pointer (some ⟨f,0,none⟩),.pointer (some ⟨gs,0,none⟩),.int .u64 key,.slice none 0 0,.bool false,.slice (some ⟨w0.heap.size,0,none⟩) d d,.slice none 0 0] 153))
   ⟨w0.heap.size+1,f,gp,gs,n,q,i,.map (some o),d,.slice none 0 0,.slice (some ⟨w0.heap.size,0,none⟩) d d,.slice none 0 0,j⟩ r p key A ⟨0,[],false,List.replicate d 0,⟨s,[]⟩⟩:=by
 have k:Ac (λb=>w0.heap.size<=b) w0 ((w0.alloc (.cells (List.replicate d (Value.int .i64 0)).toArray 3)).alloc (.cells #[.pointer (some ⟨f,0,none⟩),.pointer (some ⟨gs,0,none⟩),.int .u64 key,.slice none 0 0,.bool false,.slice (some ⟨w0.heap.size,0,none⟩) d d,.slice none 0 0] 153)):=
  ((Ac.refl _ w0).alloc (Ab _) _).alloc (by simp) _
 obtain⟨v,w,x,y,z⟩:=c.ar;have C:Sl (λb=>B<=b) (w0.alloc (.cells (List.replicate d (Value.int .i64 0)).toArray 3)) 3 1 (.slice (some ⟨w0.heap.size,0,none⟩) d d) d (List.replicate d (Value.int .i64 0)):=
  Sl.fc (AE.new w0 _ _) t (by simp) (by unfold maxLen;omega)
 have e:(List.replicate d (0:Int)).map Jv=List.replicate d (Value.int .i64 0):=by rw[PQ];rfl
 have D:(List.replicate d (0:Int)).length=d:=CN;refine⟨l.kept k (λb a=>Ad t a),?_,c.bg.kept k (by have:=c.bg.lt;omega),⟨Cl _ _ _ _,λg m=>by cases m⟩,?_,⟨Cl _ _ _ _,λg m=>by cases m⟩,
  c.vars.kept k (λb a=>by have:=c.vars.lt a;omega),⟨v,w,x,y,(z.shrink.kept k (λb a=>by have:=a.2;omega)).mono (λb a=>a.1)⟩,?_,c.mZ,λb a=>⟨(c.sa b a).1,An (c.sa b a).2 k.size⟩,λa=>?_,c.ss,(λb a=>by cases a),λb a E=>?_,(λb a=>by cases a),c.s4,(λb a=>by cases a),(λb a=>by cases a),λb a F=>?_⟩
 ·have h:=AE.new (w0.alloc (.cells (List.replicate d (Value.int .i64 0)).toArray 3)) 153 [.pointer (some ⟨f,0,none⟩),.pointer (some ⟨gs,0,none⟩),.int .u64 key,.slice none 0 0,.bool false,.slice (some ⟨w0.heap.size,0,none⟩) d d,.slice none 0 0];simpa using h
 ·show Sl _ _ _ 1 _ (List.replicate d (0:Int)).length ((List.replicate d (0:Int)).map Jv);rw[e,D];exact C.alloc _
 ·show B<=w0.heap.size+1;omega
 ·have:=(c.sa _ a).2;simp only at this;omega
 ·injection a with a;simp only at a;subst a;have:=(c.sa _ E).2;omega
 ·injection a with a;simp only at a;subst a;have:=c.vars.lt F;omega
end Go.Proofs.YtepoejiigmhlbaaGreatDoor.Ev
