/- Lemmas for a law's walk. Conditions: none. -/
import Derived.Test.YtodkkholbjeioaaGreatDoorZu07
import Derived.Test.YtodkkholbjeioaaGreatDoorZu11
import Derived.Test.YtodkkholbjeioaaGreatDoorZu12
import Derived.Test.YtodkkholbjeioaaGreatDoorZu13
set_option linter.all false
set_option maxRecDepth 100000
set_option maxHeartbeats 8000000
namespace Go.Proofs.YtodkkholbjeioaaGreatDoor.Ev
open _root_.Go.Proofs.Tryz
open Go Go.RowKit
section
variable {B:Nat}{ea:Nat->Addr}{w:World}{g gp bm:Nat}{vd wp:Value}{s:Ah}{st:PS}
theorem rS (h:DR B ea w g gp bm vd wp s st) (c:st.Ok s) (a:isDecl st.t.kind=true) (b:st.decls.length<=900):
  Calls prog 73 #[.pointer (some ⟨g,0,none⟩)] w λe w'=>JZ B ea w g gp bm s (decl s st) e w':=by
 simp only[isDecl,tG,Qb]at a;rcases a with((a|a)|a)|a
 ·exact gA h c a b
 ·exact gB h c a b
 ·exact rQ h c a b
 ·exact my h c a
end
@[go_sem] theorem Aj4 (v:Value) (w:World):(Instr.typeAssert (.iface 125 v) 20 125 true).run prog w= .ok (.tuple #[v,.bool true]) w:=by kernel_rfl
theorem dc (P Q:Nat) (gf:Nat) (a:List PanicEntry) (w:World) (k:w.cell? ⟨P,0,none⟩=some (.pointer none)) (b:w.frozen? ⟨P,0,none⟩=false) (l:w.cell? ⟨Q,0,none⟩=some .nilIface) (c:w.frozen? ⟨Q,0,none⟩=false) (d:¬P=Q) (f:¬Q=P):
  CallsD prog 71 #[.pointer (some ⟨P,0,none⟩),.pointer (some ⟨Q,0,none⟩)] (.panicking ({v:=.iface 125 (.pointer (some ⟨gf,0,none⟩)),recovered:=false}::a)) w λe g w'=>
   e= .returned (.tuple #[])/\g= .panicking ({v:=.iface 125 (.pointer (some ⟨gf,0,none⟩)),recovered:=true}::a)/\
    w'=(w.setCell ⟨P,0,none⟩ (.pointer none)).setCell ⟨Q,0,none⟩ (.iface 125 (.pointer (some ⟨gf,0,none⟩))):=by
 refine callsD_of_wpS func71 rfl λh cs i=>?_;have j:(#[Value.pointer (some ⟨P,0,none⟩),.pointer (some ⟨Q,0,none⟩)]:Array Value)++Array.replicate (Tryz.f71.ntmps-(#[Value.pointer (some ⟨P,0,none⟩),.pointer (some ⟨Q,0,none⟩)]:Array Value).size) undef=#[.pointer (some ⟨P,0,none⟩),.pointer (some ⟨Q,0,none⟩),undef,undef,undef,undef,undef,undef,undef,undef,undef,undef,undef]:=by kernel_rfl
 rw[j];apply wpS_seq;apply wpS_region;simp[wpOpsS,go_sem,recoverD,i,Exit.thenS];refine wpS_of_wp ?_;go_wp2;cases h;simp_all [bodyPostS,results,Tryz.results71]
theorem gG (P Q:Nat) (w:World):
  CallsD prog 71 #[.pointer (some ⟨P,0,none⟩),.pointer (some ⟨Q,0,none⟩)] .returning w λe a w'=>e= .returned (.tuple #[])/\a= .returning/\w'=w:=by
 refine callsD_of_wpS func71 rfl λb cs c=>?_;have d:(#[Value.pointer (some ⟨P,0,none⟩),.pointer (some ⟨Q,0,none⟩)]:Array Value)++Array.replicate (Tryz.f71.ntmps-(#[Value.pointer (some ⟨P,0,none⟩),.pointer (some ⟨Q,0,none⟩)]:Array Value).size) undef=#[.pointer (some ⟨P,0,none⟩),.pointer (some ⟨Q,0,none⟩),undef,undef,undef,undef,undef,undef,undef,undef,undef,undef,undef]:=by kernel_rfl
 rw[d];apply wpS_seq;apply wpS_region;simp[wpOpsS,go_sem,recoverD,c,Exit.thenS];refine wpS_of_wp ?_;go_wp2;cases b;simp_all [bodyPostS,results,Tryz.results71]
theorem RO {c:Array Value}{w:World}{P Q:Nat}{a b:Value}(d:c[2]?=some (.pointer (some ⟨P,0,none⟩))) (e:c[3]?=some (.pointer (some ⟨Q,0,none⟩)))
  (f:w.cell? ⟨P,0,none⟩=some a) (g:w.cell? ⟨Q,0,none⟩=some b):(results Tryz.f48 c).run prog w= .ok (.tuple #[a,b]) w:=by
 simp[results,Tryz.results48,go_sem,d,e,f,g]
theorem Jr {R:Ending->World->Prop}{c:Array Value}{w:World}{P Q gf:Nat}(m:c[2]?=some (.pointer (some ⟨P,0,none⟩))) (n:c[3]?=some (.pointer (some ⟨Q,0,none⟩)))
  (i:w.cell? ⟨P,0,none⟩=some (.pointer none)) (j:w.frozen? ⟨P,0,none⟩=false) (k:w.cell? ⟨Q,0,none⟩=some .nilIface) (l:w.frozen? ⟨Q,0,none⟩=false) (d:¬P=Q)
  (h:R (.returned (.tuple #[.pointer none,.iface 125 (.pointer (some ⟨gf,0,none⟩))])) ((w.setCell ⟨P,0,none⟩ (.pointer none)).setCell ⟨Q,0,none⟩ (.iface 125 (.pointer (some ⟨gf,0,none⟩))))):
  Leaves prog Tryz.f48 c R [{target:=.fn (.func 71) #[.pointer (some ⟨P,0,none⟩),.pointer (some ⟨Q,0,none⟩)],args:=#[]}]
   (.panicking [{v:=.iface 125 (.pointer (some ⟨gf,0,none⟩)),recovered:=false}]) w:=by
 have g:¬Q=P:=λe=>d e.symm;refine leaves_cons (f:=71) (args:=#[.pointer (some ⟨P,0,none⟩),.pointer (some ⟨Q,0,none⟩)]) (by simp) (by simp[go_sem]) ?_;refine(dc P Q gf [] w i j k l d g).mono ?_;rintro e p w' ⟨rfl,rfl,rfl⟩;have o:=RO (a:=.pointer none) (b:=.iface 125 (.pointer (some ⟨gf,0,none⟩))) (w:=(w.setCell ⟨P,0,none⟩ (.pointer none)).setCell ⟨Q,0,none⟩ (.iface 125 (.pointer (some ⟨gf,0,none⟩)))) m n (by simp[go_sem,i,k,d,g]) (by simp[go_sem,i,k,d,g]);exact⟨_,o,h⟩
theorem KN {R:Ending->World->Prop}{c:Array Value}{w:World}{P Q:Nat}{a b:Value}(d:c[2]?=some (.pointer (some ⟨P,0,none⟩))) (g:c[3]?=some (.pointer (some ⟨Q,0,none⟩)))
  (i:w.cell? ⟨P,0,none⟩=some a) (j:w.cell? ⟨Q,0,none⟩=some b) (h:R (.returned (.tuple #[a,b])) w):
  Leaves prog Tryz.f48 c R [{target:=.fn (.func 71) #[.pointer (some ⟨P,0,none⟩),.pointer (some ⟨Q,0,none⟩)],args:=#[]}] .returning w:=by
 refine leaves_cons (f:=71) (args:=#[.pointer (some ⟨P,0,none⟩),.pointer (some ⟨Q,0,none⟩)]) (by simp) (by simp[go_sem]) ?_;refine(gG P Q w).mono ?_;rintro e k w' ⟨rfl,rfl,rfl⟩;exact⟨_,RO d g i j,h⟩
def IT (ea:Nat->Addr) (w:World) (s:Ah) (e:Ending) (w':World):Prop:=
 Ac (λb=>w.heap.size<=b) w w'/\match read s with
  | .error (k,pos)=>∃gf,e= .returned (.tuple #[.pointer none,.iface 125 (.pointer (some ⟨gf,0,none⟩))])/\AF w' gf 129 [Ds ea k,.int .i64 pos]/\w.heap.size<=gf
  | .ok p=>∃gp a c,e= .returned (.tuple #[.pointer (some ⟨gp,0,none⟩),.nilIface])/\sF w.heap.size w' gp a c p
section
variable {B:Nat}{ea:Nat->Addr}{w:World}{s:Ah}
theorem kM (h:U6 B ea w) (i:700<s.length):
  Calls prog 48 #[vs s] w λe w'=>IT ea w s e w':=by
 have c:w.cell? ⟨0,0,none⟩=some (.iface 304 (.pointer (some (ea 1)))):=h.err 1 (by omega) (by omega);have j:0<w.heap.size:=An (h.lt 1 (by omega) (by omega)) h.size;have m:decide ((s.length:Int)>700)=true:=by simp;omega
 have d:read s= .error (rK,0):=by unfold read;rw[Al i]
 have k:∀(f:Fn) (first a:Array Value) (w:World),(Instr.makeFunc f first a).run prog w= .ok (.func f first a) w:=λ_ _ _ _=>rfl;have l:=Aa d;clear d h;unfold vs at*
 go_enter_defers func48,ntmps48
 go_wp2_with fail;go_region
 all_goals go_wp2
 all_goals
  refine⟨_,by simp[results,Tryz.results48,go_sem];rfl,?_⟩;unfold IT;rw[l.out];have b:=AF.new ((w.alloc (.cells #[.pointer none] 72)).alloc (.cells #[.iface 125 (.pointer (some ⟨w.heap.size+1+1,0,none⟩))] 96)) 129 [Ds ea 1,.int .i64 0];have g:((w.alloc (.cells #[.pointer none] 72)).alloc (.cells #[.iface 125 (.pointer (some ⟨w.heap.size+1+1,0,none⟩))] 96)).heap.size=w.heap.size+1+1:=by simp
  rw[g]at b;exact⟨((((Ac.refl _ w).alloc (Ab _) _).alloc (by simp) _).alloc (by rw[g];omega) _).drew,_,rfl,b.drew,by omega⟩
def Adg:PS:=⟨⟨[],[],0⟩,0,[],0,false,[],0,0,none⟩
theorem lj (s:Ah):next s Adg=start s:=rfl
abbrev EK (w:World):World:=(w.alloc (.cells #[.pointer none] 72)).alloc (.cells #[.nilIface] 96)
abbrev iM (w:World) (s:Ah):World:=(((EK w).alloc (.map #[] 0)).alloc (.cells #[.slice none 0 0,.int .i64 0,.map (some (w.heap.size+1+1))] 106)).alloc
 (.cells #[vs s,.int .i64 0,vs [],vs [],.int .i64 0,.pointer (some ⟨w.heap.size+1+1+1,0,none⟩),.bool false,.int .i64 0,.int .i64 0,.pointer none] 190)
theorem oV (h:U6 B ea w) (m:s.length<=700):DR (w.heap.size+1+1) ea (iM w s) (w.heap.size+1+1+1+1) (w.heap.size+1+1+1) (w.heap.size+1+1) (.slice none 0 0) (.pointer none) s Adg:=by
 have e1:(EK w).heap.size=w.heap.size+1+1:=by simp
 have d:((EK w).alloc (.map #[] 0)).heap.size=w.heap.size+1+1+1:=by simp
 have e:(((EK w).alloc (.map #[] 0)).alloc (.cells #[.slice none 0 0,.int .i64 0,.map (some (w.heap.size+1+1))] 106)).heap.size=w.heap.size+1+1+1+1:=by simp
 have n:Ac (λb=>w.heap.size<=b) w (iM w s):=(((((Ac.refl _ w).alloc (Ab _) _).alloc (by simp) _).alloc (by rw[e1];omega) _).alloc (by rw[d];omega) _).alloc (by rw[e];omega) _;have f:=h.kept n (λb a=>Ad h.size a);have g:=BR.new (EK w) .i64;have j:=AF.new ((EK w).alloc (.map #[] 0)) 106 [.slice none 0 0,.int .i64 0,.map (some (w.heap.size+1+1))];have l:=AF.new (((EK w).alloc (.map #[] 0)).alloc (.cells #[.slice none 0 0,.int .i64 0,.map (some (w.heap.size+1+1))] 106)) 190 [vs s,.int .i64 0,vs [],vs [],.int .i64 0,.pointer (some ⟨w.heap.size+1+1+1,0,none⟩),.bool false,.int .i64 0,.int .i64 0,.pointer none];rw[e1]at g;rw[d]at j;rw[e]at l;have c:w.heap.size+1+1<=(iM w s).heap.size:=by simp
 refine⟨⟨c,f.err,λk o p=>An (h.lt k o p) (Ad h.size (by omega)),f.kw,An h.pD (Ad h.size (by omega))⟩,l,j.alloc _,⟨Cn _ _ _ _,λb a=>by cases a⟩,⟨[],(g.alloc _).alloc _,rfl,λi x y q=>by simp at q⟩,rfl,by omega,by omega,by omega,AM _,m,AM _⟩
theorem RY {a b n:Int}{st st':PS}(e:number s a b st= .ok n st'):st'.decls=st.decls:=by
 unfold number at e;obtain⟨t,st1,e1,c⟩:=AD e;obtain⟨_,_,rfl⟩:=BH e1;injection c with _ c;subst c;split
 ·exact(J5 (s:=[]) Lt _ _).1
 ·rfl
theorem rR {st b:PS}{u:Unit}(a:decl s st= .ok u b):b.decls.length<=st.decls.length+1:=by
 by_cases i:st.t.kind=Cy
 ·unfold decl at a;simp only at a;rw[Al i]at a;obtain⟨n,st1,e1,f⟩:=AD a;obtain⟨t,c,g,d⟩:=AD f;injection d with _ d;subst d;obtain⟨_,_,rfl⟩:=BH g;have e:=RY e1;show st1.decls.length<=_;rw[e];show(if _ then _ else _:PS).decls.length<=_;split
  ·rw[(J5 (s:=[]) CY _ _).1];exact Cc _
  ·exact Cc _
 ·rw[decl_eq s st i]at a;obtain⟨n,st1,e1,f⟩:=AD a;obtain⟨m,c,g,d⟩:=AD f;obtain⟨t,j,k,h⟩:=AD d;injection h with _ h;subst h;obtain⟨_,_,rfl⟩:=BH k;obtain⟨_,_,rfl⟩:=BH e1;have e:=RY g;rw[(Kp _ _).1]at e;show(c.decls++[_]).length<=_;rw[e];simp[next]
structure sD (B:Nat) (ea:Nat->Addr) (g gp bm:Nat) (s:Ah) (w0:World) (st:PS) (w:World):Prop where
 rd:∃vd wp,DR B ea w g gp bm vd wp s st
 nP:na s st
 kept:Ac (λb=>B<=b) w0 w
theorem vC (w:World):(EK w).cell? ⟨w.heap.size,0,none⟩=some (.pointer none)/\(EK w).frozen? ⟨w.heap.size,0,none⟩=false/\(EK w).cell? ⟨w.heap.size+1,0,none⟩=some .nilIface/\(EK w).frozen? ⟨w.heap.size+1,0,none⟩=false:=by
 have r1:=(AF.new w 72 [.pointer none]).alloc (.cells #[.nilIface] 96);have a:=AF.new (w.alloc (.cells #[.pointer none] 72)) 96 [.nilIface];have e:(w.alloc (.cells #[.pointer none] 72)).heap.size=w.heap.size+1:=by simp
 rw[e]at a;exact⟨r1.cell 0,r1.frozen 0,a.cell 0,a.frozen 0⟩
theorem NV {w w1:World}(e:Ac (λb=>w.heap.size+1+1<=b) (EK w) w1):w1.cell? ⟨w.heap.size,0,none⟩=some (.pointer none)/\w1.frozen? ⟨w.heap.size,0,none⟩=false/\w1.cell? ⟨w.heap.size+1,0,none⟩=some .nilIface/\w1.frozen? ⟨w.heap.size+1,0,none⟩=false:=by
 obtain⟨a,b,c,d⟩:=vC w;have n1:¬(w.heap.size+1+1<=w.heap.size):=by omega
 have f:¬(w.heap.size+1+1<=w.heap.size+1):=by omega
 exact⟨(e.cell (p:=⟨w.heap.size,0,none⟩) n1).trans a,(e.frozen (p:=⟨w.heap.size,0,none⟩) n1).trans b,(e.cell (p:=⟨w.heap.size+1,0,none⟩) f).trans c,(e.frozen (p:=⟨w.heap.size+1,0,none⟩) f).trans d⟩
theorem PP {w w1:World}{a b:Value}(c:Ac (λb=>w.heap.size+1+1<=b) (EK w) w1):Ac (λb=>w.heap.size<=b) w ((w1.setCell ⟨w.heap.size,0,none⟩ a).setCell ⟨w.heap.size+1,0,none⟩ b):=by have d:Ac (λb=>w.heap.size<=b) w (EK w):=((Ac.refl _ w).alloc (Ab _) _).alloc (by simp) _;have e:Ac (λb=>w.heap.size<=b) w w1:=d.trans (c.mono (λb (f:w.heap.size+1+1<=b)=>by omega));exact(e.setCell (p:=⟨w.heap.size,0,none⟩) (Ab _) a).setCell (p:=⟨w.heap.size+1,0,none⟩) (Cc _) b
theorem TG {w w1 c:World}{gf k pos:Nat}(d:Ac (λb=>w.heap.size+1+1<=b) (EK w) w1) (hF:Ac (λb=>w.heap.size+1+1<=b) w1 c) (e:AF c gf 129 [Ds ea k,.int .i64 pos]) (g:w.heap.size+1+1<=gf) (f:read s= .error (k,pos)) (a b:Value):
  IT ea w s (.returned (.tuple #[.pointer none,.iface 125 (.pointer (some ⟨gf,0,none⟩))])) ((c.setCell ⟨w.heap.size,0,none⟩ a).setCell ⟨w.heap.size+1,0,none⟩ b):=by
 unfold IT;rw[f];exact⟨PP (d.trans hF),gf,rfl,(e.dK (by omega:gf≠w.heap.size) a).dK (by omega:gf≠w.heap.size+1) b,by omega⟩
theorem FT.mono {N N':Nat->Prop}{w:World}{c:Nat}{a:List (Int×Az)}(h:FT N w c a) (d:∀b,N b->N' b):FT N' w c a:=by obtain⟨M,e,f,j⟩:=h;refine⟨M,e,f,λi x y l m=>?_⟩;obtain⟨cs,⟨⟨n,o⟩,p⟩,q⟩:=j i x y l m;exact⟨cs,⟨⟨n,λg r=>d g (o g r)⟩,p⟩,A5.mono (λk _ t=>d k t) _ _ q⟩
theorem zW9 {w w3:World}{g gp h:Nat}{i l:Value}{c:PS}(m:Ac (λb=>w.heap.size+1+1<=b) (EK w) w3) (e:DR (w.heap.size+1+1) ea w3 g gp h i l s c) (n:read s= .ok ⟨c.decls,c.bI,c.rules⟩) (a b:Value):
  IT ea w s (.returned (.tuple #[.pointer (some ⟨gp,0,none⟩),.nilIface])) ((w3.setCell ⟨w.heap.size,0,none⟩ a).setCell ⟨w.heap.size+1,0,none⟩ b):=by
 unfold IT;rw[n];have k:Ac (λb=>b=w.heap.size\/b=w.heap.size+1) w3 ((w3.setCell ⟨w.heap.size,0,none⟩ a).setCell ⟨w.heap.size+1,0,none⟩ b):=((Ac.refl _ w3).setCell (p:=⟨w.heap.size,0,none⟩) (.inl rfl) a).setCell (p:=⟨w.heap.size+1,0,none⟩) (.inr rfl) b;have d:∀b,w.heap.size+1+1<=b->¬(b=w.heap.size\/b=w.heap.size+1):=λb f=>by omega
 refine⟨PP m,gp,h,i,rfl,e.bQ.kept k (d _ e.jo),?_,?_,Ad (by omega) e.jo,Ad (by omega) e.nD⟩
 ·have j:=e.decls.kept k (λb f=>d b (e.decls.2 b f).1);exact⟨j.1,λb f=>Ad (by omega) (j.2 b f).1⟩
 ·exact(e.rules.kept (k.block h (d _ e.nD)) (λb cs f _=>k.block b (d _ f.1))).mono (λb f=>Ad (by omega) f.1)
theorem fV {w w1 c:World}{gf k pos:Nat}(d:Ac (λb=>w.heap.size+1+1<=b) (EK w) w1) (hF:Ac (λb=>w.heap.size+1+1<=b) w1 c) (e:AF c gf 129 [Ds ea k,.int .i64 pos]) (g:w.heap.size+1+1<=gf) (f:read s= .error (k,pos)) (a b:Value):
  IT ea w s (.returned (.tuple #[.pointer none,.iface 125 (.pointer (some ⟨gf,0,none⟩))])) (((c.setCell ⟨w.heap.size,0,none⟩ a).setCell ⟨w.heap.size+1,0,none⟩ b).drew):=by
 unfold IT;rw[f];exact⟨(PP (d.trans hF)).drew,gf,rfl,((e.dK (by omega:gf≠w.heap.size) a).dK (by omega:gf≠w.heap.size+1) b).drew,by omega⟩
theorem pK {w w3:World}(c:Ac (λb=>w.heap.size+1+1<=b) (EK w) w3) (g:read s= .error (Qu,0)) (a b:Value):
  IT ea w s (.returned (.tuple #[.pointer none,.iface 125 (.pointer (some ⟨w3.heap.size,0,none⟩))])) ((((w3.setCell ⟨w.heap.size,0,none⟩ a).setCell ⟨w.heap.size+1,0,none⟩ b).alloc (.cells #[Ds ea Qu,.int .i64 0] 129)).drew):=by
 unfold IT;rw[g];have d:((w3.setCell ⟨w.heap.size,0,none⟩ a).setCell ⟨w.heap.size+1,0,none⟩ b).heap.size=w3.heap.size:=by simp
 have e:=AF.new ((w3.setCell ⟨w.heap.size,0,none⟩ a).setCell ⟨w.heap.size+1,0,none⟩ b) 129 [Ds ea Qu,.int .i64 0];rw[d]at e;have f:w.heap.size<=w3.heap.size:=Ad (by simp;omega) c.size;exact⟨((PP c).alloc (by rw[d];exact f) _).drew,w3.heap.size,rfl,e.drew,f⟩
theorem cP {st a:PS}{n:Nat}(e1:DF s 702 (start s)=DF s (n+1) st) (b:isDecl st.t.kind=true) (c:decl s st= .ok () a):DF s 702 (start s)=DF s n a:=by rw[e1,DF,Al b,c];rfl
theorem gu {st:PS}{n:Nat}(e1:DF s 702 (start s)=DF s (n+1) st) (a:¬isDecl st.t.kind=true):DF s 702 (start s)= .ok () st:=by rw[e1,DF,Ai a]
theorem aG {m:Nat}{a st b:PS}{n:Nat}(e1:Ee s m 702 a=Ee s m (n+1) st) (c:st.t.kind=T9) (d:GJ s m st= .ok () b):Ee s m 702 a=Ee s m n b:=by rw[e1,Ee,Al c,d];rfl
theorem eJ {m:Nat}{a st:PS}{n:Nat}(e1:Ee s m 702 a=Ee s m (n+1) st) (b:st.t.kind≠T9):Ee s m 702 a= .ok () st:=by rw[e1,Ee,Ai b]
theorem VF {a:PS}(b:DF s 702 (start s)= .ok () a):Fm s=(Ee s 1500 702 a).bind λ_ st=>want s Ek st:=by unfold Fm;rw[b];rfl
theorem aX (a:s.length<=700):read s=match Fm s with
  | .bad e p=>.error (e,p)
  | .ok _ st=>match st.bJ with
   |some x=>.error x
   |none=>if(Es st.rules).isNone then .error (Qu,0)else .ok ⟨st.decls,st.bI,st.rules⟩:=by
 unfold read;rw[Ai (by omega)];cases Fm s<;>rfl
theorem eL {a st:PS}{n k pos:Nat}(b:DF s 702 (start s)= .ok () a) (e1:Ee s 1500 702 a=Ee s 1500 (n+1) st) (c:st.t.kind=T9) (d:GJ s 1500 st= .bad k pos) (e:s.length<=700):read s= .error (k,pos):=by rw[aX e,VF b,e1,Ee,Al c,d];rfl
theorem vi {a st:PS}(b:DF s 702 (start s)= .ok () a) (e1:Ee s 1500 702 a= .ok () st) (c:s.length<=700):read s=match want s Ek st with
  | .bad e p=>.error (e,p)
  | .ok _ st=>match st.bJ with
   |some x=>.error x
   |none=>if(Es st.rules).isNone then .error (Qu,0)else .ok ⟨st.decls,st.bI,st.rules⟩:=by
 rw[aX c,VF b,e1];rfl
theorem gy {st:PS}{n k pos:Nat}(e1:DF s 702 (start s)=DF s (n+1) st) (a:isDecl st.t.kind=true) (b:decl s st= .bad k pos) (c:s.length<=700):read s= .error (k,pos):=by unfold read Fm;rw[Ai (by omega),e1];rw[DF,Al a,b];rfl
theorem kL (h:U6 B ea w) (hl:s.length<=700):
  Calls prog 48 #[vs s] w λe w'=>IT ea w s e w':=by
 have h1:decide ((s.length:Int)>700)=false:=by simp;omega
 have dW:∀(fn:Fn) (first R:Array Value) (w:World),(Instr.makeFunc fn first R).run prog w= .ok (.func fn first R) w:=λ_ _ _ _=>rfl;have dX:=@nF prog;have fc:∀w,(binOp .eql 147 (.slice none 0 0) (.slice none 0 0)).run prog w= .ok (.bool true) w:=λ_=>rfl;have fd:∀(a:Addr) (n c:Nat) w,(binOp .eql 147 (.slice (some a) n c) (.slice none 0 0)).run prog w= .ok (.bool false) w:=λ_ _ _ _=>rfl;have g:=oV (s:=s) h hl;have S:=Er g;rw[lj]at S;obtain⟨HS,HN,HE,HL⟩:=zq4 g S h hl;clear g S h;unfold iM EK vs at*
 go_enter_defers func48,ntmps48
 go_wp2_with fail;refine HN.out.mono ?_;rintro e w1 ⟨rfl,L,h1⟩;have bN:sD (w.heap.size+1+1) ea (w.heap.size+1+1+1+1) (w.heap.size+1+1+1) (w.heap.size+1+1) s (EK w) (start s) w1:=by
  refine⟨⟨_,_,h1⟩,Tn s HL.out,Ac.trans ?_ (L.mono ?_)⟩
  ·exact(((Ac.refl _ (EK w)).alloc (by simp) _).alloc (by simp) _).alloc (by simp) _
  ·rintro b (rfl|hb)
   ·omega
   ·have:=HS.out.env.size;omega
 have dG:=Aa bN;clear L h1 bN;go_wp2_with fail
 go_loopg [] 702 (λY wr=>∃st,sD (w.heap.size+1+1) ea (w.heap.size+1+1+1+1) (w.heap.size+1+1+1) (w.heap.size+1+1) s (EK w) st wr/\st.rules=[]/\st.decls.length+Y<=702/\left s st<Y/\DF s 702 (start s)=DF s Y st)
 case atStart=>exact⟨_,dG.out,rfl,Ab _,by unfold left start;simp;omega,rfl⟩
 case round=>
  obtain⟨st,T,bO,U,r,y⟩:=hrel;obtain⟨vd,wp,z⟩:=T.rd;obtain⟨_,_,c2,_⟩:=AZ z.row;obtain⟨k',dH⟩:∃x,gk=x+1:=⟨gk-1,by omega⟩;rw[dH]at U r y;obtain⟨dI,D,dJ,V,bP,W⟩:=zq6 z T bO U r y;clear z T bO U r y;unfold vs at*;by_cases j:isDecl st.t.kind=true
  ·have N:=j;simp only[isDecl,tG,Qb]at N;have M:=Aa j;clear j;rcases N with((G|G)|G)|G
   all_goals
    rw[G]at c2;clear G;go_wp2_with fail;refine(rS dI.out D.out.nP.ok M.out (by have:=V.out;omega)).mono ?_;rintro e w2 C;cases A:decl s st with
    |bad k pos=>
     rw[A]at C;obtain⟨gf,rfl,hF,l,m⟩:=C;have O:=gy (n:=k') W.out M.out A HL.out;have P:=NV (D.out.kept.trans hF);have F:=Aa (And.intro P (TG (D.out.kept) hF l m O (.pointer none) (.iface 125 (.pointer (some ⟨gf,0,none⟩)))));clear hF l m O P A;go_wp2;exact Jr rfl rfl F.out.1.1 F.out.1.2.1 F.out.1.2.2.1 F.out.1.2.2.2 (by omega) F.out.2
    |ok u X=>
     rw[A]at C;obtain⟨rfl,H,dK,dL,h2⟩:=C;obtain⟨m2,r2,l2⟩:=SJ D.out.nP M.out dJ.out A;have F:=Aa (And.intro (And.intro H h2) (And.intro A (And.intro m2 (And.intro r2 l2))));clear H h2 m2 r2 l2 A;go_wp2_with fail;go_roundg k'
     case measure=>omega
     case rel=>exact⟨X,⟨⟨_,_,F.out.1.2⟩,F.out.2.2.1,D.out.kept.trans F.out.1.1⟩,F.out.2.2.2.1,by have:=V.out;have:=rR F.out.2.1;omega,by have:=F.out.2.2.2.2;have:=bP.out;omega,cP W.out M.out F.out.2.1⟩
  ·have bT:=gu W.out j;have n1:(st.t.kind==EO)=false:=by rw[Rt];intro e;exact j (by simp only[isDecl,e,iJ])
   have n2:(st.t.kind==Gg)=false:=by rw[Rt];intro e;exact j (by simp only[isDecl,e,iJ,UN])
   have n3:(st.t.kind==Jy)=false:=by rw[Rt];intro e;exact j (by simp only[isDecl,e,iJ,UN])
   have n4:(st.t.kind==Cy)=false:=by rw[Rt];intro e;exact j (by simp only[isDecl,e,iJ,UN])
   have bU:=Aa bT;clear j bT;go_wp2_with fail
   go_loopg [] 702 (λY wr=>∃st',sD (w.heap.size+1+1) ea (w.heap.size+1+1+1+1) (w.heap.size+1+1+1) (w.heap.size+1+1) s (EK w) st' wr/\left s st'<Y/\Ee s 1500 702 st=Ee s 1500 Y st')
   case atStart=>exact⟨st,D.out,by have:=bP.out;have:=V.out;omega,rfl⟩
   case round=>
    obtain⟨st',T,r,y⟩:=hrel;obtain⟨fC,fD,z⟩:=T.rd;obtain⟨_,_,c2,_⟩:=AZ z.row;obtain⟨k1,L⟩:∃x,gk=x+1:=⟨gk-1,by omega⟩;rw[L]at r y;obtain⟨o,i,bV,I⟩:=zq4 z T r y;clear z T r y;unfold vs at*;by_cases G:st'.t.kind=T9
    ·have HK:=Aa G;rw[G]at c2;clear G;go_wp2_with fail;refine(ph o.out i.out.nP.ok i.out.nP.depth i.out.nP.loops HK.out (n:=1500) (by have:=HL.out;unfold left;omega)).mono ?_;rintro e w2 C;cases A:GJ s 1500 st' with
     |bad k pos=>
      rw[A]at C;obtain⟨gf,rfl,hF,l,m⟩:=C;have O:=eL bU.out I.out HK.out A HL.out;have P:=NV (i.out.kept.trans hF);have F:=Aa (And.intro P (TG (i.out.kept) hF l m O (.pointer none) (.iface 125 (.pointer (some ⟨gf,0,none⟩)))));clear hF l m O P A;go_wp2;exact Jr rfl rfl F.out.1.1 F.out.1.2.1 F.out.1.2.2.1 F.out.1.2.2.2 (by omega) F.out.2
     |ok u X=>
      rw[A]at C;obtain⟨rfl,H,dK,dL,h2⟩:=C;obtain⟨m2,l2,_⟩:=RM i.out.nP HK.out A;have F:=Aa (And.intro (And.intro H h2) (And.intro A (And.intro m2 l2)));clear H h2 m2 l2 A;go_wp2_with fail;go_roundg k1
      case measure=>omega
      case rel=>exact⟨X,⟨⟨_,_,F.out.1.2⟩,F.out.2.2.1,i.out.kept.trans F.out.1.1⟩,by have:=F.out.2.2.2;have:=bV.out;omega,aG I.out HK.out F.out.2.1⟩
    ·have bW:=eJ I.out G;have fF:(st'.t.kind==T9)=false:=by simpa using G
     have J:=vi bU.out bW HL.out;have hw:=Dd o.out Ek;obtain⟨bX,HW⟩:=zq2 J hw;clear G bW J hw;unfold vs at*;go_wp2_with fail;refine HW.out.mono ?_;rintro e w3 C;cases E:want s Ek st' with
     |bad k pos=>
      rw[E]at C;obtain⟨gf,rfl,hF,l,m⟩:=C;have O:read s= .error (k,pos):=by rw[bX.out,E]
      have P:=NV (i.out.kept.trans hF);have F:=Aa (And.intro P (TG (i.out.kept) hF l m O (.pointer none) (.iface 125 (.pointer (some ⟨gf,0,none⟩)))));clear hF l m O P E;go_wp2;exact Jr rfl rfl F.out.1.1 F.out.1.2.1 F.out.1.2.2.1 F.out.1.2.2.2 (by omega) F.out.2
     |ok tw d=>
      rw[E]at C;obtain⟨v,rfl,rfl,bY,fH,fJ,h3⟩:=C;have fK:=o.out.env.size;have k3:Ac (λb=>w.heap.size+1+1<=b) (EK w) w3:=i.out.kept.trans (MH o.out.env.size o.out.g0 bY);have f:read s=match d.bJ with
       |some x=>.error x
       |none=>if(Es d.rules).isNone then .error (Qu,0)else .ok ⟨d.decls,d.bI,d.rules⟩:=by rw[bX.out,E]
      obtain⟨_,_,_,_,_,c5,_,_,_,c9⟩:=AZ h3.row;have K:=h3.bJ;obtain⟨H3,Z,bZ⟩:=zq3 h3 k3 f;obtain⟨x1,x2,x3,x4⟩:=NV k3;clear h3 bY k3 f E;unfold IY at K;cases g:d.bJ with
      |some x=>
       rw[g]at K;obtain⟨gf,rfl,ci,Q⟩:=K;have f:read s= .error x:=by rw[bZ.out,g]
       have F:=Aa (fV (gf:=gf) Z.out (Ac.refl _ w3) Q ci f (.pointer none) (.iface 125 (.pointer (some ⟨gf,0,none⟩))));clear ci Q f g;have p:¬w.heap.size+1=w.heap.size:=by omega
       have lq:w.heap.size+1<w3.heap.size:=by have:=Z.out.size;simp at this;omega
       have lp:w.heap.size<w3.heap.size:=by omega
       go_wp2_with fail;go_region
       all_goals go_wp2
       all_goals exact KN (a:=.pointer none) (b:=.iface 125 (.pointer (some ⟨gf,0,none⟩))) rfl rfl (by simp[go_sem,x1,x3,p]) (by simp[go_sem,x1,x3,p]) F.out
      |none=>
       rw[g]at K;obtain rfl:=K;have f:read s=if(Es d.rules).isNone then .error (Qu,0)else .ok ⟨d.decls,d.bI,d.rules⟩:=by rw[bZ.out,g]
       have cj:=Aa f;clear f g;obtain⟨vm,cu,q⟩:=H3.out.rules.look (-1);have cw:=cu false;simp only[Ap,A8]at cw;have p2:=H3.out.bQ.cell 2;simp at p2;have cy:=Aa q;clear cu q;cases hm:Bj d.rules (-1)with
       |none=>
        have q:=cy.out;rw[hm]at q;obtain rfl:=q;have f:read s= .error (Qu,0):=by rw[cj.out];unfold Es;rw[hm];rfl
        have HF:=Aa f;clear f hm;have p:¬w.heap.size+1=w.heap.size:=by omega
        have lq:w.heap.size+1<w3.heap.size:=by have:=Z.out.size;simp at this;omega
        have lp:w.heap.size<w3.heap.size:=by omega
        have dV:w3.cell? ⟨1,0,none⟩=some (.iface 304 (.pointer (some (ea 10)))):=H3.out.env.err 10 (by omega) (by omega);have fN:1<w.heap.size:=An (HE.out.lt 10 (by omega) (by omega)) HE.out.size;go_wp2_with fail;go_region
        all_goals go_wp2
        all_goals exact KN (a:=.pointer none) (b:=.iface 125 (.pointer (some ⟨w3.heap.size,0,none⟩))) rfl rfl (by simp[go_sem,x1,x3,p,lp,lq]) (by simp[go_sem,x1,x3,p,lp,lq]) (pK Z.out HF.out _ _)
       |some b=>
        have q:=cy.out;rw[hm]at q;obtain⟨cs,⟨_,gl,R,rfl⟩,_⟩:=q;have f:read s= .ok ⟨d.decls,d.bI,d.rules⟩:=by rw[cj.out];unfold Es;rw[hm];rfl
        clear hm;have p:¬w.heap.size+1=w.heap.size:=by omega
        have lq:w.heap.size+1<w3.heap.size:=by have:=Z.out.size;simp at this;omega
        have lp:w.heap.size<w3.heap.size:=by omega
        have F:=Aa (zW9 Z.out H3.out f (.pointer (some ⟨w.heap.size+1+1+1,0,none⟩)) .nilIface);clear f;go_wp2;exact KN (a:=.pointer (some ⟨w.heap.size+1+1+1,0,none⟩)) (b:=.nilIface) rfl rfl (by simp[go_sem,x1,x3,p]) (by simp[go_sem,x1,x3,p]) F.out
theorem aW (h:U6 B ea w) (s:Ah):Calls prog 48 #[vs s] w λe w'=>IT ea w s e w':=by
 by_cases a:700<s.length
 ·exact kM h a
 ·exact kL h (by omega)
end
def Re (S:Nat->Prop) (w:World) (gm gg gp bm loops:Nat) (code:List Gm) (e:Ending) (w':World):Prop:=
 e= .returned (.tuple #[])/\Ac S w w'/\∃vl,ON S w' gm gg gp bm vl loops code
section
variable {S:Nat->Prop}{w w':World}{gm gg gp bm loops:Nat}{vl:Value}{code:List Gm}
theorem ON.alloc (h:ON S w gm gg gp bm vl loops code) (o:Obj):ON S (w.alloc o) gm gg gp bm vl loops code:=
 ⟨h.row.alloc o,h.prog.alloc o,h.l.alloc o,h.sm,h.sg⟩
theorem Up.alloc {w:World}(h:Up S w) (o:Obj):Up S (w.alloc o):=λb a=>h b (Ad (by simp) a)
theorem fa (h:ON S w gm gg gp bm vl loops code) (d:Up S w) (f:code.length<=1000000) (i:Gm) {c a b:Int}(g:c=(i.op:Int)) (j:a=i.a) (k:b=i.b):
  Calls prog 81 #[.pointer (some ⟨gm,0,none⟩),.agg #[.int .u8 c,.int .i64 a,.int .i64 b]] w λe w'=>
   e= .returned (.int .i64 code.length)/\Ac S w w'/\∃vl,ON S w' gm gg gp bm vl loops (code++[i]):=by
 subst g j k;exact vj h d f i
theorem oF (h:ON S w gm gg gp bm vl loops code) (d:Up S w) (l:code.length<=1000000) (v:Ra):
  Calls prog 147 #[.pointer (some ⟨gm,0,none⟩),.agg (DE v).toArray] w λe w'=>Re S w gm gg gp bm loops (code++[Gk v]) e w':=by
 have f:=h.alloc (.cells (DE v).toArray 216);have g:=(Ac.refl S w).alloc (d _ (Ab _)) (.cells (DE v).toArray 216);have j:=d.alloc (.cells (DE v).toArray 216);obtain⟨i,b⟩:∃i,i=Gk v:=⟨_,rfl⟩;rw[←b];obtain⟨m,n,o,c⟩:=zq4 g f j b;clear h f g j b;cases v
 all_goals
  unfold DE vs at*;simp only[Fk,C6]at*;go_enter func147,ntmps147;go_wp2_with fail;refine(fa n.out o.out l i (by rw[c.out];rfl) (by rw[c.out];rfl) (by rw[c.out];rfl)).mono ?_;rintro e q ⟨rfl,a,p,k⟩;have F:=Aa (And.intro a k);clear a k;go_wp2;refine Dl (Cu rfl _ _ _) rfl ?_;exact⟨rfl,m.out.trans F.out.1,_,F.out.2⟩
abbrev zV (S:Nat->Prop) (k:Nat):Nat->Prop:=λb=>S b/\b≠k
theorem ON.mono {S':Nat->Prop}(h:ON S w gm gg gp bm vl loops code) (a:∀b,S b->S' b):ON S' w gm gg gp bm vl loops code:=
 ⟨h.row,h.prog,h.l.mono a,a _ h.sm,a _ h.sg⟩
theorem ON.but (h:ON S w gm gg gp bm vl loops code) (o:Obj):ON (zV S w.heap.size) (w.alloc o) gm gg gp bm vl loops code:=
 ⟨h.row.alloc o,h.prog.alloc o,⟨(h.l.alloc o).1,λg a=>⟨h.l.2 g a,λe=>by have:=h.l.lt a;omega⟩⟩,⟨h.sm,λe=>by have:=h.row.lt;omega⟩,⟨h.sg,λe=>by have:=h.prog.lt;omega⟩⟩
theorem Up.but (h:Up S w) (o:Obj):Up (zV S w.heap.size) (w.alloc o):=λb a=>by
 have:(w.alloc o).heap.size=w.heap.size+1:=by simp
 exact⟨h b (by omega),by omega⟩
structure DP (S:Nat->Prop) (w0 w:World) (gm gg gp bm loops:Nat) (code:List Gm) (K:Nat) (t:TypeId) (cs:List Value):Prop where
 mr:∃vl,ON (zV S K) w gm gg gp bm vl loops code
 up:Up (zV S K) w
 row:AF w K t cs
 kept:Ac S w0 w
section
variable {w0:World}{be K:Nat}{t:TypeId}{cs:List Value}
theorem DP.start (h:ON S w gm gg gp bm vl loops code) (a:Up S w) (t:TypeId) (cs:List Value):DP S w (w.alloc (.cells cs.toArray t)) gm gg gp bm loops code w.heap.size t cs:=
 ⟨⟨_,h.but _⟩,a.but _,AF.new w t cs,(Ac.refl S w).alloc (a _ (Ab _)) _⟩
theorem DP.call {loops':Nat}{a:List Gm}(h:DP S w0 w gm gg gp bm loops code K t cs) (c:Ac (zV S K) w w') (d:∃vl,ON (zV S K) w' gm gg gp bm vl loops' a):DP S w0 w' gm gg gp bm loops' a K t cs:=
 ⟨d,h.up.kept c,h.row.kept c (λe=>e.2 rfl),h.kept.trans (c.mono (λb f=>f.1))⟩
theorem DP.out (h:DP S w0 w gm gg gp bm loops code K t cs):Re S w0 gm gg gp bm loops code (.returned (.tuple #[])) w:=by obtain⟨vl,a⟩:=h.mr;exact⟨rfl,h.kept,vl,a.mono (λb c=>c.1)⟩
theorem DP.put (h:DP S w0 w gm gg gp bm loops code K t cs) (f:code.length<=1000000) (i:Gm) {d a b:Int}(g:d=(i.op:Int)) (j:a=i.a) (k:b=i.b):
  Calls prog 81 #[.pointer (some ⟨gm,0,none⟩),.agg #[.int .u8 d,.int .i64 a,.int .i64 b]] w λe w'=>
   e= .returned (.int .i64 code.length)/\DP S w0 w' gm gg gp bm loops (code++[i]) K t cs:=by
 obtain⟨vl,l⟩:=h.mr;refine(fa l h.up f i g j k).mono ?_;rintro e w' ⟨m,n,c⟩;exact⟨m,h.call n c⟩
theorem DP.value (h:DP S w0 w gm gg gp bm loops code K t cs) (b:code.length<=1000000) (v:Ra):
  Calls prog 147 #[.pointer (some ⟨gm,0,none⟩),.agg (DE v).toArray] w λe w'=>
   e= .returned (.tuple #[])/\DP S w0 w' gm gg gp bm loops (code++[Gk v]) K t cs:=by
 obtain⟨vl,c⟩:=h.mr;refine(oF c h.up b v).mono ?_;rintro e w' ⟨d,f,a⟩;exact⟨d,h.call f a⟩
end
theorem w8 {t:TypeId}{C:Nat}{a b c d e f g:Value}(h:AF w C t [a,b,c,d,e,f,g]):
  w.cell? ⟨C,0,none⟩=some a/\w.cell? ⟨C,1,none⟩=some b/\w.cell? ⟨C,2,none⟩=some c/\w.cell? ⟨C,3,none⟩=some d/\w.cell? ⟨C,4,none⟩=some e/\w.cell? ⟨C,5,none⟩=some f/\w.cell? ⟨C,6,none⟩=some g:=
 ⟨h.cell 0,h.cell 1,h.cell 2,h.cell 3,h.cell 4,h.cell 5,h.cell 6⟩
theorem bo (h:ON S w gm gg gp bm vl loops code) (o:Up S w) (D:code.length<=900000) (a b:Ra) (n:Nat):
  Calls prog 135 #[.pointer (some ⟨gm,0,none⟩),.agg (Bu ⟨.less a b,n⟩).toArray] w λe w'=>Re S w gm gg gp bm loops (code++Ar ⟨.less a b,n⟩) e w':=by
 have j:=DP.start h o 218 (Bu ⟨.less a b,n⟩);have g:=j.value (by omega) a;obtain⟨E,s⟩:=zq2 j g;clear j g h o;unfold Bu DE vs at*;simp only[Cl,Bt,M5,DE,vs,Bz,CT]at*;go_enter hZ,ZU;go_wp2_with fail;refine s.out.mono ?_;rintro e w1 ⟨rfl,k⟩;obtain⟨u,v,x,y,z,A,i⟩:=w8 k.row;have g:=k.value (by simp;omega) b;have l:=Aa g;clear g k;unfold DE vs at*;go_wp2_with fail;refine l.out.mono ?_;rintro e F ⟨rfl,p⟩;clear u v x y z A i;have B:=Aa p;clear p;go_wp2_with fail;refine(B.out.put (by first|omega|(simp;omega)) .less rfl rfl rfl).mono ?_;rintro e w3 ⟨rfl,m⟩;have i:=m.row.cell 6;have q:=Aa m;clear m;simp at i;cases d:Dp n with
 |true=>
  rw[d]at i;have c:code++Ar ⟨.less a b,n⟩=code++[Gk a]++[Gk b]++[.less]++[.not]:=by unfold Dp at d;simp[Ar,JJ,d]
  have f:=Aa c;clear d c;go_wp2_with fail;refine(q.out.put (by first|omega|(simp;omega)) .not rfl rfl rfl).mono ?_;rintro e G ⟨rfl,r⟩;have C:=Aa r;clear r;go_wp2;refine Dl (Cu rfl _ _ _) rfl ?_;rw[f.out];exact C.out.out
 |false=>
  rw[d]at i;have c:code++Ar ⟨.less a b,n⟩=code++[Gk a]++[Gk b]++[.less]:=by unfold Dp at d;simp[Ar,JJ,d]
  have f:=Aa c;clear d c;go_wp2;refine Dl (Cu rfl _ _ _) rfl ?_;rw[f.out];exact q.out.out
theorem bp (h:ON S w gm gg gp bm vl loops code) (g:Up S w) (o:code.length<=900000) (q:Int) (n:Nat):
  Calls prog 135 #[.pointer (some ⟨gm,0,none⟩),.agg (Bu ⟨.full q,n⟩).toArray] w λe w'=>Re S w gm gg gp bm loops (code++Ar ⟨.full q,n⟩) e w':=by
 have i:=DP.start h g 218 (Bu ⟨.full q,n⟩);have l:=Aa i;clear i h g;unfold Bu vs at*;simp only[Cl,Bt,M5,vs,Bz,CT]at*;go_enter hZ,ZU;go_wp2_with fail;refine(l.out.put (by first|omega|(simp;omega)) (.full q) rfl rfl rfl).mono ?_;rintro e w1 ⟨rfl,j⟩;have d:=Aa j;clear j;have f:=d.out.row.cell 6;simp at f;cases b:Dp n with
 |true=>
  rw[b]at f;have a:code++Ar ⟨.full q,n⟩=code++[(.full q)]++[.not]:=by unfold Dp at b;simp[Ar,JJ,b]
  have c:=Aa a;clear b a;go_wp2_with fail;refine(d.out.put (by first|omega|(simp;omega)) .not rfl rfl rfl).mono ?_;rintro e p ⟨rfl,k⟩;have m:=Aa k;clear k;go_wp2;refine Dl (Cu rfl _ _ _) rfl ?_;rw[c.out];exact m.out.out
 |false=>
  rw[b]at f;have a:code++Ar ⟨.full q,n⟩=code++[(.full q)]:=by unfold Dp at b;simp[Ar,JJ,b]
  have c:=Aa a;clear b a;go_wp2;refine Dl (Cu rfl _ _ _) rfl ?_;rw[c.out];exact d.out.out
theorem bn (h:ON S w gm gg gp bm vl loops code) (g:Up S w) (o:code.length<=900000) (q:Int) (n:Nat):
  Calls prog 135 #[.pointer (some ⟨gm,0,none⟩),.agg (Bu ⟨.fC q,n⟩).toArray] w λe w'=>Re S w gm gg gp bm loops (code++Ar ⟨.fC q,n⟩) e w':=by
 have i:=DP.start h g 218 (Bu ⟨.fC q,n⟩);have l:=Aa i;clear i h g;unfold Bu vs at*;simp only[Cl,Bt,M5,vs,Bz,CT]at*;go_enter hZ,ZU;go_wp2_with fail;refine(l.out.put (by first|omega|(simp;omega)) (.fC q) rfl rfl rfl).mono ?_;rintro e w1 ⟨rfl,j⟩;have d:=Aa j;clear j;have f:=d.out.row.cell 6;simp at f;cases b:Dp n with
 |true=>
  rw[b]at f;have a:code++Ar ⟨.fC q,n⟩=code++[(.fC q)]++[.not]:=by unfold Dp at b;simp[Ar,JJ,b]
  have c:=Aa a;clear b a;go_wp2_with fail;refine(d.out.put (by first|omega|(simp;omega)) .not rfl rfl rfl).mono ?_;rintro e p ⟨rfl,k⟩;have m:=Aa k;clear k;go_wp2;refine Dl (Cu rfl _ _ _) rfl ?_;rw[c.out];exact m.out.out
 |false=>
  rw[b]at f;have a:code++Ar ⟨.fC q,n⟩=code++[(.fC q)]:=by unfold Dp at b;simp[Ar,JJ,b]
  have c:=Aa a;clear b a;go_wp2;refine Dl (Cu rfl _ _ _) rfl ?_;rw[c.out];exact d.out.out
theorem Y7 (h:ON S w gm gg gp bm vl loops code) (g:Up S w) (u:code.length<=900000) (q:Int) (n:Nat):
  Calls prog 135 #[.pointer (some ⟨gm,0,none⟩),.agg (Bu ⟨.empty q,n⟩).toArray] w λe w'=>Re S w gm gg gp bm loops (code++Ar ⟨.empty q,n⟩) e w':=by
 have i:=DP.start h g 218 (Bu ⟨.empty q,n⟩);have o:=Aa i;clear i h g;unfold Bu vs at*;simp only[Cl,Bt,M5,vs,Bz,CT]at*;go_enter hZ,ZU;go_wp2_with fail;refine(o.out.put (by first|omega|(simp;omega)) (.len q) rfl rfl rfl).mono ?_;rintro e w1 ⟨rfl,j⟩;have p:=Aa j;clear j;go_wp2_with fail;refine(p.out.put (by first|omega|(simp;omega)) (.num 1) rfl rfl rfl).mono ?_;rintro e v ⟨rfl,k⟩;have r:=Aa k;clear k;go_wp2_with fail;refine(r.out.put (by first|omega|(simp;omega)) .less rfl rfl rfl).mono ?_;rintro e w3 ⟨rfl,l⟩;have d:=Aa l;clear l;have f:=d.out.row.cell 6;simp at f;cases b:Dp n with
 |true=>
  rw[b]at f;have a:code++Ar ⟨.empty q,n⟩=code++[(.len q)]++[(.num 1)]++[.less]++[.not]:=by unfold Dp at b;simp[Ar,JJ,b]
  have c:=Aa a;clear b a;go_wp2_with fail;refine(d.out.put (by first|omega|(simp;omega)) .not rfl rfl rfl).mono ?_;rintro e x ⟨rfl,m⟩;have s:=Aa m;clear m;go_wp2;refine Dl (Cu rfl _ _ _) rfl ?_;rw[c.out];exact s.out.out
 |false=>
  rw[b]at f;have a:code++Ar ⟨.empty q,n⟩=code++[(.len q)]++[(.num 1)]++[.less]:=by unfold Dp at b;simp[Ar,JJ,b]
  have c:=Aa a;clear b a;go_wp2;refine Dl (Cu rfl _ _ _) rfl ?_;rw[c.out];exact d.out.out
theorem wV (h:ON S w gm gg gp bm vl loops code) (d:Up S w) (f:code.length<=900000) (c:C5):
  Calls prog 135 #[.pointer (some ⟨gm,0,none⟩),.agg (Bu c).toArray] w λe w'=>Re S w gm gg gp bm loops (code++Ar c) e w':=by
 obtain⟨k,n⟩:=c;cases k with
 |full q=>exact bp h d f q n
 |empty q=>exact Y7 h d f q n
 |fC q=>exact bn h d f q n
 |less a b=>exact bo h d f a b n
def VI:D4->Int×Int
 | .put _ _=>(0,1)
 | .shift _ _ _=>(3,4)
 | .cu _=>(2,2)
 | .dV _=>(8,8)
 | .drop=>(5,5)
 |_=>(7,7)
theorem kY (p:D4) (w:World) (a:∀v,p≠.inc v/\p≠.dec v):Calls prog 136 #[vs (CR p)] w λe w'=>e= .returned (.tuple #[.int .u8 (VI p).1,.int .u8 (VI p).2])/\w'=w:=by
 unfold vs;cases p
 case inc v=>exact absurd rfl (a v).1
 case dec v=>exact absurd rfl (a v).2
 all_goals
  clear a;unfold CR;go_enter func136,ntmps136;go_wp2;refine AB (results_tmp2 Tryz.results136 _ _ _) rfl ?_;exact⟨rfl,rfl⟩
end
def Rb:Az->Prop
 | .nil=>True
 | .bN _ r=>Rb r
 | .ite _ t o e r=>Rb t/\Rb e/\Rb r/\(o=false->e= .nil)
 | .rep _ _ b r=>Rb b/\Rb r
theorem PY:∀(a b:Az),(a.app b).loops=a.loops+b.loops
 | .nil,b=>by simp[Az.app,Az.loops]
 | .bN p r,b=>by simp[Az.app,Az.loops,PY r b]
 | .ite c t o e r,b=>by simp[Az.app,Az.loops,PY r b];omega
 | .rep n c x r,b=>by simp[Az.app,Az.loops,PY r b];omega
theorem Py:∀(a b:Az) (c o:Nat),Rb a->BP c o (a.app b)=BP c o a++BP (c+a.loops) (o+(BP c o a).length) b
 | .nil,b,c,o,_=>by simp[Az.app,BP,Az.loops]
 | .bN p r,b,c,o,h=>by
  have d:=Py r b c (o+1) h;simp only[Az.app,BP,Az.loops,Bz,Af,d];rw[show o+((BP c (o+1) r).length+1)=o+1+(BP c (o+1) r).length by omega]
 | .ite k t o' e r,b,c,o,h=>by
  cases o' with
  |true=>
   have d:=λx y=>Py r b x y h.2.2.1;simp only[Az.app,BP,Az.loops,A7];rw[d];simp only[AL,Bz,Ao,Af];simp only[E5,FH,Nat.add_left_comm]
  |false=>
   have f:=h.2.2.2 rfl;subst f;have d:=λx y=>Py r b x y h.2.2.1;simp only[Az.app,BP,Az.loops,Ap,A8,Mx];rw[d];simp only[AL,Bz,Ao,Af];simp only[E5,FH,Nat.add_left_comm]
 | .rep n k x r,b,c,o,h=>by
  have d:=λy z=>Py r b y z h.2;simp only[Az.app,BP,Az.loops];rw[d];simp only[AL,Bz,Ao,Af];congr 8
  ·omega
  ·omega
theorem Lv (c:C5):(Ar c).length<=4:=by
 unfold Ar;have:(JJ c.k).length<=3:=by cases c.k<;>simp[JJ]
 split<;>simp<;>omega
theorem Ho:∀(b:Az) (c o:Nat),(BP c o b).length<=8*b.size
 | .nil,c,o=>by simp[BP]
 | .bN p r,c,o=>by
  have:=Ho r c (o+1);simp only[BP,Az.size,Af];omega
 | .ite k t o' e r,c,o=>by
  have h:=Lv k;have f:=λx y=>Ho t x y;have i:=λx y=>Ho e x y;have g:=λx y=>Ho r x y;simp only[BP,Az.size];split
  ·simp only[Ao,Af];obtain⟨a,b,d⟩:=zp3 (f c (o+(Ar k).length+1)) (i (c+t.loops) (o+(Ar k).length+1+(BP c (o+(Ar k).length+1) t).length+1)) (g (c+t.loops+e.loops) (o+(Ar k).length+1+(BP c (o+(Ar k).length+1) t).length+1+(BP (c+t.loops) (o+(Ar k).length+1+(BP c (o+(Ar k).length+1) t).length+1) e).length));omega
  ·simp only[Ao,Af];have a:=f c (o+(Ar k).length+1);have d:=g (c+t.loops) (o+(Ar k).length+1+(BP c (o+(Ar k).length+1) t).length);omega
 | .rep n k x r,c,o=>by have h:=Lv k;have f:=λy z=>Ho x y z;have g:=λy z=>Ho r y z;simp only[BP,Az.size,Ao,Af];have a:=f (c+1) (o+2+(Ar k).length+1);have d:=g (c+1+x.loops) (o+2+(Ar k).length+1+(BP (c+1) (o+2+(Ar k).length+1) x).length+1);omega
section
variable {S:Nat->Prop}{w w':World}{gm gg gp bm loops:Nat}{vl:Value}{code:List Gm}
theorem ON.dS {a n d:Nat}(h:ON S w gm gg gp bm (.slice (some ⟨a,0,none⟩) n d) loops code) (m:n=code.length) {k j:Nat}{e i:Gm}{u:Value}(o:code[k]?=some e) (p:j<3) (q:Cz i=(Cz e).set j u):
  Ac S w (w.setCell ⟨a,k*3+j,none⟩ u)/\ON S (w.setCell ⟨a,k*3+j,none⟩ u) gm gg gp bm (.slice (some ⟨a,0,none⟩) n d) loops (code.set k i):=by
 subst m;have c:Ac (λb=>b=a) w (w.setCell ⟨a,k*3+j,none⟩ u):=Ac.one w ⟨a,k*3+j,none⟩ u;obtain⟨cs,f⟩:=h.l.row rfl;have g:=h.l.bM (λ_=>rfl) o p q;rw[A9]at g;refine⟨c.mono (λb r=>r▸h.l.2 a rfl),h.row.kept c (h.row.cZ f (by decide)),h.prog.kept c (h.prog.cZ f (by decide)),?_,h.sm,h.sg⟩;rw[A9];exact g
theorem vo (h:ON S w gm gg gp bm vl loops code) (o:Up S w) (r:code.length<=900000) (p:D4):
  Calls prog 121 #[.pointer (some ⟨gm,0,none⟩),.agg (Lr p).toArray] w λe w'=>Re S w gm gg gp bm loops (code++[.bN p]) e w':=by
 have d:=DP.start h o 220 (Lr p);obtain⟨f,g,j,k,_⟩:=BO d.row;have c:=λ(x:∀v,p≠.inc v/\p≠.dec v) w=>kY p w x;obtain⟨i,l⟩:∃i,i=Gm.bN p:=⟨_,rfl⟩;rw[←l];obtain⟨m,a,q⟩:=zq3 d l c;clear d h o l c;cases p
 case inc v=>
  clear f g j k;simp only[Lr,CR,Hc,He,C3,MT,A6,vs,Bz,CT]at*;go_enter UE,SY;go_wp2_with fail;refine(m.out.put (by omega) i (by rw[a.out];rfl) (by rw[a.out];rfl) (by rw[a.out];rfl)).mono ?_;rintro e n ⟨rfl,b⟩;have F:=Aa b;clear b;go_wp2;refine Dl (Cu rfl _ _ _) rfl ?_;exact F.out.out
 case dec v=>
  clear f g j k;simp only[Lr,CR,Hc,He,C3,MT,A6,vs,Bz,CT]at*;go_enter UE,SY;go_wp2_with fail;refine(m.out.put (by omega) i (by rw[a.out];rfl) (by rw[a.out];rfl) (by rw[a.out];rfl)).mono ?_;rintro e n ⟨rfl,b⟩;have F:=Aa b;clear b;go_wp2;refine Dl (Cu rfl _ _ _) rfl ?_;exact F.out.out
 all_goals
  clear f g j k;simp only[Lr,CR,Hc,He,C3,MT,A6,vs,Bz,CT]at*;go_enter UE,SY;go_wp2_with fail;refine(q.out (λv=>⟨by simp,by simp⟩) _).mono ?_;rintro e n ⟨rfl,rfl⟩;simp only[VI]
  try cases ‹Bool›
 all_goals
  go_wp2_with fail;refine(m.out.put (by omega) i (by rw[a.out];rfl) (by rw[a.out];rfl) (by rw[a.out];rfl)).mono ?_;rintro e n ⟨rfl,b⟩;have F:=Aa b;clear b;go_wp2;refine Dl (Cu rfl _ _ _) rfl ?_;exact F.out.out
end
theorem XO:∃a n c,A6= .slice a n c:=⟨none,0,0,rfl⟩
theorem A5.part {N:Nat->Prop}{w:World}:∀(b:Az) (cs:List Value),b≠.nil->A5 N w b cs->∃x tl f i,b=x.app tl/\x.length=1/\cs=f++i/\StF f/\A5 N w x f/\A5 N w tl i/\b.length=tl.length+1/\x.size+tl.size=b.size
 | .nil,cs,h,_=>absurd rfl h
 | .bN p r,cs,_,⟨rest,j,z⟩=>
  ⟨.bN p .nil,r,Lr p,rest,rfl,rfl,j,⟨_,_,_,_,_,_,_,_,_,_,_,_,_,_,_,_,_,rfl⟩,⟨[],by simp,rfl⟩,z,by simp[Az.length],by simp[Az.size]⟩
 | .ite c t o e r,cs,_,⟨l,ve,rest,j,m,q,u⟩=>by
  obtain⟨A,⟨_,B,s,g⟩,_⟩:=id m;have d:∃a n c,ve= .slice a n c:=by
   cases o with
   |true=>
    rw[Al rfl]at q;obtain⟨E,⟨_,ge,y,d⟩,_⟩:=q;exact⟨_,_,_,d⟩
   |false=>
    rw[Ai A0]at q;exact q.1▸XO
  obtain⟨F,G,c2,d⟩:=d;obtain⟨C,n1,D,n3,v⟩:=Fr c.k;refine⟨.ite c t o e .nil,r,L9 c l ve,rest,rfl,rfl,j,?_,⟨l,ve,[],by simp,m,q,rfl⟩,u,by simp[Az.length],by simp[Az.size];try omega⟩;unfold L9 Bu;rw[v,g,d];exact⟨_,_,_,_,_,_,_,_,_,_,_,_,_,_,_,_,_,rfl⟩
 | .rep n c b r,cs,_,⟨l,rest,j,m,u⟩=>by obtain⟨A,⟨_,B,s,g⟩,_⟩:=id m;obtain⟨C,n1,D,n3,v⟩:=Fr c.k;refine⟨.rep n c b .nil,r,IX n c l,rest,rfl,rfl,j,?_,⟨l,[],by simp,m,rfl⟩,u,by simp[Az.length],by simp[Az.size];try omega⟩;unfold IX Bu;rw[v,g];exact⟨_,_,_,_,_,_,_,_,_,_,_,_,_,_,_,_,_,rfl⟩
theorem A5.tidy {N:Nat->Prop}{w:World}:∀(b:Az) (cs:List Value),A5 N w b cs->Rb b
 | .nil,_,_=>trivial
 | .bN p r,_,⟨rest,_,i⟩=>A5.tidy r rest i
 | .ite c t o e r,_,⟨j,ve,rest,_,⟨d,_,f⟩,a,g⟩=>by
  refine⟨A5.tidy t d f,?_,A5.tidy r rest g,?_⟩
  ·cases o with
   |true=>
    rw[Al rfl]at a;obtain⟨l,_,h⟩:=a;exact A5.tidy e l h
   |false=>
    rw[Ai A0]at a;rw[a.2];trivial
  ·intro m;subst m;rw[Ai A0]at a;exact a.2
 | .rep n c b r,_,⟨j,rest,_,⟨d,_,f⟩,g⟩=>⟨A5.tidy b d f,A5.tidy r rest g⟩
def jy (m:Nat):Prop:=∀(S:Nat->Prop) (w:World) (gm gg gp bm loops:Nat) (a:Value) (code:List Gm) (x:Az) (cs:List Value),
 ON S w gm gg gp bm a loops code->Up S w->x.length=1->x.size<=m->A5 (λk=>¬S k) w x cs->code.length+8*x.size<=900000->loops+x.size<=1000000->
  Calls prog 121 #[.pointer (some ⟨gm,0,none⟩),.agg cs.toArray] w λe w'=>Re S w gm gg gp bm (loops+x.loops) (code++BP loops code.length x) e w'
def TW (m:Nat):Prop:=∀(S:Nat->Prop) (w:World) (gm gg gp bm loops:Nat) (a:Value) (code:List Gm) (b:Az) (v:Value),
 ON S w gm gg gp bm a loops code->Up S w->b.size<=m->DG (λk=>¬S k) w v b->code.length+8*b.size<=900000->loops+b.size<=1000000->
  Calls prog 80 #[.pointer (some ⟨gm,0,none⟩),v] w λe w'=>Re S w gm gg gp bm (loops+b.loops) (code++BP loops code.length b) e w'
structure WC (S:Nat->Prop) (w0:World) (gm gg gp bm loops:Nat) (code:List Gm) (b:Az) (cs:List Value) (k:Nat) (wr:World) (done rest:Az) (be bI:List Value):Prop where
 eq:b=done.app rest
 cs:cs=be++bI
 mz:be.length=k*13
 k:k+rest.length=b.length
 tidy:Rb done
 sz:done.size+rest.size=b.size
 nz:A5 (λk=>¬S k) w0 rest bI
 mr:∃vl,ON S wr gm gg gp bm vl (loops+done.loops) (code++BP loops code.length done)
 kept:Ac S w0 wr
theorem Jv:∀(b:Az),b.loops<=b.size
 | .nil=>Ab _
 | .bN p r=>by have:=Jv r;simp only[Az.loops,Az.size];omega
 | .ite c t o e r=>by have:=Jv t;have:=Jv e;have:=Jv r;simp only[Az.loops,Az.size];omega
 | .rep n c b r=>by have:=Jv b;have:=Jv r;simp only[Az.loops,Az.size];omega
theorem RE:∀(a b:Az),Rb a->Rb b->Rb (a.app b)
 | .nil,b,_,h=>by simpa[Az.app]using h
 | .bN p r,b,h,d=>by simpa[Az.app,Rb]using RE r b h d
 | .ite c t o e r,b,h,d=>by
  show Rb (.ite c t o e (r.app b));exact⟨h.1,h.2.1,RE r b h.2.2.1 d,h.2.2.2⟩
 | .rep n c x r,b,h,d=>by show Rb (.rep n c x (r.app b));exact⟨h.1,RE r b h.2 d⟩
section
variable {S:Nat->Prop}{w0 wr:World}{gm gg gp bm loops k:Nat}{code:List Gm}{b done rest:Az}{cs be bI:List Value}
theorem WC.next {g d:Nat}(h:WC S w0 gm gg gp bm loops code b cs k wr done rest be bI) (e:Sl (λk=>¬S k) w0 220 13 (.slice (some ⟨g,0,none⟩) b.length d) b.length cs) (w:k<b.length):
  ∃x tl a c,rest=x.app tl/\x.length=1/\bI=a++c/\StF a/\A5 (λk=>¬S k) w0 x a/\A5 (λk=>¬S k) w0 tl c/\rest.length=tl.length+1/\x.size+tl.size=rest.size/\
   (∀j,j<13->wr.cell? ⟨g,k*13+j,none⟩=a[j]?)/\g<wr.heap.size:=by
 have f:rest≠.nil:=by rintro rfl;have:=h.k;simp[Az.length]at this;omega
 obtain⟨x,tl,a,c,e1,n,i,l,o,q,r,s⟩:=A5.part rest bI f h.nz;have m:a.length=13:=by obtain⟨_,_,_,_,_,_,_,_,_,_,_,_,_,_,_,_,_,rfl⟩:=l;rfl
 refine⟨x,tl,a,c,e1,n,i,l,o,q,r,s,λj y=>?_,An (e.lt rfl) h.kept.size⟩;have t:k*13+j<b.length*13:=by omega
 have u:=e.1.cellAt _ t;have v:cs[k*13+j]?=a[j]?:=by rw[h.cs,i,BG (by rw[h.mz];omega),h.mz,B7,AX (by omega)]
 exact((h.kept.cell (p:=⟨g,k*13+j,none⟩) (e.2 g rfl)).trans u).trans v
theorem WC.step {x tl:Az}{a c:List Value}{w':World}(h:WC S w0 gm gg gp bm loops code b cs k wr done rest be bI) (e1:rest=x.app tl) (f:bI=a++c) (g:a.length=13) (i:A5 (λk=>¬S k) w0 x a) (j:A5 (λk=>¬S k) w0 tl c)
  (m:rest.length=tl.length+1) (n:x.size+tl.size=rest.size) (l:Ac S wr w')
  (d:∃e,ON S w' gm gg gp bm e (loops+done.loops+x.loops) (code++BP loops code.length done++BP (loops+done.loops) (code++BP loops code.length done).length x)):
  WC S w0 gm gg gp bm loops code b cs (k+1) w' (done.app x) tl (be++a) c:=by
 refine⟨by rw[h.eq,e1,If],by rw[h.cs,f,AL],by rw[Ao,h.mz,g];omega,by have:=h.k;omega,RE _ _ h.tidy (A5.tidy _ _ i),by rw[JN];have:=h.sz;omega,j,?_,h.kept.trans l⟩;obtain⟨e,d⟩:=d;refine⟨e,?_⟩;rw[PY,Py done x loops code.length h.tidy,←E5,←AL];rw[Ao]at d;exact d
end
theorem de {m:Nat}(y:jy m):TW m:=by
 intro S w gm gg gp bm loops vl code b v h hS z hb i cw;obtain⟨cs,⟨hs,g,cy,rfl⟩,j⟩:=hb;have A:WC S w gm gg gp bm loops code b cs 0 w .nil b [] cs:=⟨by simp[Az.app],by simp,by simp,by omega,trivial,by simp[Az.size],j,⟨vl,by simpa[BP,Az.loops]using h⟩,Ac.refl _ _⟩;have cz:b.length<=900000:=by
  have:∀b:Az,b.length<=b.size:=by
   intro b
   induction b with
   |nil=>simp[Az.length]
   |bN p r ih=>simp[Az.length,Az.size];omega
   |ite c t o e r _ _ ih=>simp[Az.length,Az.size];omega
   |rep n c b r _ ih=>simp[Az.length,Az.size];omega
  have:=this b;omega
 obtain⟨G,HU,H,I,J,K⟩:=zq6 y hS hs A i z;clear y h hS hs A j i z;go_enter func80,ntmps80;go_wp2_with fail
 go_loopg [8] b.length (λL s8 wr=>∃k done rest be bI,k<=b.length/\b.length-k<=L/\s8= .int .i64 (k:Nat)/\WC S w gm gg gp bm loops code b cs k wr done rest be bI)
 case atStart=>exact⟨0,.nil,b,[],cs,AM _,by omega,rfl,I.out⟩
 case round=>
  obtain⟨k,done,rest,be,bI,cZ,hg,rfl,l⟩:=hrel;by_cases M:k<b.length
  ·obtain⟨x,tl,N,da,e1,e2,e3,e4,e5,e6,e7,e8,a,dd⟩:=l.next H.out M;have q:N.length=13:=by obtain⟨_,_,_,_,_,_,_,_,_,_,_,_,_,_,_,_,_,rfl⟩:=id e4;rfl
   have d:=Aa (And.intro e1 (And.intro e2 (And.intro e3 (And.intro q (And.intro e5 (And.intro e6 (And.intro e7 e8)))))));obtain⟨k_,n_,m_,t_,O,P,Q,R,T,U,o_,V,W,X,Y,Z,bJ,rfl⟩:=e4;have x0:=a 0 (by omega);have x1:=a 1 (by omega);have x2:=a 2 (by omega);have x3:=a 3 (by omega);have x4:=a 4 (by omega);have x5:=a 5 (by omega);have x6:=a 6 (by omega);have x7:=a 7 (by omega);have x8:=a 8 (by omega);have x9:=a 9 (by omega);have bK:=a 10 (by omega);have bL:=a 11 (by omega);have bM:=a 12 (by omega);have s:=Aa l;clear l a e1 e2 e3 e5 e6 e7 e8 q;unfold vs at*;simp only[BM,AJ,Mx]at x0 x1 x2 x3 x4 x5 x6 x7 x8 x9 bK bL bM;go_wp2_with fail;obtain⟨bO,B⟩:=s.out.mr;have ka:Ac S wr (wr.alloc (.cells #[.string ⟨k_.toArray⟩,.int .i64 n_,.int .i64 m_,.bool t_,.string ⟨O.toArray⟩,.int .i64 P,.string ⟨Q.toArray⟩,.int .i64 R,.string ⟨T.toArray⟩,.int .i64 U,.bool o_,.slice V W X,.slice Y Z bJ] 220)):=(Ac.refl S wr).alloc (HU.out.kept s.out.kept _ (Ab _)) _;have C:=s.out.kept.trans ka;have i:=Ho done loops code.length;refine(G.out S _ gm gg gp bm (loops+done.loops) bO (code++BP loops code.length done) x _ (B.alloc _) ((HU.out.kept s.out.kept).alloc _) d.out.2.1 (by have:=s.out.sz;have:=d.out.2.2.2.2.2.2.2;have:=K.out;omega)
    (A5.kept (λk cs hk _=>C.block k hk) _ _ d.out.2.2.2.2.1) (by rw[Ao];have:=s.out.sz;have:=d.out.2.2.2.2.2.2.2;have:=J.out;omega) (by have:=s.out.sz;have:=d.out.2.2.2.2.2.2.2;have:=Jv done;omega)).mono ?_
   rintro e w2 ⟨rfl,D,E⟩;have F:=Aa (s.out.step d.out.1 d.out.2.2.1 d.out.2.2.2.1 d.out.2.2.2.2.1 d.out.2.2.2.2.2.1 d.out.2.2.2.2.2.2.1 d.out.2.2.2.2.2.2.2 (ka.trans D) E);clear B ka C i D E;go_wp2;go_roundg (b.length-(k+1))
   case measure=>omega
   case rel=>exact⟨k+1,_,_,_,_,by omega,by omega,by go_num,F.out⟩
  ·have u:rest= .nil:=by
    have:=l.k;cases rest with
    |nil=>rfl
    |bN p r=>simp[Az.length]at this;omega
    |ite c t o e r=>simp[Az.length]at this;omega
    |rep n c b r=>simp[Az.length]at this;omega
   have f:b=done:=by rw[l.eq,u];exact Oi done
   have F:=Aa (And.intro l.kept (And.intro l.mr f));clear l u f;go_wp2;refine Dl (Cu rfl _ _ _) rfl ?_;obtain⟨a1,a2,a3⟩:=F.out;rw[a3];exact⟨rfl,a1,a2⟩
theorem Vr {α:Type}(A B:List α) (i j:α) {n:Nat}(h:n=A.length):(A++i::B).set n j=A++j::B:=by subst h;rw[Nk _ _ (Ab _),PD,Qe]
theorem Zn {α:Type}(A B:List α) (i:α) {n:Nat}(h:n=A.length):(A++i::B)[n]?=some i:=by subst h;rw[BG (Ab _),PD,AJ]
section
variable {S:Nat->Prop}{w w0:World}{gm gg gp bm loops K:Nat}{vl:Value}{code:List Gm}{t:TypeId}{cs:List Value}
theorem DP.cond (h:DP S w0 w gm gg gp bm loops code K t cs) (b:code.length<=900000) (c:C5):
  Calls prog 135 #[.pointer (some ⟨gm,0,none⟩),.agg (Bu c).toArray] w λe w'=>
   e= .returned (.tuple #[])/\DP S w0 w' gm gg gp bm loops (code++Ar c) K t cs:=by
 obtain⟨vl,d⟩:=h.mr;refine(wV d h.up b c).mono ?_;rintro e w' ⟨f,g,a⟩;exact⟨f,h.call g a⟩
theorem DP.block {m:Nat}(i:TW m) (h:DP S w0 w gm gg gp bm loops code K t cs) {b:Az}{v:Value}(c:b.size<=m) (j:DG (λk=>¬S k) w0 v b) (d:code.length+8*b.size<=900000) (f:loops+b.size<=1000000):
  Calls prog 80 #[.pointer (some ⟨gm,0,none⟩),v] w λe w'=>
   e= .returned (.tuple #[])/\DP S w0 w' gm gg gp bm (loops+b.loops) (code++BP loops code.length b) K t cs:=by
 obtain⟨vl,l⟩:=h.mr;refine(i (zV S K) w gm gg gp bm loops vl code b v l h.up c ((j.kept (λk cs a _=>h.kept.block k a)).mono (λk _ a n=>a n.1)) d f).mono ?_;rintro e w' ⟨o,a,g⟩;exact⟨o,h.call a g⟩
theorem DP.form (h:DP S w0 w gm gg gp bm loops code K t cs) (g:0<code.length):∃c a,w.cell? ⟨gm,1,none⟩=some (.slice (some ⟨c,0,none⟩) code.length a)/\
  (∀(k:Nat) (b:Gm),code[k]?=some b->∀j,j<3->w.cell? ⟨c,k*3+j,none⟩=(Cz b)[j]?/\w.frozen? ⟨c,k*3+j,none⟩=false)/\
  (∀(k:Nat) (b i:Gm) (j:Nat) (u:Value),code[k]?=some b->j<3->Cz i=(Cz b).set j u->DP S w0 (w.setCell ⟨c,k*3+j,none⟩ u) gm gg gp bm loops (code.set k i) K t cs):=by
 obtain⟨vl,d⟩:=h.mr;obtain⟨c,a,rfl,_⟩:=d.l.form g;refine⟨c,a,d.row.cell 1,λk b e j f=>⟨d.l.at_ (λ_=>rfl) e f,d.l.mg rfl _⟩,λk b i j u e f m=>?_⟩;obtain⟨n,o⟩:=d.dS rfl e f m;exact h.call n ⟨_,o⟩
theorem DP.drew (h:DP S w0 w gm gg gp bm loops code K t cs):DP S w0 w.drew gm gg gp bm loops code K t cs:=by obtain⟨vl,a⟩:=h.mr;have k:Ac (zV S K) w w.drew:=(Ac.refl _ w).drew;exact h.call k ⟨vl,a.row.drew,a.prog.drew,a.l.of_heap rfl,a.sm,a.sg⟩
theorem DP.mj (h:DP S w0 w gm gg gp bm loops code K t cs) (f:code.length<=1000000) (i:Gm) {d a b:Int}(g:d=(i.op:Int)) (j:a=i.a) (l:b=i.b):
  Calls prog 81 #[.pointer (some ⟨gm,0,none⟩),.agg #[.int .u8 d,.int .i64 a,.int .i64 b]] w λe w'=>∃(k:Nat) (c:List Gm),e= .returned (.int .i64 k)/\k=code.length/\c=code++[i]/\DP S w0 w' gm gg gp bm loops c K t cs:=by
 refine(h.put f i g j l).mono ?_;rintro e w' ⟨m,n⟩;exact⟨_,_,m,rfl,rfl,n⟩
theorem p8 (c:C5) (t e:Az) (loops:Nat) (code g h d f:List Gm) (a b:Nat) (i:g=code++Ar c++[.skip 0]) (n:a=(code++Ar c).length) (j:h=g++BP loops g.length t)
  (o:b=h.length) (p:d=(h++[Gm.jump 0]).set a (.skip (h++[Gm.jump 0]).length)) (k:f=d++BP (loops+t.loops) d.length e):
  f.set b (.jump f.length)=code++BP loops code.length (.ite c t true e .nil):=by
 have l1:g.length=code.length+(Ar c).length+1:=by rw[i];simp;omega
 have l:d=code++Ar c++ .skip (code.length+(Ar c).length+1+(BP loops (code.length+(Ar c).length+1) t).length+1)::(BP loops (code.length+(Ar c).length+1) t++[.jump 0]):=by
  rw[p,j,l1,i];have:(code++Ar c++[.skip 0]++BP loops (code.length+(Ar c).length+1) t++[.jump 0])=(code++Ar c)++ .skip 0::(BP loops (code.length+(Ar c).length+1) t++[.jump 0]):=by simp
  rw[this,Vr _ _ _ _ n];congr 3;simp;omega
 have m:d.length=code.length+(Ar c).length+1+(BP loops (code.length+(Ar c).length+1) t).length+1:=by rw[l];simp;omega
 have q:f=(code++Ar c++ .skip (code.length+(Ar c).length+1+(BP loops (code.length+(Ar c).length+1) t).length+1)::BP loops (code.length+(Ar c).length+1) t)++ .jump 0::BP (loops+t.loops) (code.length+(Ar c).length+1+(BP loops (code.length+(Ar c).length+1) t).length+1) e:=by rw[k,m,l];simp
 have r:f.length=code.length+(Ar c).length+1+(BP loops (code.length+(Ar c).length+1) t).length+1+(BP (loops+t.loops) (code.length+(Ar c).length+1+(BP loops (code.length+(Ar c).length+1) t).length+1) e).length:=by rw[k,Ao,m]
 rw[r,q,Vr _ _ _ _ (by rw[o,j,l1,Ao,l1];simp;omega)];simp[BP]
theorem lI (c:C5) (t:Az) (loops:Nat) (code d b:List Gm) (a:Nat) (e:d=code++Ar c++[.skip 0]) (g:a=(code++Ar c).length) (f:b=d++BP loops d.length t):
  b.set a (.skip b.length)=code++BP loops code.length (.ite c t false .nil .nil):=by
 have l1:d.length=code.length+(Ar c).length+1:=by rw[e];simp;omega
 have h:b=code++Ar c++ .skip 0::BP loops (code.length+(Ar c).length+1) t:=by rw[f,l1,e];simp
 have l2:b.length=code.length+(Ar c).length+1+(BP loops (code.length+(Ar c).length+1) t).length:=by rw[f,Ao,l1]
 rw[l2,h,Vr _ _ _ _ g];simp[BP]
theorem po (n:Int) (c:C5) (x:Az) (loops:Nat) (code f g e h d:List Gm) (a b:Nat) (i:f=code++[.count loops n]) (o:a=f.length) (j:g=f++[.again loops 0]) (p:b=(g++Ar c).length) (k:e=g++Ar c++[.skip 0])
  (q:h=e++BP (loops+1) e.length x) (r:d=h++[.jump a]):
  (d.set a (.again loops d.length)).set b (.skip (d.set a (.again loops d.length)).length)=code++BP loops code.length (.rep n c x .nil):=by
 have l:a=code.length+1:=by rw[o,i];simp
 have s:e.length=code.length+2+(Ar c).length+1:=by rw[k,j,i];simp;omega
 have m:d=(code++[.count loops n])++ .again loops 0::(Ar c++ .skip 0::(BP (loops+1) (code.length+2+(Ar c).length+1) x++[.jump (code.length+1)])):=by rw[r,q,s,k,j,i,l];simp
 have u:d.length=code.length+2+(Ar c).length+1+(BP (loops+1) (code.length+2+(Ar c).length+1) x).length+1:=by rw[m];simp;omega
 rw[A9,u,m,Vr _ _ _ _ (by rw[l];simp)];have:code++[Gm.count loops n]++ .again loops (code.length+2+(Ar c).length+1+(BP (loops+1) (code.length+2+(Ar c).length+1) x).length+1)::(Ar c++ .skip 0::(BP (loops+1) (code.length+2+(Ar c).length+1) x++[.jump (code.length+1)]))=
   (code++[Gm.count loops n]++ .again loops (code.length+2+(Ar c).length+1+(BP (loops+1) (code.length+2+(Ar c).length+1) x).length+1)::Ar c)++ .skip 0::(BP (loops+1) (code.length+2+(Ar c).length+1) x++[.jump (code.length+1)]):=by simp
 rw[this,Vr _ _ _ _ (by rw[p,j,i];simp)];simp[BP]
theorem Ad0 {m:Nat}(hB:TW m) (h:ON S w gm gg gp bm vl loops code) (hS:Up S w) {c:C5}{t e:Az}{o:Bool}{vt ve:Value}(ci:t.size<=m) (cj:e.size<=m) (ht:DG (λk=>¬S k) w vt t)
  (q:if o then DG (λk=>¬S k) w ve e else ve=A6/\e= .nil) (dX:code.length+8*(1+t.size+e.size)<=900000) (fc:loops+(1+t.size+e.size)<=1000000):
  Calls prog 121 #[.pointer (some ⟨gm,0,none⟩),.agg (L9 c vt ve).toArray] w λe' w'=>Re S w gm gg gp bm (loops+(t.loops+e.loops)) (code++BP loops code.length (.ite c t o e .nil)) e' w':=by
 have fd:∀w,(binOp .neq 147 (.slice none 0 0) (.slice none 0 0)).run prog w= .ok (.bool false) w:=λ_=>rfl;have fx:∀(a:Addr) (n c:Nat) w,(binOp .neq 147 (.slice (some a) n c) (.slice none 0 0)).run prog w= .ok (.bool true) w:=λ_ _ _ _=>rfl;have h0:=DP.start h hS 220 (L9 c vt ve);have A:=h0.cond (by omega) c;have fy:=Lv c;have V:=Ho t loops;have W:=Ho e (loops+t.loops);obtain⟨fB,⟨_,gt,H,rfl⟩,_⟩:=id ht;have u:∃a2 n2 c2,ve= .slice a2 n2 c2:=by
  cases o with
  |true=>
   rw[Al rfl]at q;obtain⟨ce,⟨_,ge,X,u⟩,_⟩:=q;exact⟨_,_,_,u⟩
  |false=>
   rw[Ai A0]at q;exact q.1▸XO
 obtain⟨a2,n2,c2,rfl⟩:=u;obtain⟨cw,Y,cy,fD,HB⟩:=zq5 ht q V W hB;obtain⟨b0,n1,b2,n3,Z⟩:=Fr c.k;have p:Bu c=[vs (Cl c.k),.int .i64 (Bt c.k),vs b0,.int .i64 n1,vs b2,.int .i64 n3,.bool (Dp c.bP)]:=by unfold Bu;rw[Z];rfl
 have be:L9 c (.slice (some ⟨gt,0,none⟩) t.length H) (.slice a2 n2 c2)=[vs Jk,.int .i64 0,.int .i64 0,.bool false,vs (Cl c.k),.int .i64 (Bt c.k),vs b0,.int .i64 n1,vs b2,.int .i64 n3,.bool (Dp c.bP),.slice (some ⟨gt,0,none⟩) t.length H,.slice a2 n2 c2]:=by unfold L9;rw[p];rfl
 rw[p]at A;rw[be]at h0 A ⊢;obtain⟨bI,H0⟩:=zq2 A h0;clear hB h0 A h hS ht q V W Z p be;unfold vs at*;go_enter UE,SY;go_wp2_with fail;refine bI.out.mono ?_;rintro e1 w1 ⟨rfl,h1⟩;have H1:=Aa h1;clear h1 bI;go_wp2_with fail;refine(H1.out.mj (by rw[Ao];omega) (.skip 0) rfl rfl rfl).mono ?_;rintro e1 w2 ⟨a,f,rfl,ha,P,h2⟩;obtain⟨_,_,_,_,_,_,_,_,_,_,_,cB,v⟩:=BO h2.row;have l1:f.length=code.length+(Ar c).length+1:=by rw[P];simp;omega
 have bJ:=h2.block HB.out ci cw.out (by omega) (by omega);obtain⟨HA,y,cZ,L1⟩:=zq4 ha P bJ l1;clear h2 bJ ha P l1 v;go_wp2_with fail;refine cZ.out.mono ?_;rintro e1 w3 ⟨rfl,h3⟩;obtain⟨g,z⟩:∃x,x=f++BP loops f.length t:=⟨_,rfl⟩;rw[←z]at h3;obtain⟨_,_,_,_,_,_,_,_,_,_,_,_,v⟩:=BO h3.row;have l2:g.length=f.length+(BP loops f.length t).length:=by rw[z,Ao]
 have bL:=cy.out f.length;have bM:g.length<=f.length+8*t.size:=by omega
 have fF:=L1.out;have l:g[a]?=some (.skip 0):=by rw[z,y.out];simp only[AL,Bz,CT];rw[←AL];exact Zn _ _ _ HA.out
 obtain⟨B,H3,L2⟩:=zq3 z h3 l2;clear h3 z l2 bL cB;cases o with
 |false=>
  have q:=Y.out;rw[Ai A0]at q;obtain⟨Z,rfl⟩:=q;unfold A6 at Z;injection Z with Q R T;subst Q R T;have da:a<g.length:=(Aj.1 l).1;obtain⟨gl,dd,r1,I,J⟩:=H3.out.form (by omega);obtain⟨U,fA⟩:=I a _ l 1 (by omega);obtain⟨F,fH⟩:=zq2 (J a (.skip 0) (.skip g.length) 1 (.int .i64 g.length) l (by omega) rfl) l;clear I J l;simp[Cz]at U;go_wp2_with fail;go_region
  all_goals go_wp2
  all_goals
   refine Dl (Cu rfl _ _ _) rfl ?_;rw[←lI c t loops code f g a y.out HA.out B.out];exact F.out.drew.out
 |true=>
  have q:=Y.out;rw[Al rfl]at q;obtain⟨ce,⟨_,ge,X,u⟩,_⟩:=id q;injection u with Q R T;subst Q R T;have bN:=Aa q;clear q;go_wp2_with fail;refine(H3.out.mj (by omega) (.jump 0) rfl rfl rfl).mono ?_;rintro e1 w4 ⟨b,d,rfl,hb,r,h4⟩;have s:d[a]?=some (.skip 0):=by rw[r,AX (Aj.1 l).1];exact l
  have da:a<d.length:=(Aj.1 s).1;obtain⟨gl,dd,r1,I,J⟩:=h4.form (by omega);obtain⟨U,fA⟩:=I a _ s 1 (by omega);have F4:=Aa (J a (.skip 0) (.skip d.length) 1 (.int .i64 d.length) s (by omega) rfl);have L:d.length=g.length+1:=by rw[r];simp
  obtain⟨C,M,N,bO⟩:=zq4 hb r L bM;clear I J l s hb r h4 L bM v;simp[Cz]at U;go_wp2_with fail;go_region
  all_goals
   have h5:=F4.out.drew;obtain⟨j,D⟩:∃x,x=d.set a (.skip d.length):=⟨_,rfl⟩;rw[←D]at h5;have bQ:j.length=d.length:=by rw[D,A9]
   obtain⟨_,_,_,_,_,_,_,_,_,_,_,_,v⟩:=BO h5.row;have bR:=h5.block HB.out cj bN.out (by have:=N.out;have:=bO.out;have:=L1.out;omega) (by have:=Jv t;omega);obtain⟨bS,bT,fK⟩:=zq3 bR D bQ;clear h5 bR D bQ r1 U fA;go_wp2_with fail;refine bS.out.mono ?_;rintro e1 w6 ⟨rfl,h6⟩;obtain⟨i,E⟩:∃x,x=j++BP (loops+t.loops) j.length e:=⟨_,rfl⟩;rw[←E]at h6;have G:i[b]?=some (.jump 0):=by rw[E,bT.out,M.out,AX (by rw[A9,C.out];simp),BU (by rw[C.out];have:=N.out;have:=HA.out;have:=y.out;have:=B.out;rw[B.out,y.out,HA.out];simp)];exact Zn _ _ _ C.out
   have fL:b<i.length:=(Aj.1 G).1;obtain⟨fM,dW,r1,I,J⟩:=h6.form (by omega);obtain⟨U,fA⟩:=I b _ G 1 (by omega);obtain⟨F6,dH⟩:=zq2 (J b (.jump 0) (.jump i.length) 1 (.int .i64 i.length) G (by omega) rfl) E;clear I J G h6 E v;simp[Cz]at U;go_wp2_with fail;go_region
   all_goals
    go_wp2;refine Dl (Cu rfl _ _ _) rfl ?_;rw[←p8 c t e loops code f g j i a b y.out HA.out B.out C.out (by rw[bT.out,M.out]) dH.out];have O:=F6.out.drew.out;rw[E5]at O;exact O
end
section
variable {S:Nat->Prop}{w w0:World}{gm gg gp bm loops K:Nat}{vl:Value}{code:List Gm}{t:TypeId}{cs:List Value}
theorem DP.cells (h:DP S w0 w gm gg gp bm loops code K t cs):w.cell? ⟨gm,0,none⟩=some (.pointer (some ⟨gg,0,none⟩))/\w.cell? ⟨gg,2,none⟩=some (.int .i64 loops)/\w.frozen? ⟨gg,2,none⟩=false:=by obtain⟨vl,a⟩:=h.mr;exact⟨a.row.cell 0,a.prog.cell 2,a.prog.frozen 2⟩
theorem DP.loop (h:DP S w0 w gm gg gp bm loops code K t cs):DP S w0 (w.setCell ⟨gg,2,none⟩ (.int .i64 ((loops:Int)+1))) gm gg gp bm (loops+1) code K t cs:=by obtain⟨vl,a⟩:=h.mr;have c:Ac (λb=>b=gg) w (w.setCell ⟨gg,2,none⟩ (.int .i64 ((loops:Int)+1))):=Ac.one w ⟨gg,2,none⟩ _;exact h.call (c.mono (λb d=>d▸a.sg)) ⟨vl,a.row.kept c (a.row.cZ a.prog (by decide)),a.prog.bM 2 _,a.l.kept c (λb d e=>a.l.bK a.prog (by decide) (e▸d)),a.sm,a.sg⟩
theorem zW7 {m:Nat}(hB:TW m) (h:ON S w gm gg gp bm vl loops code) (hS:Up S w) {n:Int}{c:C5}{x:Az}{Q:Value}(R:x.size<=m) (T:DG (λk=>¬S k) w Q x) (cy:code.length+8*(1+x.size)<=900000) (cz:loops+(1+x.size)<=1000000):
  Calls prog 121 #[.pointer (some ⟨gm,0,none⟩),.agg (IX n c Q).toArray] w λe' w'=>Re S w gm gg gp bm (loops+(1+x.loops)) (code++BP loops code.length (.rep n c x .nil)) e' w':=by
 have O:=DP.start h hS 220 (IX n c Q);have cB:=Lv c;have p:=Ho x (loops+1);obtain⟨cZ,⟨_,gt,v,rfl⟩,_⟩:=id T;obtain⟨U,V,HB⟩:=zq3 T p hB;obtain⟨b0,n1,b2,n3,hv⟩:=Fr c.k;have i:Bu c=[vs (Cl c.k),.int .i64 (Bt c.k),vs b0,.int .i64 n1,vs b2,.int .i64 n3,.bool (Dp c.bP)]:=by unfold Bu;rw[hv];rfl
 have I:IX n c (.slice (some ⟨gt,0,none⟩) x.length v)=[vs Bf,.int .i64 n,.int .i64 0,.bool false,vs (Cl c.k),.int .i64 (Bt c.k),vs b0,.int .i64 n1,vs b2,.int .i64 n3,.bool (Dp c.bP),.slice (some ⟨gt,0,none⟩) x.length v,.slice none 0 0]:=by unfold IX;rw[i];rfl
 rw[I]at O ⊢;have dd:wrap64 ((loops:Int)+1)=(loops:Int)+1:=by unfold wrap64;omega
 obtain⟨g0,g2,gf⟩:=O.cells;obtain⟨H0,W⟩:=zq2 O i;clear hB O h hS T p hv i I;unfold vs at*;go_enter UE,SY;go_wp2_with fail;have P:=H0.out.loop;refine(P.mj (by omega) (.count loops n) rfl rfl rfl).mono ?_;rintro e1 w1 ⟨_,j,rfl,_,A,P⟩;have l1:j.length=code.length+1:=by rw[A];simp
 obtain⟨H1,X⟩:=zq2 P A;clear P A g0 g2 gf;go_wp2_with fail;refine(H1.out.mj (by omega) (.again loops 0) rfl rfl rfl).mono ?_;rintro e1 w2 ⟨a,l,rfl,ha,B,Y⟩;have l2:l.length=j.length+1:=by rw[B];simp
 obtain⟨_,_,_,_,x4,x5,x6,x7,x8,x9,Z,_,_⟩:=BO Y.row;have C:=Y.cond (by omega) c;rw[W.out]at C;obtain⟨D,HA,bI⟩:=zq3 B ha C;clear Y B ha C;unfold vs at*;go_wp2_with fail;refine bI.out.mono ?_;rintro e1 w3 ⟨rfl,h3⟩;have H3:=Aa h3;clear h3 x4 x5 x6 x7 x8 x9 Z;go_wp2_with fail;refine(H3.out.mj (by rw[Ao];omega) (.skip 0) rfl rfl rfl).mono ?_;rintro e1 w4 ⟨b,e,rfl,hb,E,h4⟩;obtain⟨_,_,_,_,_,_,_,_,_,_,_,bK,_⟩:=BO h4.row;have l3:e.length=l.length+(Ar c).length+1:=by rw[E];simp;omega
 have J:=h4.block HB.out R U.out (by omega) (by omega);obtain⟨F,G,bL⟩:=zq3 E hb J;clear h4 E hb J;go_wp2_with fail;refine bL.out.mono ?_;rintro e1 w5 ⟨rfl,h5⟩;obtain⟨g,q⟩:∃y,y=e++BP (loops+1) e.length x:=⟨_,rfl⟩;rw[←q]at h5;have p:=V.out e.length;have l4:g.length=e.length+(BP (loops+1) e.length x).length:=by rw[q,Ao]
 have dR:g.length<=e.length+8*x.size:=by omega
 obtain⟨H5,H⟩:=zq2 h5 q;clear h5 q p bK l4;go_wp2_with fail;refine(H5.out.mj (by omega) (.jump a) rfl rfl rfl).mono ?_;rintro e1 w6 ⟨_,d,rfl,_,r,h6⟩;have l5:d.length=g.length+1:=by rw[r];simp
 have s:d[a]?=some (.again loops 0):=by rw[r,H.out,F.out,D.out];simp only[AL,Bz,CT];exact Zn _ _ _ HA.out
 have dU:a<d.length:=(Aj.1 s).1;obtain⟨gl,dV,r1,L,M⟩:=h6.form (by omega);obtain⟨cA,fA⟩:=L a _ s 2 (by omega);obtain⟨F6,N,L5⟩:=zq3 (M a (.again loops 0) (.again loops d.length) 2 (.int .i64 d.length) s (by omega) rfl) r l5;clear L M s r h6 l5;simp[Cz]at cA;go_wp2_with fail;go_region
 all_goals
  have h7:=F6.out.drew;obtain⟨f,o⟩:∃y,y=d.set a (.again loops d.length):=⟨_,rfl⟩;rw[←o]at h7;have bQ:f.length=d.length:=by rw[o,A9]
  have u:f[b]?=some (.skip 0):=by rw[o,BU (by rw[G.out,HA.out,D.out];simp),N.out,H.out,F.out];simp only[AL,Bz,CT];rw[←AL];exact Zn _ _ _ G.out
  have fd:b<f.length:=(Aj.1 u).1;obtain⟨fx,cw,r1,L,M⟩:=h7.form (by have:=L5.out;omega);obtain⟨cA,fA⟩:=L b _ u 1 (by omega);obtain⟨F7,bR⟩:=zq2 (M b (.skip 0) (.skip f.length) 1 (.int .i64 f.length) u (by omega) rfl) o;clear L M u h7 o bQ;simp[Cz]at cA;go_wp2_with fail;go_region
  all_goals
   go_wp2;refine Dl (Cu rfl _ _ _) rfl ?_;rw[←po n c x loops code j l e g d a b X.out HA.out D.out G.out F.out H.out N.out,←bR.out];have z:=F7.out.drew.out;rw[E5]at z;exact z
theorem Sc:∀(b:Az),b.length=0->b= .nil
 | .nil,_=>rfl
 | .bN p r,h=>by simp[Az.length]at h
 | .ite c t o e r,h=>by simp[Az.length]at h
 | .rep n c b r,h=>by simp[Az.length]at h
theorem uM {m:Nat}(v:TW m):jy (m+1):=by
 intro S w gm gg gp bm loops vl code x cs h s q g f i j;cases x with
 |nil=>cases q
 |bN p r=>
  have k:=Sc r (by simpa[Az.length]using q);subst k;obtain⟨rest,rfl,rfl⟩:=f;simp only[Az.loops,Az.size,Mx,AO,BP]at*;exact vo h s (by omega) p
 |ite c t o e r=>
  have k:=Sc r (by simpa[Az.length]using q);subst k;obtain⟨y,ve,rest,rfl,u,z,rfl⟩:=f;have l:1+t.size+e.size<=m+1:=by simpa[Az.size]using g
  have a:code.length+8*(1+t.size+e.size)<=900000:=by simpa[Az.size]using i
  have d:loops+(1+t.size+e.size)<=1000000:=by simpa[Az.size]using j
  rw[AO];show Calls _ _ _ _ λe' w'=>Re S w gm gg gp bm (loops+(t.loops+e.loops+0)) _ e' w';exact Ad0 v h s (by omega) (by omega) u z a d
 |rep n c b r=>
  have k:=Sc r (by simpa[Az.length]using q);subst k;obtain⟨y,rest,rfl,u,rfl⟩:=f;have l:1+b.size<=m+1:=by simpa[Az.size]using g
  have a:code.length+8*(1+b.size)<=900000:=by simpa[Az.size]using i
  have d:loops+(1+b.size)<=1000000:=by simpa[Az.size]using j
  rw[AO];show Calls _ _ _ _ λe' w'=>Re S w gm gg gp bm (loops+(1+b.loops+0)) _ e' w';exact zW7 v h s (by omega) u a d
theorem Ye:∀m,jy m/\TW m
 |0=>by
  have h:jy 0:=by
   intro S w gm gg gp bm loops vl code x cs h f d a;cases x with
   |nil=>cases d
   |bN p r=>simp[Az.size]at a
   |ite c t o e r=>simp[Az.size]at a
   |rep n c b r=>simp[Az.size]at a
  exact⟨h,de h⟩
 |m+1=>by have h:=uM (Ye m).2;exact⟨h,de h⟩
theorem Zt (h:ON S w gm gg gp bm vl loops code) (d:Up S w) {b:Az}{v:Value}(f:DG (λk=>¬S k) w v b) (a:code.length+8*b.size<=900000) (c:loops+b.size<=1000000):
  Calls prog 80 #[.pointer (some ⟨gm,0,none⟩),v] w λe w'=>Re S w gm gg gp bm (loops+b.loops) (code++BP loops code.length b) e w':=
 (Ye b.size).2 S w gm gg gp bm loops vl code b v h d (Ab _) f a c
end
end Go.Proofs.YtodkkholbjeioaaGreatDoor.Ev
namespace Go.Proofs.YtodkkholbjeioaaGreatDoor.Ev
open _root_.Go.Proofs.Tryz
open Go Go.RowKit
open Go.ChangeMaps (setBlock)
def JP (w:World) (r b:Nat) (k:IntKind) (M:G5) (sk:List Int):Prop:=
 ∃(c:Array MapEntry) (a:Nat) (d:Array Nat),w.heap[b]?=some (.map c a)/\c.toList.map (λe=>(e.key,e.val))=M.map (λx=>(Value.int k x.1,x.2))/\(∀e∈c.toList,e.born<a)/\(c.toList.map (·.born)).Nodup/\
  (M.map (·.1)).Nodup/\w.heap[r]?=some (.mapIter (some b) a d a)/\∀(i:Nat) (e:MapEntry) (y:Int×Value),c.toList[i]?=some e->M[i]?=some y->(d.contains e.born=true↔y.1∈sk)
theorem bi {α:Type}{l:List α}(h:l.Nodup) {i j:Nat}{x:α}(a:l[i]?=some x) (c:l[j]?=some x):i=j:=by obtain⟨e,e1⟩:=Aj.1 a;obtain⟨f,d⟩:=Aj.1 c;exact(List.getElem_inj h).1 (e1.trans d.symm)
section
variable {P:Program}{w:World}{r b:Nat}{k:IntKind}{M:G5}{sk:List Int}
theorem BR.range (h:BR w b k M) {T K E:TypeId}(n:P.underlying T=some (.map K E)):
  ∃a,(Instr.range T (.map (some b))).run P w= .ok (.pointer (some ⟨w.heap.size,0,none⟩)) (w.alloc (.mapIter (some b) a #[] a))/\JP (w.alloc (.mapIter (some b) a #[] a)) w.heap.size b k M []:=by
 obtain⟨d,a,f,g,j,l,m⟩:=h;have c:b<w.heap.size:=BR.lt (k:=k) (M:=M) ⟨d,a,f,g,j,l,m⟩;refine⟨a,run_range_map w T K E b d a n f,d,a,#[],?_,g,j,l,m,P7 w _,λi e y _ _=>by simp⟩
 (first|rw[heap_alloc_old w _ c]|rw[heap_alloc_old w _ _ c]);exact f
theorem JP.next (h:JP w r b k M sk) (ty:TypeId):
  ((∀y∈M,y.1∈sk)/\(Instr.next (.pointer (some ⟨r,0,none⟩)) false ty).run P w= .ok (.tuple #[.bool false]) w)\/
  ∃y∈M,y.1∉sk/\∃w',(Instr.next (.pointer (some ⟨r,0,none⟩)) false ty).run P w= .ok (.tuple #[.bool true,.int k y.1,y.2]) w'/\JP w' r b k M (y.1::sk)/\Ac (λi=>i=r) w w'/\
   (Instr.entry (.pointer (some ⟨r,0,none⟩))).run P w'= .ok (.tuple #[.int k y.1,y.2]) w':=by
 obtain⟨n,a,m,F,G,R,H,S,z,I⟩:=h;have t:∀(i:Nat) (e:MapEntry),n.toList[i]?=some e->∃y,M[i]?=some y/\e.key= .int k y.1/\e.val=y.2:=by
  intro i e o;have:=AH (λl=>l[i]?) G;simp only[At,o,Ca]at this;cases D:M[i]? with
  |none=>rw[D]at this;cases this
  |some y=>
   rw[D]at this;simp only[Ca,Co,Jf]at this;exact⟨y,rfl,this.1,this.2⟩
 have q:∀(i:Nat) (y:Int×Value),M[i]?=some y->∃e,n.toList[i]?=some e:=by
  intro i y o;have:=AH (λl=>l[i]?) G;simp only[At,o,Ca]at this;cases D:n.toList[i]? with
  |none=>rw[D]at this;cases this
  |some e=>exact⟨e,rfl⟩
 have J:r≠b:=by rintro rfl;rw[F]at z;cases z
 rcases run_next_at (P:=P) w ty r b a a m n a z F R (Ab _)with⟨V,p⟩|⟨e,u,w1,s,p⟩
 ·left;refine⟨λy v=>?_,p⟩;obtain⟨i,o⟩:=J0 v;obtain⟨e,u⟩:=q i y o;refine(I i e y u o).1 ?_;by_cases E:m.contains e.born=true
  ·exact E
  ·have A:e∈(leftOf n m).toList:=by unfold leftOf;have c:e∈n.toList:=Aw u;simp only[Array.toList_filter,D5];exact⟨c,by simpa using E⟩
   have:(leftOf n m).toList.length=0:=by simpa using V
   rw[Iy this]at A;cases A
 ·right;have c:e∈n.toList/\¬m.contains e.born=true:=by unfold leftOf at u;simp only[Array.toList_filter,D5]at u;exact⟨u.1,by simpa using u.2⟩
  obtain⟨i,o⟩:=J0 c.1;obtain⟨y,v,T,U⟩:=t i e o;have K:y.1∉sk:=λW=>c.2 ((I i e y o v).2 W);have d:w1.heap=w.heap:=by rcases s with rfl|rfl<;>rfl
  have L:r<w.heap.size:=by
   rcases Be r w.heap.size with N|O
   ·exact N
   ·rw[Cj O]at z;cases z
  have B:(setBlock w1 r (.mapIter (some b) a (m.push e.born) a)).heap[b]?=some (.map n a):=by show(w1.heap.setIfInBounds r _)[b]?=_;rw[d,jI J];exact F
  have C:(setBlock w1 r (.mapIter (some b) a (m.push e.born) a)).heap[r]?=some (.mapIter (some b) a (m.push e.born) a):=by show(w1.heap.setIfInBounds r _)[r]?=_;rw[d,Array.getElem?_setIfInBounds_self_of_lt L]
  refine⟨y,Aw v,K,_,by rw[p,T,U],⟨n,a,m.push e.born,B,G,R,H,S,C,λQ e' X f g=>?_⟩,?_,?_⟩
  ·have E:(m.push e.born).contains e'.born=true↔m.contains e'.born=true\/e'.born=e.born:=by simp
   rw[E,I Q e' X f g,AA,or_comm];refine or_congr ⟨λY=>?_,λZ=>?_⟩ Iff.rfl
   ·have:=bi H (i:=Q) (j:=i) (x:=e.born) (by simp[At,f,Y]) (by simp[At,o]);subst this;rw[v]at g;injection g with g;rw[g]
   ·have:=bi S (i:=Q) (j:=i) (x:=y.1) (by simp[At,g,Z]) (by simp[At,v]);subst this;rw[o]at f;injection f with f;rw[f]
  ·refine⟨by rcases s with rfl|rfl<;>rfl,by rcases s with rfl|rfl<;>rfl,by rcases s with rfl|rfl<;>rfl,?_,λj hj=>?_⟩
   ·show w.heap.size<=(w1.heap.setIfInBounds r _).size;rw[d];simp
   ·show(w1.heap.setIfInBounds r _)[j]?=_;rw[d,jI (λe=>hj e.symm)]
  ·rw[run_entry_at (P:=P) _ r b a m n a e C B c.1 H,T,U]
end
theorem JP.iE {w w':World}{r b:Nat}{k:IntKind}{M:G5}{sk:List Int}(h:JP w r b k M sk) (a:w'.heap[r]?=w.heap[r]?) (d:w'.heap[b]?=w.heap[b]?):JP w' r b k M sk:=by obtain⟨e,c,f,g,i,j,l,m,n,o⟩:=h;exact⟨e,c,f,d.trans g,i,j,l,m,a.trans n,o⟩
theorem JP.bK {w:World}{r b g:Nat}{k:IntKind}{M:G5}{sk:List Int}{t:TypeId}{cs:List Value}(h:JP w r b k M sk) (a:AF w g t cs):g≠r:=by rintro rfl;obtain⟨e,c,f,_,_,_,_,_,d,_⟩:=h;unfold AF at a;rw[a]at d;cases d
theorem Y8 {M:G5}{x k:Int}{v u:Value}(h:FX M k=some u):FX (M++[(x,v)]) k=some u:=by unfold FX at*;rw[AU]at h;obtain⟨y,a,c⟩:=h;rw[Jm,a];exact AH some c
theorem Y9 {M:G5}{x:Int}{v:Value}(h:FX M x=none):FX (M++[(x,v)]) x=some v:=by unfold FX at*;rw[II]at h;rw[Jm,h];simp
theorem W8 {M:G5}{x k:Int}{v:Value}(h:FX M k=none) (a:k≠x):FX (M++[(x,v)]) k=none:=by unfold FX at*;rw[II]at h;rw[Jm,h];have:¬x=k:=λe=>a e.symm;simp[this]
theorem VO {M:G5}{x:Int}(v:Value) (h:FX M x=none):Ut M x v=M++[(x,v)]:=by unfold Ut;rw[h];rfl
theorem Pd:∀(a b:List Int),a.Nodup->(∀x∈a,x∈b)->a.length<=b.length
 | [],_,_,_=>AM _
 |x::a,b,h,d=>by
  have f:=BC.1 h;have g:x∈b:=d x (Ly ..);have j:=Pd a (b.erase x) f.2 (λy i=>by
   have c:y≠x:=λe=>f.1 (e▸i);exact(List.mem_erase_of_ne c).2 (d y (GS _ i)))
  rw[List.length_erase_of_mem g]at j;have:=List.length_pos_of_mem g;simp only[Af];omega
end Go.Proofs.YtodkkholbjeioaaGreatDoor.Ev
namespace Go.Proofs.YtodkkholbjeioaaGreatDoor.Ev
open _root_.Go.Proofs.Tryz
open Go Go.RowKit
structure OfL (w wr:World) (gp bm:Nat) (rules:List (Int×Az)) (Mp:G5) (sk:List Int) (loops:Nat):Prop where
 qR:JP wr (w.heap.size+1+1) bm .i64 Mp sk
 nd:sk.Nodup
 sub:∀k∈sk,k∈Mp.map (·.1)
 row:AF wr (w.heap.size+1) 75 [.pointer (some ⟨gp,0,none⟩),.map (some w.heap.size),.int .i64 loops]
 map:∃M:G5,BR wr w.heap.size .i64 M/\(∀k,k∈sk->∃v,FX M k=some v/\WA (λb=>w.heap.size<=b) wr rules loops k v)/\∀k,k∉sk->FX M k=none
 lo:loops<=700*sk.length
 kept:Ac (λb=>w.heap.size<=b) w wr
theorem WA.kept {S S1:Nat->Prop}{w w':World}{a:List (Int×Az)}{d loops':Nat}{k:Int}{v:Value}(h:WA S w a d k v) (f:Ac S1 w w') (i:∀b cs,AF w b 172 cs->¬S1 b) (n:d<=loops'):WA S w' a loops' k v:=by obtain⟨b,c,j,e,o⟩:=h;refine⟨b,c,j,e.kept f (λg l=>?_),by omega⟩;obtain⟨cs,m⟩:=e.row l;exact i g cs m
theorem XX:∀(l:List (Int×Az)) (i:Nat) (x:Int×Az),(l.map (·.1)).Nodup->l[i]?=some x->Bj l x.1=some x.2
 | [],i,x,_,h=>by simp at h
 |y::l,0,x,_,h=>by
  simp only[AJ,Co]at h;subst h;simp[Bj]
 |y::l,i+1,x,a,h=>by simp only[BM]at h;rw[BS,BC]at a;have b:y.1≠x.1:=λe=>a.1 (e▸AE.2 ⟨x,Aw h,rfl⟩);have c:=XX l i x a.2 h;unfold Bj at*;rw[EA (by simpa using b)];exact c
theorem Ql:∀(l:List (Int×Az)) (x:Int×Az),x∈l->x.2.size<=KY l
 | [],x,h=>by cases h
 |y::l,x,h=>by
  have e:KY (y::l)=y.2.size+KY l:=by simp[KY]
  rcases AA.1 h with rfl|h
  ·omega
  ·have:=Ql l x h;omega
section
variable {B:Nat}{w:World}{gp bm:Nat}{vd:Value}{p:Ax}
theorem zW10 (h:sF B w gp bm vd p) (hp:Em p):Calls prog 50 #[.pointer (some ⟨gp,0,none⟩)] w λe w'=>
  ∃gg bc a,e= .returned (.pointer (some ⟨gg,0,none⟩))/\Ac (λb=>w.heap.size<=b) w w'/\Uq (λb=>w.heap.size<=b) w' gg gp bc a p.rules:=by
 have fR:=@nF prog;obtain⟨Mp,hM,Z,D⟩:=h.rules;have be:=(hM.alloc (.map #[] 0)).alloc (.cells #[.pointer (some ⟨gp,0,none⟩),.map (some w.heap.size),.int .i64 0] 75);obtain⟨d,n,E⟩:=be.range (P:=prog) EV;have e1:(w.alloc (.map #[] 0)).heap.size=w.heap.size+1:=by simp
 have e2:((w.alloc (.map #[] 0)).alloc (.cells #[.pointer (some ⟨gp,0,none⟩),.map (some w.heap.size),.int .i64 0] 75)).heap.size=w.heap.size+1+1:=by simp
 rw[e2]at n E;have p2:=h.row.cell 2;have pl:=h.row.lt;simp at p2;obtain⟨HR,HM,F,dH,HP⟩:=zq5 E hM Z D hp;clear h hM be Z D hp E;go_enter func50,ntmps50;go_wp2_with fail
 go_loopg [] p.rules.length (λkk wr=>∃s a,p.rules.length-s.length<=kk/\OfL w wr gp bm p.rules Mp s a)
 case atStart=>
  have dI:=(((Ac.refl (λb=>w.heap.size<=b) w).alloc (Ab _) (.map #[] 0)).alloc (by rw[e1];omega) (.cells #[.pointer (some ⟨gp,0,none⟩),.map (some w.heap.size),.int .i64 0] 75)).alloc (by rw[e2];omega) (.mapIter (some bm) d #[] d);have bJ:=(AF.new (w.alloc (.map #[] 0)) 75 [.pointer (some ⟨gp,0,none⟩),.map (some w.heap.size),.int .i64 0]).alloc (.mapIter (some bm) d #[] d);rw[e1]at bJ;exact⟨[],0,by simp,HR.out,XE,(λk j=>absurd j nc),bJ,⟨[],((BR.new w .i64).alloc _).alloc _,(λk j=>absurd j nc),λk _=>rfl⟩,AM _,dI⟩
 case round=>
  obtain⟨s,a,gI,C⟩:=hrel;have bL:s.length<=p.rules.length:=by have o:=Pd s _ C.nd C.sub;rw[F.out]at o;simpa using o
  rcases C.qR.next (P:=prog) 0 with⟨N,n⟩|⟨y,hy,K,w',n,T,L,dK⟩
  ·have G:=Aa C;have bM:=Aa N;clear C N;go_wp2_with fail;go_ret;refine⟨_,_,a,rfl,G.out.kept,G.out.row,?_,by have:=G.out.lo;have:=HP.out.rl;omega,Cc _,Ab _⟩;obtain⟨M,m1,m2,m3⟩:=G.out.map;refine⟨M,m1,λk=>?_⟩;by_cases j:k∈s
   ·obtain⟨v,hv,hc⟩:=m2 k j;obtain⟨b,c,t,o,h2⟩:=id hc;rw[t];exact⟨v,hv,hc⟩
   ·cases m:Bj p.rules k with
    |none=>exact m3 k j
    |some b=>
     exfalso;apply j;have O:k∈p.rules.map (·.1):=by
      cases hn:(Bj p.rules k).isSome with
      |false=>rw[m]at hn;cases hn
      |true=>
       unfold Bj at m;rw[AU]at m;obtain⟨x,q,_⟩:=m;have o:=List.find?_some q;have h2:=zF q;exact AE.2 ⟨x,h2,by simpa using o⟩
     rw[←F.out]at O;obtain⟨z,hz,rfl⟩:=AE.1 O;exact bM.out z hz
  ·obtain⟨k,v⟩:=y;simp only at K n T dK;obtain⟨i,hi⟩:=J0 hy;obtain⟨yb,H⟩:∃yb,p.rules[i]?=some yb:=by
    have:=AH (λl=>l[i]?) F.out;simp only[At,hi,Ca]at this;cases hm:p.rules[i]? with
    |none=>rw[hm]at this;cases this
    |some z=>exact⟨z,rfl⟩
   have bO:yb.1=k:=by have:=AH (λl=>l[i]?) F.out;simp only[At,hi,H,Ca,Co]at this;exact this.symm
   obtain⟨r,b⟩:=yb;simp only at bO;subst bO;have Q:DG (λk=>k<w.heap.size) w v b:=(dH.out i (r,v) (r,b) hi H).mono (λk o _=>o);have bP:Bj p.rules r=some b:=XX p.rules i (r,b) HP.out.rules.nodup H;have ix:b.size<=700:=Ad (Ql p.rules (r,b) (Aw H)) HP.out.size;have U:r∈Mp.map (·.1):=AE.2 ⟨(r,v),hy,rfl⟩;have dL:(r::s).length<=p.rules.length:=by have o:=Pd (r::s) (Mp.map (·.1)) (BC.2 ⟨K,C.nd⟩) (λx q=>(AA.1 q).elim (λe=>e▸U) (C.sub x));rw[F.out]at o;simpa using o
   have I:Ac (λb=>w.heap.size<=b) w w':=C.kept.trans (L.mono (λb t=>by rw[t];omega));have f:AF w' (w.heap.size+1) 75 [.pointer (some ⟨gp,0,none⟩),.map (some w.heap.size),.int .i64 a]:=C.row.kept L (by omega);have fG:=f.lt;have R:ON (λb=>b=w.heap.size+1\/w'.heap.size<=b) (w'.alloc (.cells #[.pointer (some ⟨w.heap.size+1,0,none⟩),.slice none 0 0] 206)) w'.heap.size (w.heap.size+1) gp w.heap.size (.slice none 0 0) a []:=
    ⟨AF.new w' _ _,f.alloc _,⟨Cn _ _ _ _,λb t=>by cases t⟩,.inr (Ab _),.inl rfl⟩
   have V:Up (λb=>b=w.heap.size+1\/w'.heap.size<=b) (w'.alloc (.cells #[.pointer (some ⟨w.heap.size+1,0,none⟩),.slice none 0 0] 206)):=λb t=>.inr (by simp at t;omega);have bQ:=Zt R V (b:=b) (v:=v) ((Q.kept (λk cs j m=>by
     have o:=I.block k (by omega);exact(FU w' _ k (An j I.size)).trans o)).mono (λk _ o=>by have:=I.size;rintro(rfl|h2)<;>omega)) (by simp;omega) (by have:=C.lo;have:=HP.out.rl;have:s.length<=700:=Ad bL HP.out.rl;omega)
   obtain⟨G,bR,bS,dN,dO,fH,bT,dP⟩:=zq8 C T L bP I f K U;obtain⟨dQ,dR⟩:=zq2 bQ V;clear C T L Q bP I f K hi H hy U R V bQ;go_wp2_with fail;refine dQ.out.mono ?_;rintro e w2 ⟨rfl,W,iy,bU⟩;have bV:([]++BP a ([]:List Gm).length b).length<=1000000:=by have:=Ho b a 0;simp;omega
   have S:=fa bU (dR.out.kept W) bV .fin rfl rfl rfl;obtain⟨bW,K2⟩:=zq2 S W;clear S W bU bV;go_wp2_with fail;refine bW.out.mono ?_;rintro e w3 ⟨rfl,bX,X,u⟩;have ka:Ac (λb=>w'.heap.size<=b) w' (w'.alloc (.cells #[.pointer (some ⟨w.heap.size+1,0,none⟩),.slice none 0 0] 206)):=(Ac.refl _ w').alloc (Ab _) _;have k3:Ac (λb=>b=w.heap.size+1\/w'.heap.size<=b) w' w3:=(ka.mono (λb t=>.inr t)).trans (K2.out.trans bX);obtain⟨M,m1,m2,m3⟩:=G.out.map;have iA:w.heap.size+1+1<w'.heap.size:=by
    obtain⟨es,c,sb,_,_,_,_,_,h6,_⟩:=bR.out;rcases Be (w.heap.size+1+1) w'.heap.size with dU|dV
    ·exact dU
    ·rw[Cj dV]at h6;cases h6
   have Y:Ac (λb=>b=w.heap.size+1+1\/b=w.heap.size+1\/w'.heap.size<=b) wr w3:=(bS.out.mono (λb t=>.inl t)).trans (k3.mono (λb t=>.inr t));have D:BR w3 w.heap.size .i64 M:=m1.kept Y (by omega);obtain⟨c1,g1,l3,l4⟩:=zp4 (u.row.cell 1) (u.prog.cell 1) u.row.lt u.prog.lt;simp at c1 g1;obtain⟨bY,bZ,M2,M3,K3,dX,M1⟩:=zq7 D.drew u m2 m3 k3 Y m1;clear D u m1 m2 m3 k3 Y ka bX;go_wp2_with fail
   (refine Du 9 (by kernel_rfl) (by kernel_rfl) ?_;simp only[Au,AI,Av,AK];repeat still_step)
   refine BT ?_;go_wp2_with (at_mapUpdate;go_must (refine Hv gU Db bY.out rfl _ _ _ rfl rfl r rfl X rfl ?_;intro w6 J ci;have fc:=Aa J;have A:=Aa ci;clear J ci));have cj:∀x cs,AF w3 x 172 cs->¬x=w.heap.size:=λx cs m e=>bY.out.bK m.drew e.symm;have cu:FX M r=none:=M3.out r bT.out;have J:=fc.out;rw[VO X cu]at J;go_roundg (p.rules.length-(s.length+1))
   case measure=>have:(r::s).length=s.length+1:=rfl;omega
   case rel=>
    refine⟨r::s,a+b.loops,by simp,?_⟩;have fM:bm<w.heap.size:=HM.out.lt;refine⟨bR.out.iE ?_ ?_,BC.2 ⟨bT.out,G.out.nd⟩,λx q=>(AA.1 q).elim (λe=>e▸dP.out) (G.out.sub x),bZ.out.prog.drew.kept A.out (by omega),⟨_,J,?_,?_⟩,?_,?_⟩
    ·exact(A.out.block _ (by omega)).trans (K3.out.block _ (by omega))
    ·exact(A.out.block _ (by omega)).trans (K3.out.block _ (by omega))
    ·intro k j;rcases AA.1 j with rfl|j
     ·refine⟨X,Y9 cu,b,a,dN.out,?_,Ab _⟩;have hs:=bZ.out.l.mono (S':=λb=>w.heap.size<=b) (λx q=>by rcases q with rfl|q<;>omega);have fd:=(hs.of_heap (w':=w3.drew) rfl).kept A.out (λg hg=>by obtain⟨cs,m⟩:=hs.row hg;exact cj g cs m);exact fd
     ·obtain⟨v',fx,hc⟩:=M2.out k j;refine⟨v',Y8 fx,?_⟩;have fy:=hc.kept (loops':=a+b.loops) dX.out (λx cs m=>by
       have o:=G.out.qR.bK m;have h2:=m.cZ G.out.row (by decide);obtain⟨h3,h4⟩:=zp2 m.lt bS.out.size;omega) (by omega)
      have fB:WA (λb=>w.heap.size<=b) w3.drew p.rules (a+b.loops) k v':=fy.kept (S1:=λ_=>False) ((Ac.refl _ w3).drew) (λ_ _ _ x=>x) (Ab _);exact fB.kept A.out (λx cs m=>cj x cs m) (Ab _)
    ·intro k j;exact W8 (M3.out k (λh=>j (GS _ h))) (λe=>j (e▸Ly ..))
    ·have:=G.out.lo;have:=Jv b;simp only[Af];omega
    ·exact((dO.out.trans (K3.out.mono (λx q=>by rcases q with rfl|q<;>omega))).drew).trans (A.out.mono (λx q=>by rw[q];exact Ab _))
end
theorem FT.dd {N N':Nat->Prop}{w:World}{bm:Nat}{rules:List (Int×Az)}(h:FT N w bm rules) (a:∀k,k<w.heap.size->N k->N' k):FT N' w bm rules:=by obtain⟨M,b,c,d⟩:=h;exact⟨M,b,c,λi x y f g=>(d i x y f g).mono a⟩
structure JQ (S:Nat->Prop) (w:World) (gg:Nat) (p:Ax) (gp bm bc loops:Nat) (vd:Value):Prop where
 code:Uq S w gg gp bc loops p.rules
 bQ:AF w gp 106 [vd,.int .i64 p.bI,.map (some bm)]
 decls:Sl S w 102 3 vd p.decls.length (p.decls.flatMap Dx)
 rules:FT S w bm p.rules
 sp:S gp
 sb:S bm
section
variable {S S' T:Nat->Prop}{w w':World}{gg gp bm bc loops:Nat}{vd:Value}{p:Ax}{rules:List (Int×Az)}
theorem Uq.iE (h:Uq S w gg gp bc loops rules) (d:Ac T w w') (f:∀b,S b->b<w.heap.size->¬T b):Uq S w' gg gp bc loops rules:=by
 obtain⟨M,j,n⟩:=h.map;refine⟨h.row.kept d (f _ h.sg h.row.lt),⟨M,j.kept d (f _ h.sm j.lt),λk=>?_⟩,h.lo,h.sg,h.sm⟩;have:=n k;cases l:Bj rules k with
 |none=>rw[l]at this;exact this
 |some b=>
  rw[l]at this;obtain⟨v,a,o,c,q,i,r⟩:=this;exact⟨v,a,o,c,q,i.kept d (λg m=>f g (i.2 g m) (i.lt m)),r⟩
theorem Uq.dd (h:Uq S w gg gp bc loops rules) (d:∀b,b<w.heap.size->S b->S' b):Uq S' w gg gp bc loops rules:=by
 obtain⟨M,i,m⟩:=h.map;refine⟨h.row,⟨M,i,λk=>?_⟩,h.lo,d _ h.row.lt h.sg,d _ i.lt h.sm⟩;have:=m k;cases j:Bj rules k with
 |none=>rw[j]at this;exact this
 |some b=>
  rw[j]at this;obtain⟨v,a,n,c,o,f,q⟩:=this;exact⟨v,a,n,c,o,⟨f.1,λg l=>d g (f.lt l) (f.2 g l)⟩,q⟩
theorem JQ.kept (h:JQ S w gg p gp bm bc loops vd) (a:Ac T w w') (c:∀b,S b->b<w.heap.size->¬T b):JQ S w' gg p gp bm bc loops vd:=by
 obtain⟨M,f,_⟩:=h.rules;exact⟨h.code.iE a c,h.bQ.kept a (c _ h.sp h.bQ.lt),h.decls.kept a (λb d=>c b (h.decls.2 b d) (h.decls.lt d)),
  h.rules.kept (a.block bm (c _ h.sb f.lt)) (λk cs g i=>a.block k (c k g i.lt)),h.sp,h.sb⟩
theorem JQ.mono (h:JQ S w gg p gp bm bc loops vd) (a:∀b,b<w.heap.size->S b->S' b):JQ S' w gg p gp bm bc loops vd:=by obtain⟨M,d,_⟩:=h.rules;exact⟨h.code.dd a,h.bQ,⟨h.decls.1,λg c=>a g (h.decls.lt c) (h.decls.2 g c)⟩,FT.dd h.rules a,a _ h.bQ.lt h.sp,a _ d.lt h.sb⟩
theorem JQ.ro (h:JQ S w gg p gp bm bc loops vd):uh w.heap.size w gg gp vd (.map (some bm)) (.map (some bc)) loops p:=
 ⟨h.code.row,h.bQ,⟨h.decls.1,λ_ a=>h.decls.lt a⟩,h.code.row.lt,h.bQ.lt⟩
end
structure Ab6 (S:Nat->Prop) (w:World) (ge:Nat) (e:EX) (gg gs ga gp bm bc loops:Nat) (vd mu:Value) (SA:Nat->Prop) (A:Am) (ns:List (List Nat)):Prop where
 row:AF w ge 79 [.pointer (some ⟨gg,0,none⟩),.pointer (some ⟨gs,0,none⟩),.int .i64 e.n.fx,.int .i64 e.n.dH,.int .i64 e.n.cw]
 prog:JQ (λb=>S b/\¬SA b) w gg e.p gp bm bc loops vd
 bS:AF w gs 92 [.pointer (some ⟨ga,0,none⟩),mu]
 vars:Sl (λb=>S b/\¬SA b) w 3 1 mu e.s.vars.length (e.s.vars.map JF)
 ar:∃vl vf vq bm,BL SA w ga A vl vf vq bm
 inv:CE A ns e.s.q
 si:G4 e.p e.s
 pw:Em e.p
 mi:∀(j:Nat) x,NK e.s j x->(Aq e.p.decls (j:Int)).kind≠2
 sa:∀b,SA b->S b
 se:S ge/\¬SA ge
 ss:S gs/\¬SA gs
def GT (S:Nat->Prop) (w:World) (ge:Nat) (e:EX):Prop:=
 ∃gg gs b gp bm bc loops vd a c A d,Ab6 S w ge e gg gs b gp bm bc loops vd a c A d
section
variable {S S' T:Nat->Prop}{w w':World}{ge:Nat}{e:EX}
theorem GT.kept (h:GT S w ge e) (c:Ac T w w') (d:∀b,S b->b<w.heap.size->¬T b):GT S w' ge e:=by
 obtain⟨gg,gs,l,gp,bm,bc,loops,vd,f,k,A,m,h⟩:=h;obtain⟨n,o,q,g,r⟩:=h.ar;have i:=r.shrink;have j:∀b,S b/\¬k b->b<w.heap.size->¬T b:=λb a=>d b a.1;refine⟨gg,gs,l,gp,bm,bc,loops,vd,f,k,A,m,h.row.kept c (d _ h.se.1 h.row.lt),h.prog.kept c j,h.bS.kept c (d _ h.ss.1 h.bS.lt),h.vars.kept c (λb a=>d b (h.vars.2 b a).1 (h.vars.lt a)),
  ⟨n,o,q,g,(i.kept c (λb a=>d b (h.sa b a.1) a.2)).mono (λb a=>a.1)⟩,h.inv,h.si,h.pw,h.mi,h.sa,h.se,h.ss⟩
theorem GT.mono (h:GT S w ge e) (c:∀b,S b->S' b):GT S' w ge e:=by obtain⟨gg,gs,i,gp,bm,bc,loops,vd,d,f,A,j,h⟩:=h;have g:∀b,b<w.heap.size->(S b/\¬f b)->(S' b/\¬f b):=λb _ a=>⟨c b a.1,a.2⟩;exact⟨gg,gs,i,gp,bm,bc,loops,vd,d,f,A,j,h.row,h.prog.mono g,h.bS,h.vars.mono (λb a=>⟨c b a.1,a.2⟩),h.ar,h.inv,h.si,h.pw,h.mi,λb a=>c b (h.sa b a),⟨c _ h.se.1,h.se.2⟩,⟨c _ h.ss.1,h.ss.2⟩⟩
theorem GT.lt (h:GT S w ge e):ge<w.heap.size:=by obtain⟨gg,gs,b,gp,bm,bc,loops,vd,a,c,A,d,h⟩:=h;exact h.row.lt
theorem GT.inv (h:GT S w ge e):Em e.p/\Td e.p e.s:=by obtain⟨gg,gs,c,gp,bm,bc,loops,vd,a,d,A,b,h⟩:=h;exact⟨h.pw,h.si,h.mi,A,b,h.inv⟩
end
end Go.Proofs.YtodkkholbjeioaaGreatDoor.Ev
namespace Go.Proofs.YtodkkholbjeioaaGreatDoor.Ev
open _root_.Go.Proofs.Tryz
def F9 (q:Bi->Bool):List Bi->Nat->Int
 | [],_=> -1
 |d::l,k=>if q d=true then(k:Int)else F9 q l (k+1)
theorem N8 (q:Bi->Bool):∀(l:List Bi) (k:Nat),(∀(j:Nat) (d:Bi),l[j]?=some d->q d=false)->F9 q l k= -1
 | [],k,_=>rfl
 |d::l,k,h=>by rw[F9,Ai (by rw[h 0 d rfl];decide)];exact N8 q l (k+1) (λj a b=>h (j+1) a b)
theorem TE (q:Bi->Bool):∀(l:List Bi) (k i:Nat) (d:Bi),l[i]?=some d->q d=true->(∀(j:Nat) (d:Bi),j<i->l[j]?=some d->q d=false)->F9 q l k=((k+i:Nat):Int)
 | [],k,i,d,h,_,_=>by simp at h
 |c::l,k,0,d,h,b,_=>by
  simp only[AJ,Co]at h;subst h;rw[F9,Al b];rfl
 |c::l,k,i+1,d,h,b,a=>by rw[F9,Ai (by rw[a 0 c (Ci _) rfl];decide),TE q l (k+1) i d (by simpa using h) b (λj x f e=>a (j+1) x (by omega) (by simpa using e))];congr 1;omega
def KS (nm:Ah) (v:Bool) (d:Bi):Bool:=d.name==nm&&((d.kind==2)==v)
theorem Wm {l:List Bi}(r:(l.map (·.name)).Nodup) (nm:Ah) (v:Bool):
  F9 (KS nm v) l 0=if find l nm<0\/((Aq l (find l nm)).kind==2)≠v then-1 else find l nm:=by
 have g:∀(i j:Nat) (d c:Bi),l[i]?=some d->l[j]?=some c->d.name=nm->c.name=nm->i=j:=by intro i j d c f b s t;exact jw r (i:=i) (j:=j) (x:=nm) (by rw[At,f,Ca,s]) (by rw[At,b,Ca,t])
 rcases JC nm l 0 with h|⟨i,d,f,o,h⟩
 ·have m:find l nm= -1:=h;rw[m,Al (.inl (by decide))];refine N8 _ _ _ (λj d b=>?_);have a:d.name≠nm:=by intro e;have k:=cF (l:=l) (name:=nm) (by rw[m];decide);exact k (AE.2 ⟨d,Aw b,e⟩)
  unfold KS;simp[a]
 ·have m:find l nm=(i:Int):=by have:find l nm=((0+i:Nat):Int):=h;rw[this,DK]
  have p:Aq l (i:Int)=d:=MJ f;rw[m,p];by_cases n:(d.kind==2)=v
  ·rw[Ai (by rintro(h|h);omega;exact h n)];have:=TE (KS nm v) l 0 i d f (by unfold KS;simp[o,n]) (λj c b q=>by
    unfold KS;have a:c.name≠nm:=λe=>by have:=g j i c d q f e o;omega
    simp[a])
   rw[this,DK]
  ·rw[Al (.inr n)];refine N8 _ _ _ (λj c b=>?_);unfold KS;by_cases a:c.name=nm
   ·have:=g j i c d b f a o;subst this;rw[f]at b;injection b with b;subst b;have:((d.kind==2)==v)=false:=by simpa using n
    rw[this,Bool.and_false]
   ·simp[a]
theorem fp {p:Ax}{s:St}{c:Km}(b:(p.decls.map (·.name)).Nodup) (nm:Ah):
  (⟨p,s,c⟩:EX).keys nm=if F9 (KS nm false) p.decls 0<0 then none else some ((s.queue (F9 (KS nm false) p.decls 0)).map (·.key)):=by
 rw[Wm b];unfold EX.keys;by_cases h:find p.decls nm<0\/(Aq p.decls (find p.decls nm)).kind=2
 ·have a:find p.decls nm<0\/((Aq p.decls (find p.decls nm)).kind==2)≠false:=h.elim .inl (λe=>.inr (by simp[e]));simp only[Al h,Al a];rw[Al (by decide)]
 ·have a:¬(find p.decls nm<0\/((Aq p.decls (find p.decls nm)).kind==2)≠false):=λe=>h (e.elim .inl (λe=>.inr (by simpa using e)));simp only[Ai h,Ai a];rw[Ai (λe=>h (.inl e))]
theorem ac {p:Ax}{s:St}{c:Km}(b:(p.decls.map (·.name)).Nodup) (nm:Ah):
  (⟨p,s,c⟩:EX).value nm=if F9 (KS nm true) p.decls 0<0 then none else some (s.var (F9 (KS nm true) p.decls 0)):=by
 rw[Wm b];unfold EX.value;by_cases h:find p.decls nm<0\/(Aq p.decls (find p.decls nm)).kind≠2
 ·have a:find p.decls nm<0\/((Aq p.decls (find p.decls nm)).kind==2)≠true:=h.elim .inl (λe=>.inr (by simp[e]));simp only[Al h,Al a];rw[Al (by decide)]
 ·have a:¬(find p.decls nm<0\/((Aq p.decls (find p.decls nm)).kind==2)≠true):=λe=>h (e.elim .inl (λe=>.inr (by simpa using e)));simp only[Ai h,Ai a];rw[Ai (λe=>h (.inl e))]
theorem cG (q:Bi->Bool) (l:List Bi):F9 q l 0= -1\/Ix l.length (F9 q l 0):=by
 have:∀(l:List Bi) (k:Nat),F9 q l k= -1\/((k:Int)<=F9 q l k/\F9 q l k<((k+l.length:Nat):Int)):=by
  intro l
  induction l with
  |nil=>exact λk=>.inl rfl
  |cons d l a=>
   intro k;rw[F9];split
   ·right;simp;omega
   ·rcases a (k+1)with h|h
    ·exact .inl h
    ·right;simp;omega
 rcases this l 0 with h|h
 ·exact .inl h
 ·exact .inr ⟨by simpa using h.1,by simpa using h.2⟩
end Go.Proofs.YtodkkholbjeioaaGreatDoor.Ev
namespace Go.Proofs.YtodkkholbjeioaaGreatDoor.Ev
open _root_.Go.Proofs.Tryz
open Go Go.RowKit Go.Shelf
theorem gc (nm:Ah) (v:Bool) (b a:Nat) (d:Bi) (w:World) (k:b<w.heap.size) (h:a<w.heap.size) (l:w.cell? ⟨b,0,none⟩=some (vs nm)) (i:w.cell? ⟨a,0,none⟩=some (.bool v)):
  Calls prog 70 #[.agg (Dx d).toArray,.pointer (some ⟨b,0,none⟩),.pointer (some ⟨a,0,none⟩)] w λe w'=>e= .returned (.bool (KS nm v d))/\Below w.heap.size w w':=by
 have j:b≠w.heap.size:=by omega
 have c:a≠w.heap.size:=by omega
 unfold Dx vs at*;unfold KS;have f:(d.kind==2)=decide ((d.kind:Int)=2):=by rw[GH];simp;omega
 rw[f];generalize (d.kind:Int)=K;clear f;by_cases g:d.name=nm
 ·have e1:(d.name==nm)=true:=by simpa using g
  rw[e1];go_enter func70,ntmps70;go_wp2
  all_goals(go_ret;exact⟨by simp_all<;>rfl,(LA _ w).alloc (Ab _) _⟩)
 ·have e1:(d.name==nm)=false:=by simpa using g
  rw[e1];go_enter func70,ntmps70;go_wp2
  all_goals(go_ret;exact⟨by simp_all<;>rfl,(LA _ w).alloc (Ab _) _⟩)
theorem fZ {S:Nat->Prop}(nm:Ah) (v:Bool) (b s:Nat) (l:List Bi) (F:Value) (w:World) (z:Sl S w 102 3 F l.length (l.flatMap Dx)) (T:l.length<=1000) (G:b<w.heap.size) (t:s<w.heap.size)
  (H:w.cell? ⟨b,0,none⟩=some (vs nm)) (u:w.cell? ⟨s,0,none⟩=some (.bool v)):
  Calls prog 69 #[F,.func (.func 70) #[] #[.pointer (some ⟨b,0,none⟩),.pointer (some ⟨s,0,none⟩)]] w λe w'=>e= .returned (.int .i64 (F9 (KS nm v) l 0))/\Below w.heap.size w w':=by
 obtain⟨U,M,rfl⟩:=z.cB;obtain⟨N,O,I,B,y⟩:=zq5 z H G u t;clear z H G u t;go_enter func69,ntmps69;go_wp2
 go_loopg [5,8] l.length (λP _ Q wr=>∃g:Nat,g<=l.length/\l.length-g<=P/\Q= .int .i64 g/\Below w.heap.size w wr/\(∀(j:Nat) (d:Bi),j<g->l[j]?=some d->KS nm v d=false))
 case atStart=>exact⟨0,AM _,by omega,rfl,LA _ w,λj d J=>absurd J (UZ _)⟩
 case round=>
  obtain⟨g,R,V,rfl,K,a⟩:=hrel;obtain⟨h,A⟩:=zq2 K a;clear K a;by_cases C:g<l.length
  ·obtain⟨x,D⟩:∃x,l[g]?=some x:=⟨_,Ae C⟩;obtain⟨q,rfl,k,f⟩:=N.out.nM (λ_=>rfl) D;have W:wr.cell? ⟨q,g*3,none⟩=some (.int .i64 x.kind):=(h.out.cell (p:=⟨q,g*3,none⟩) k).trans (f 0 (by omega));have X:wr.cell? ⟨q,g*3+1,none⟩=some (vs x.name):=(h.out.cell (p:=⟨q,g*3+1,none⟩) k).trans (f 1 (by omega));have c2:wr.cell? ⟨q,g*3+2,none⟩=some (.int .i64 x.max):=(h.out.cell (p:=⟨q,g*3+2,none⟩) k).trans (f 2 (by omega));have c:=gc nm v b s x wr (An I.out h.out.size) (An y.out h.out.size) ((h.out.cell (p:=⟨b,0,none⟩) I.out).trans O.out) ((h.out.cell (p:=⟨s,0,none⟩) y.out).trans B.out);have L:=Aa D;clear D f k;unfold vs at*;cases r:KS nm v x with
   |true=>
    rw[r]at c;obtain⟨n,E⟩:=zq2 c r;clear c r;go_wp2_with fail;refine n.out.mono ?_;rintro e w' ⟨rfl,i⟩;have o:=Aa i;clear i;go_wp2;go_ret;refine⟨?_,h.out.trans (o.out.mono h.out.size)⟩;rw[TE _ l 0 g x L.out E.out A.out,DK];rfl
   |false=>
    rw[r]at c;obtain⟨n,E⟩:=zq2 c r;clear c r;go_wp2_with fail;refine n.out.mono ?_;rintro e w' ⟨rfl,i⟩;have o:=Aa i;clear i;go_wp2;go_roundg (l.length-(g+1))
    case measure=>omega
    case rel=>
     refine⟨g+1,by omega,by omega,by go_num,h.out.trans (o.out.mono h.out.size),λj d J m=>?_⟩;by_cases e:j=g
     ·subst e;rw[L.out]at m;injection m with m;exact m▸E.out
     ·exact A.out j d (by omega) m
  ·have:g=l.length:=by omega
   subst this;go_wp2;go_ret;refine⟨?_,h.out⟩;rw[N8 _ l 0 (λj d m=>A.out j d (Aj.1 m).1 m)];rfl
def Abg (w:World) (n:Int) (e:Ending) (w':World):Prop:=e= .returned (.int .i64 n)/\Ac (λb=>w.heap.size<=b) w w'
theorem Ac.ml {w w':World}(h:Below w.heap.size w w'):Ac (λb=>w.heap.size<=b) w w':=Ac.dF h (λ_ h=>h)
theorem Yz {S:Nat->Prop}{w:World}{ge:Nat}{e:EX}(h:GT S w ge e) (nm:Ah) (v:Bool):
  Calls prog 45 #[.pointer (some ⟨ge,0,none⟩),vs nm,.bool v] w (Abg w (F9 (KS nm v) e.p.decls 0)):=by
 obtain⟨i,gs,t,gp,u,x,f,k,l,y,A,z,h⟩:=h;obtain⟨m,n,o,r1,B,C⟩:=zp6 (h.row.cell 0) (h.prog.code.row.cell 0) (h.prog.bQ.cell 0) h.row.lt h.prog.code.row.lt h.prog.bQ.lt;have q:∀(j:Fn) (first c:Array Value) (w:World),(Instr.makeFunc j first c).run prog w= .ok (.func j first c) w:=λ_ _ _ _=>rfl;have a:=fZ nm v w.heap.size (w.heap.size+1) e.p.decls k ((w.alloc (.cells #[vs nm] 9)).alloc (.cells #[.bool v] 4)) ((h.prog.decls.alloc _).alloc _) (by have:=h.pw.decls.len;omega) (by simp;omega) (by simp) (by simp) (by simp);obtain⟨E,c,rfl⟩:=h.prog.decls.cB;have F:¬ge=w.heap.size:=by omega
 have G:¬ge=w.heap.size+1:=by omega
 have H:¬i=w.heap.size:=by omega
 have I:¬i=w.heap.size+1:=by omega
 have J:¬gp=w.heap.size:=by omega
 have K:¬gp=w.heap.size+1:=by omega
 have r:=Aa a;generalize F9 (KS nm v) e.p.decls 0=R at*;generalize e.p.decls.length=D at*;clear a h;simp at m n o;unfold vs at*;go_enter func45,ntmps45;go_wp2_with fail;refine r.out.mono ?_;rintro e w' ⟨rfl,d⟩;have g:=Aa d;clear d;go_wp2;go_ret;exact⟨rfl,(((Ac.refl _ w).alloc (Ab _) _).alloc (by simp) _).trans ((Ac.ml g.out).mono (λb s=>by simp at s;omega))⟩
end Go.Proofs.YtodkkholbjeioaaGreatDoor.Ev
namespace Go.Proofs.YtodkkholbjeioaaGreatDoor.Ev
open _root_.Go.Proofs.Tryz
open Go Go.RowKit
def xD (w:World) (r:Option (List Int)) (e:Ending) (w':World):Prop:=
 Ac (λb=>w.heap.size<=b) w w'/\match r with
  |none=>e= .returned (.tuple #[.slice none 0 0,.int .i64 13])
  |some l=>∃v,e= .returned (.tuple #[v,.int .i64 0])/\Sl (λb=>w.heap.size<=b) w' 25 1 v l.length (l.map KE)
section
variable {S:Nat->Prop}{w:World}{ge:Nat}{e:EX}
theorem mv (C:GT S w ge e) (nm:Ah):Calls prog 24 #[.pointer (some ⟨ge,0,none⟩),vs nm] w (xD w (e.keys nm)):=by
 have f:=Yz C nm false;have g:=C.inv;have i:e.keys nm=if F9 (KS nm false) e.p.decls 0<0 then none else some ((e.s.queue (F9 (KS nm false) e.p.decls 0)).map (·.key)):=fp (p:=e.p) (s:=e.s) (c:=e.n) g.1.decls.nodup nm;rw[i];have a:=cG (KS nm false) e.p.decls;generalize F9 (KS nm false) e.p.decls 0=R at*;obtain⟨N,T⟩:=zq2 f C;clear f i C;unfold vs at*;rcases a with rfl|a
 ·clear g;go_enter func24,ntmps24;go_wp2_with fail;refine N.out.mono ?_;rintro e1 w1 ⟨rfl,d⟩;go_wp2;go_ret2;exact⟨d,rfl⟩
 ·have t:¬R<0:=by have:=a.1;omega
  rw[Ai t];obtain⟨m,rfl⟩:∃m:Nat,R=(m:Int):=⟨R.toNat,by have:=a.1;omega⟩;obtain⟨Z,gs,O,gp,bm,bc,H,vd,U,SA,A,ns,h⟩:=T.out;obtain⟨vl,vf,vq,V,u⟩:=h.ar;have I:m<A.qs.length:=by rw[←h.inv.jg,h.si.q];have:=a.2;omega
  obtain⟨l,D⟩:=h.inv.get I;have x:=h.inv.chain D;have J:=h.inv.iy m l D;have E:=h.inv.queue e.s.vars D;have y:(⟨e.s.q,e.s.vars⟩:St)=e.s:=rfl;rw[y]at E;have z:PT A l=((e.s.queue (m:Int)).map (·.key)).map KE:=by rw[E];unfold PT;rw[IK,IK];rfl
  have o:((e.s.queue (m:Int)).map (·.key)).length=l.length:=by rw[E];simp
  obtain⟨P,Q,r1,r2⟩:=zp4 (h.row.cell 1) (h.bS.cell 0) h.row.lt h.bS.lt;have j:∀W,Ac (λb=>w.heap.size<=b) w W->Calls prog 46 #[.pointer (some ⟨O,0,none⟩),.int .i64 m] W λe w'=>
    ∃v,e= .returned v/\Ac (λb=>W.heap.size<=b) W w'/\Sl (λb=>W.heap.size<=b) w' 25 1 v l.length (PT A l):=λW F=>by
   have X:=(u.shrink).kept F (λb r=>by have:=r.2;omega);exact pY X (So:=λb=>W.heap.size<=b) (λk F=>F) (λb r=>by have:=r.2;have:=F.size;omega) h.inv.ok (by have:=h.inv.q8;omega) m I l x (by omega)
  obtain⟨Y,K,B⟩:=zq3 j z o;clear j u h x D E y z o g I J a;simp at P Q;go_enter func24,ntmps24;go_wp2_with fail;refine N.out.mono ?_;rintro e1 w1 ⟨rfl,d⟩;have d1:w1.cell? ⟨ge,1,none⟩=some (.pointer (some ⟨gs,0,none⟩)):=(d.cell (p:=⟨ge,1,none⟩) (by simp only;omega)).trans P;have d0:w1.cell? ⟨gs,0,none⟩=some (.pointer (some ⟨O,0,none⟩)):=(d.cell (p:=⟨gs,0,none⟩) (by simp only;omega)).trans Q;have G:=Aa d;clear d;go_wp2_with fail;refine(Y.out _ G.out).mono ?_;rintro e1 w2 ⟨v,rfl,L,M⟩;go_wp2;go_ret2;refine⟨G.out.trans (L.mono (λb r=>Ad G.out.size r)),v,rfl,?_⟩;rw[B.out,←K.out];exact M.mono (λb r=>Ad G.out.size r)
def Abd (w:World) (r:Option Int) (e:Ending) (w':World):Prop:=
 Ac (λb=>w.heap.size<=b) w w'/\match r with
  |none=>e= .returned (.tuple #[.int .i64 0,.int .i64 13])
  |some n=>e= .returned (.tuple #[.int .i64 n,.int .i64 0])
theorem fW (k:GT S w ge e) (nm:Ah):Calls prog 26 #[.pointer (some ⟨ge,0,none⟩),vs nm] w (Abd w (e.value nm)):=by
 have f:=Yz k nm true;have b:=k.inv;have g:e.value nm=if F9 (KS nm true) e.p.decls 0<0 then none else some (e.s.var (F9 (KS nm true) e.p.decls 0)):=ac (p:=e.p) (s:=e.s) (c:=e.n) b.1.decls.nodup nm;rw[g];have d:=cG (KS nm true) e.p.decls;generalize F9 (KS nm true) e.p.decls 0=R at*;obtain⟨r,B⟩:=zq2 f k;clear f g k;unfold vs at*;rcases d with rfl|d
 ·clear b;go_enter func26,ntmps26;go_wp2_with fail;refine r.out.mono ?_;rintro e1 w1 ⟨rfl,a⟩;go_wp2;go_ret2;exact⟨a,rfl⟩
 ·have i:¬R<0:=by have:=d.1;omega
  rw[Ai i];obtain⟨m,rfl⟩:∃m:Nat,R=(m:Int):=⟨R.toNat,by have:=d.1;omega⟩;obtain⟨H,gs,I,gp,J,K,l,M,C,N,A,O,h⟩:=B.out;have j:e.s.vars.length=e.p.decls.length:=h.si.v;have t:m<e.s.vars.length:=by rw[j];have:=d.2;omega
  have P:=b.1.decls.len;obtain⟨o,D,rfl,_,E,q,F⟩:=h.vars.form (by omega);have u:=h.vars.1.cellAt m (by simpa using t);have x:(e.s.vars.map JF)[m]?=some (.int .i64 (e.s.var (m:Int))):=by unfold St.var;rw[As,At,Ae t];rfl
  rw[x]at u;obtain⟨y,z,r1,Q⟩:=zp4 (h.row.cell 1) (h.bS.cell 1) h.row.lt h.bS.lt;unfold maxLen at q;generalize e.s.vars.length=L at*;clear h b x d j;simp at y z;go_enter func26,ntmps26;go_wp2_with fail;refine r.out.mono ?_;rintro e1 w1 ⟨rfl,a⟩;have T:w1.cell? ⟨ge,1,none⟩=some (.pointer (some ⟨gs,0,none⟩)):=(a.cell (p:=⟨ge,1,none⟩) (by simp only;omega)).trans y;have U:w1.cell? ⟨gs,1,none⟩=some (.slice (some ⟨o,0,none⟩) L D):=(a.cell (p:=⟨gs,1,none⟩) (by simp only;omega)).trans z;have V:w1.cell? ⟨o,m,none⟩=some (.int .i64 (e.s.var (m:Int))):=(a.cell (p:=⟨o,m,none⟩) (by simp only;omega)).trans u;have G:=Aa a;clear a;go_wp2;go_ret2;exact⟨G.out,rfl⟩
theorem mW (w:World):(isAgg 48).run prog w= .ok true w:=by kernel_rfl
theorem eH (w:World):(Go.sizeOf 48).run prog w= .ok 3 w:=by kernel_rfl
def rF (c:Km):Value:=.agg #[.int .i64 c.fx,.int .i64 c.dH,.int .i64 c.cw]
def sL (w:World) (c:Km) (e:Ending) (w':World):Prop:=e= .returned (rF c)/\Ac (λb=>w.heap.size<=b) w w'
theorem cN (b:GT S w ge e):Calls prog 28 #[.pointer (some ⟨ge,0,none⟩)] w (sL w e.n):=by
 obtain⟨d,gs,f,gp,g,i,a,j,c,k,A,l,h⟩:=b;obtain⟨c2,c3,c4,r1⟩:=zp4 (h.row.cell 2) (h.row.cell 3) (h.row.cell 4) h.row.lt;have m:¬ge=w.heap.size:=by omega
 clear h;simp at c2 c3 c4;go_enter func28,ntmps28;go_wp2;refine AB (AT (cs:=[.int .i64 e.n.fx,.int .i64 e.n.dH,.int .i64 e.n.cw]) Tryz.results28 mW eH rfl (AF.new w _ _)) rfl ?_;exact⟨rfl,(Ac.refl _ w).alloc (Ab _) _⟩
end
end Go.Proofs.YtodkkholbjeioaaGreatDoor.Ev
namespace Go.Proofs.YtodkkholbjeioaaGreatDoor.Ev
open _root_.Go.Proofs.Tryz
open Go Go.RowKit Go.Extern.Stop Go.Stop Go.Extern
theorem Sd (v:Value) (w:World):(Extern.ReflectliteType.typeOf #[.iface 304 v]).run prog w= .ok (.iface 242 (.agg #[.pointer (some ⟨21,304,none⟩)])) w:=by kernel_rfl
theorem Lh (w:World):((Extern.ReflectliteType.method λt=>do Extern.Rtype.noPackHeld "Comparable" t;Functor.map (λa=>Value.bool a.comparable) (typeInfo t)) #[.agg #[.pointer (some ⟨21,304,none⟩)]]).run prog w= .ok (.bool true) w:=by kernel_rfl
theorem Gh (v:Value) (w:World):(Go.method 433 242 v "Comparable").run prog w= .ok (192,v) w:=by kernel_rfl
theorem Ze:(prog.info? 304).map (·.comparable)=some true:=by kernel_rfl
theorem Zc:(prog.info? 306).map (·.size)=some 1:=by kernel_rfl
theorem pG (v:Value) (a:TypeId) (w:World):(Instr.typeAssert (.iface 304 v) a 261 true).run prog w= .ok (.tuple #[.nilIface,.bool false]) w:=Nf underlying261 (by kernel_rfl) (by kernel_rfl) v a w
theorem Tq (v:Value) (a:TypeId) (w:World):(Instr.typeAssert (.iface 304 v) a 249 true).run prog w= .ok (.tuple #[.nilIface,.bool false]) w:=Nf underlying249 (by kernel_rfl) (by kernel_rfl) v a w
theorem QJ (v:Value) (a:TypeId) (w:World):(Instr.typeAssert (.iface 304 v) a 251 true).run prog w= .ok (.tuple #[.nilIface,.bool false]) w:=Nf underlying251 (by kernel_rfl) (by kernel_rfl) v a w
theorem pF (v:Value) (a:TypeId) (w:World):(Instr.typeAssert (.iface 125 v) a 261 true).run prog w= .ok (.tuple #[.nilIface,.bool false]) w:=Nf underlying261 (by kernel_rfl) (by kernel_rfl) v a w
theorem QU (v:Value) (a:TypeId) (w:World):(Instr.typeAssert (.iface 125 v) a 249 true).run prog w= .ok (.tuple #[.iface 125 v,.bool true]) w:=run_typeAssert_hasB underlying249 (by kernel_rfl) v a w
theorem Vi (gf:Nat) (a b:Value) (w:World) (h:AF w gf 129 [a,b]):Calls prog 185 #[.pointer (some ⟨gf,0,none⟩)] w λe w'=>e= .returned a/\w'=w:=by have c:=h.cell 0;simp at c;clear h;go_enter func185,ntmps185;go_wp2;go_ret;exact⟨rfl,rfl⟩
theorem vO (a:Addr) (w:World):
  Calls prog 66 #[.iface 304 (.pointer (some a)),.iface 304 (.pointer (some a))] w λe w'=>e= .returned (.bool true)/\w'=w:=by
 obtain⟨i,c,b⟩:=AU.1 Ze;obtain⟨j,d,f⟩:=AU.1 Zc;obtain⟨k,l,m,g⟩:=zp4 Sd Lh Gh (run_eql_iface_ptr_same (P:=prog) w a GK Lw c b d);have n:=@Bb prog 104 _ Extern.ReflectliteType.typeOf UF (by kernel_rfl) (by kernel_rfl) (by kernel_rfl) (by kernel_rfl);have h:=@Bb prog 192 _ (Extern.ReflectliteType.method λt=>do Extern.Rtype.noPackHeld "Comparable" t;pure (.bool (←typeInfo t).comparable)) hQ (by kernel_rfl) (by kernel_rfl) (by kernel_rfl) (by kernel_rfl);go_enter nZ,gZ;go_wp2;refine P1 1 ?_;rw[NT];go_wp2;go_ret;exact⟨rfl,rfl⟩
theorem NX (v:Value) (w:World):(Go.method 433 125 v "Unwrap").run prog w= .ok (185,v) w:=by kernel_rfl
theorem qa (a b:Addr) (g h:Array Value) (k l:TypeId) (w:World) (d:a≠b) (m:w.heap[a.block]?=some (.cells g k (0,0))) (n:w.heap[b.block]?=some (.cells h l (0,0))):
  Calls prog 66 #[.iface 304 (.pointer (some a)),.iface 304 (.pointer (some b))] w λe w'=>e= .returned (.bool false)/\w'=w:=by
 obtain⟨i,o,c⟩:=AU.1 Ze;obtain⟨j,p,f⟩:=AU.1 Zc;obtain⟨s,u,v,x,y,z,A,B⟩:=zp8 Sd Lh Gh pG Tq QJ pF QU;have C:=NX;have q:=run_eql_iface_ptr_other (P:=prog) w GK Lw o c p (by rw[f];decide) d m n;have D:=@Bb prog 104 _ Extern.ReflectliteType.typeOf UF (by kernel_rfl) (by kernel_rfl) (by kernel_rfl) (by kernel_rfl);have r:=@Bb prog 192 _ (Extern.ReflectliteType.method λt=>do Extern.Rtype.noPackHeld "Comparable" t;pure (.bool (←typeInfo t).comparable)) hQ (by kernel_rfl) (by kernel_rfl) (by kernel_rfl) (by kernel_rfl);go_enter nZ,gZ;go_wp2;refine P1 1 ?_;rw[NT];go_wp2;go_ret;exact⟨rfl,rfl⟩
theorem W9 (gf:Nat) (x:Value) (b:Addr) (w:World) (h:AF w gf 129 [.iface 304 (.pointer (some b)),x]):
  Calls prog 66 #[.iface 125 (.pointer (some ⟨gf,0,none⟩)),.iface 304 (.pointer (some b))] w λe w'=>e= .returned (.bool true)/\w'=w:=by
 obtain⟨i,c,a⟩:=AU.1 Ze;obtain⟨j,d,f⟩:=AU.1 Zc;obtain⟨n,o,p,q,r,s,u,v⟩:=zp8 Sd Lh Gh pG Tq QJ pF QU;have y:=NX;have g:=run_eql_iface_ptr_same (P:=prog) w b GK Lw c a d;have k:=run_eql_iface_types (P:=prog) 125 304 (.pointer (some ⟨gf,0,none⟩)) (.pointer (some b)) GK (by decide) w;have z:=@Bb prog 104 _ Extern.ReflectliteType.typeOf UF (by kernel_rfl) (by kernel_rfl) (by kernel_rfl) (by kernel_rfl);have l:=@Bb prog 192 _ (Extern.ReflectliteType.method λt=>do Extern.Rtype.noPackHeld "Comparable" t;pure (.bool (←typeInfo t).comparable)) hQ (by kernel_rfl) (by kernel_rfl) (by kernel_rfl) (by kernel_rfl);have m:=Aa h;clear h;go_enter nZ,gZ;go_wp2;refine P1 2 ?_;rw[NT];go_wp2_with (go_at_call 185;refine(Vi gf _ x w m.out).mono ?_;rintro e w' ⟨rfl,rfl⟩);rw[NT];go_wp2;go_ret;exact⟨rfl,rfl⟩
theorem VY (gf:Nat) (x:Value) (a b:Addr) (g k:Array Value) (l m:TypeId) (w:World) (h:AF w gf 129 [.iface 304 (.pointer (some a)),x]) (d:a≠b) (n:w.heap[a.block]?=some (.cells g l (0,0))) (o:w.heap[b.block]?=some (.cells k m (0,0))):
  Calls prog 66 #[.iface 125 (.pointer (some ⟨gf,0,none⟩)),.iface 304 (.pointer (some b))] w λe w'=>e= .returned (.bool false)/\w'=w:=by
 obtain⟨i,p,c⟩:=AU.1 Ze;obtain⟨j,q,f⟩:=AU.1 Zc;obtain⟨y,z,A,B,C,D,E,F⟩:=zp8 Sd Lh Gh pG Tq QJ pF QU;have G:=NX;have r:=run_eql_iface_ptr_other (P:=prog) w GK Lw p c q (by rw[f];decide) d n o;have s:=run_eql_iface_types (P:=prog) 125 304 (.pointer (some ⟨gf,0,none⟩)) (.pointer (some b)) GK (by decide) w;have H:=@Bb prog 104 _ Extern.ReflectliteType.typeOf UF (by kernel_rfl) (by kernel_rfl) (by kernel_rfl) (by kernel_rfl);have u:=@Bb prog 192 _ (Extern.ReflectliteType.method λt=>do Extern.Rtype.noPackHeld "Comparable" t;pure (.bool (←typeInfo t).comparable)) hQ (by kernel_rfl) (by kernel_rfl) (by kernel_rfl) (by kernel_rfl);have v:=Aa h;clear h;go_enter nZ,gZ;go_wp2;refine P1 2 ?_;rw[NT];go_wp2_with (go_at_call 185;refine(Vi gf _ x w v.out).mono ?_;rintro e w' ⟨rfl,rfl⟩);rw[NT];go_wp2;go_ret;exact⟨rfl,rfl⟩
theorem Zv (t:Addr) (w:World):(ReflectliteValue.unpack (.iface 127 (.pointer (some t)))).run prog w
  = .ok (.agg #[.pointer (some ⟨21,127,none⟩),.pointer (some ⟨w.heap.size,0,none⟩),.int .u64 150]) (w.alloc (.cells #[.pointer (some t)] 127)):=by kernel_rfl
theorem mQ (a:Addr) (w:World):(ReflectliteValue.methodAny (ReflectliteValue.valueError "reflectlite.Value.Type" 0) (λt _ _ _=>ReflectliteType.toType t) #[.agg #[.pointer (some ⟨21,127,none⟩),.pointer (some a),.int .u64 150]]).run prog w
  = .ok (.iface 242 (.agg #[.pointer (some ⟨21,127,none⟩)])) w:=by kernel_rfl
theorem Xx (h:Value) (w:World):(Go.method 433 242 (.agg #[h]) "Kind").run prog w= .ok (181,h) w:=by kernel_rfl
theorem mS (w:World):((ReflectliteType.abiMethod λt=>Functor.map (λa:Nat=>Value.int IntKind.u8 (a:Int)) (Rtype.kind t)) #[.pointer (some ⟨21,127,none⟩)]).run prog w= .ok (.int .u8 22) w:=by kernel_rfl
theorem mT (w:World):((ReflectliteType.abiMethod λt=>Functor.map (λa:Nat=>Value.int IntKind.u8 (a:Int)) (Rtype.kind t)) #[.pointer (some ⟨21,125,none⟩)]).run prog w= .ok (.int .u8 22) w:=by kernel_rfl
theorem rlm (z:Sem Value) (f:TypeId->Addr->Nat->Nat->Sem Value) (v:Value):
  ReflectliteValue.method z f #[v]=(do match←ReflectliteValue.parts v with|none=>z|some (t,a,b)=>f t a b (b%32)):=rfl
theorem Ww (a:Addr) (w:World):(ReflectliteValue.parts (.agg #[.pointer (some ⟨21,127,none⟩),.pointer (some a),.int .u64 150])).run prog w= .ok (some (127,a,150)) w:=by kernel_rfl
theorem gR (a p:Addr) (W:World) (b:W.cell? a=some (.pointer (some p))):
  (ReflectliteValue.method (ReflectliteValue.valueError "reflectlite.Value.IsNil" 0) ReflectliteValue.isNil #[.agg #[.pointer (some ⟨21,127,none⟩),.pointer (some a),.int .u64 150]]).run prog W= .ok (.bool false) W:=by
 rw[rlm];simp only[GO,Ww,Result.andThen];simp[ReflectliteValue.isNil,loadVar,isAgg,underlying,underlying127,b,Result.andThen]
theorem Xy (h:Value) (w:World):(Go.method 433 242 (.agg #[h]) "Elem").run prog w= .ok (193,.agg #[h]) w:=by kernel_rfl
theorem Qc (h:Value) (w:World):(Go.method 433 242 (.agg #[h]) "Implements").run prog w= .ok (194,.agg #[h]) w:=by kernel_rfl
theorem OF (h:Value) (w:World):(Go.method 433 242 (.agg #[h]) "AssignableTo").run prog w= .ok (191,.agg #[h]) w:=by kernel_rfl
theorem mV (w:World):(ReflectliteType.method ReflectliteType.elem #[.agg #[.pointer (some ⟨21,127,none⟩)]]).run prog w= .ok (.iface 242 (.agg #[.pointer (some ⟨21,125,none⟩)])) w:=by kernel_rfl
theorem UB (w:World):(ReflectliteType.relation "Implements" ReflectliteType.implements_ #[.agg #[.pointer (some ⟨21,125,none⟩)],.iface 242 (.agg #[.pointer (some ⟨21,96,none⟩)])]).run prog w= .ok (.bool true) w:=by kernel_rfl
theorem dj (v:Value) (w:World):(ReflectliteType.typeOf #[.iface 125 v]).run prog w= .ok (.iface 242 (.agg #[.pointer (some ⟨21,125,none⟩)])) w:=by kernel_rfl
theorem UC (w:World):(ReflectliteType.relation "AssignableTo" ReflectliteType.assignableTo #[.agg #[.pointer (some ⟨21,125,none⟩)],.iface 242 (.agg #[.pointer (some ⟨21,125,none⟩)])]).run prog w= .ok (.bool true) w:=by kernel_rfl
theorem Zw (e:Addr) (w:World):(ReflectliteValue.unpack (.iface 125 (.pointer (some e)))).run prog w
  = .ok (.agg #[.pointer (some ⟨21,125,none⟩),.pointer (some ⟨w.heap.size,0,none⟩),.int .u64 150]) (w.alloc (.cells #[.pointer (some e)] 125)):=by kernel_rfl
theorem dr (w:World):(Rtype.elem? 127).run prog w= .ok (some 125) w:=by kernel_rfl
theorem xu (p:Addr) (w:World):(ReflectliteValue.mk 125 p ReflectliteValue.flagAddr).run prog w= .ok (.agg #[.pointer (some ⟨21,125,none⟩),.pointer (some p),.int .u64 406]) w:=by kernel_rfl
theorem gS (a p:Addr) (W:World) (b:W.cell? a=some (.pointer (some p))):
  (ReflectliteValue.method (ReflectliteValue.valueError "reflectlite.Value.Elem" 0) ReflectliteValue.elem #[.agg #[.pointer (some ⟨21,127,none⟩),.pointer (some a),.int .u64 150]]).run prog W
   = .ok (.agg #[.pointer (some ⟨21,125,none⟩),.pointer (some p),.int .u64 406]) W:=by
 rw[rlm];simp only[GO,Ww,Result.andThen];simp[ReflectliteValue.elem,loadVar,isAgg,underlying,underlying127,b,Result.andThen,dr,xu]
theorem rls (v x:Value):ReflectliteValue.set #[v,x]=(do
  let (some (c,a,f),some (d,b,_)):=(←ReflectliteValue.parts v,←ReflectliteValue.parts x)
   |unsupported (.noEntry "extern/(internal/reflectlite.Value).Set.zeroValue")
  if f/ReflectliteValue.flagAddr%2==0 then unsupported (.noEntry "extern/(internal/reflectlite.Value).Set.unaddressable")
  let e←loadVar d b
  if←Rtype.directlyAssignable c d then storeVar c a e
  else if←Rtype.implements c d then
   if(←Rtype.kind d)==20 then
    match e with
    | .nilIface=>unsupported (.noEntry "extern/reflectlite: a nil value of one interface type handed on as a value of another")
    |_=>storeVar c a e
   else storeVar c a (.iface d e)
  else panicString ("reflectlite.Set: value of type " ++(←Rtype.spelt d)++ " is not assignable to type " ++(←Rtype.spelt c))
  pure (.tuple #[])):=rfl
theorem dm (a:Addr) (w:World):(ReflectliteValue.parts (.agg #[.pointer (some ⟨21,125,none⟩),.pointer (some a),.int .u64 406])).run prog w= .ok (some (125,a,406)) w:=by kernel_rfl
theorem gQ (a:Addr) (w:World):(ReflectliteValue.parts (.agg #[.pointer (some ⟨21,125,none⟩),.pointer (some a),.int .u64 150])).run prog w= .ok (some (125,a,150)) w:=by kernel_rfl
theorem dt (w:World):(Rtype.directlyAssignable 125 125).run prog w= .ok true w:=by kernel_rfl
theorem sj (a b e:Addr) (c:Value) (W:World) (d:W.cell? b=some (.pointer (some e))) (f:W.cell? a=some c) (g:W.frozen? a=false):
  (ReflectliteValue.set #[.agg #[.pointer (some ⟨21,125,none⟩),.pointer (some a),.int .u64 406],.agg #[.pointer (some ⟨21,125,none⟩),.pointer (some b),.int .u64 150]]).run prog W
   = .ok (.tuple #[]) (W.setCell a (.pointer (some e))):=by
 rw[rls];simp only[GO,dm,gQ,Result.andThen];simp[ReflectliteValue.flagAddr,loadVar,isAgg,underlying,underlying125,d,Result.andThen,dt,storeVar,Value.cells,storeCells,Addr.add];rw[run_store prog W a _ _ (by rfl)];simp[f,g]
theorem Aa5 (e t:Addr) (a:Value) (w:World) (g:w.cell? ⟨2,0,none⟩=some (.iface 242 (.agg #[.pointer (some ⟨21,96,none⟩)]))) (b:w.cell? t=some a) (d:w.frozen? t=false):
  Calls prog 49 #[.iface 125 (.pointer (some e)),.iface 127 (.pointer (some t))] w λi w'=>i= .returned (.bool true)/\w'=((((w.alloc (.cells #[.pointer (some t)] 127)).alloc (.cells #[.pointer (some ⟨21,127,none⟩),.pointer (some ⟨w.heap.size,0,none⟩),.int .u64 150] 195)).alloc (.cells #[.pointer (some ⟨21,127,none⟩),.pointer (some ⟨w.heap.size,0,none⟩),.int .u64 150] 195)).alloc (.cells #[.pointer (some e)] 125)).setCell t (.pointer (some e)):=by
 have z:=@Bb prog 76 _ (λargs=>ReflectliteValue.unpack (args.getD 0 (.tuple #[]))) func76 (by kernel_rfl) (by kernel_rfl) (by kernel_rfl) (by kernel_rfl);have A:=@Bb prog 77 _ (ReflectliteValue.methodAny (ReflectliteValue.valueError "reflectlite.Value.Type" 0) (λt _ _ _=>ReflectliteType.toType t)) func77 (by kernel_rfl) (by kernel_rfl) (by kernel_rfl) (by kernel_rfl);have B:=@Bb prog 78 _ (ReflectliteValue.method (ReflectliteValue.valueError "reflectlite.Value.IsNil" 0) ReflectliteValue.isNil) func78 (by kernel_rfl) (by kernel_rfl) (by kernel_rfl) (by kernel_rfl);have j:=@Bb prog 181 _ (ReflectliteType.abiMethod λt=>do pure (.int .u8 (←Rtype.kind t))) func181 (by kernel_rfl) (by kernel_rfl) (by kernel_rfl) (by kernel_rfl);have k:=@Bb prog 193 _ (ReflectliteType.method ReflectliteType.elem) func193 (by kernel_rfl) (by kernel_rfl) (by kernel_rfl) (by kernel_rfl);have l:=@Bb prog 194 _ (ReflectliteType.relation "Implements" ReflectliteType.implements_) func194 (by kernel_rfl) (by kernel_rfl) (by kernel_rfl) (by kernel_rfl);have m:=@Bb prog 104 _ ReflectliteType.typeOf UF (by kernel_rfl) (by kernel_rfl) (by kernel_rfl) (by kernel_rfl);have n:=@Bb prog 191 _ (ReflectliteType.relation "AssignableTo" ReflectliteType.assignableTo) func191 (by kernel_rfl) (by kernel_rfl) (by kernel_rfl) (by kernel_rfl);have o:=@Bb prog 119 _ (ReflectliteValue.method (ReflectliteValue.valueError "reflectlite.Value.Elem" 0) ReflectliteValue.elem) func119 (by kernel_rfl) (by kernel_rfl) (by kernel_rfl) (by kernel_rfl);have p:=@Bb prog 120 _ ReflectliteValue.set func120 (by kernel_rfl) (by kernel_rfl) (by kernel_rfl) (by kernel_rfl);obtain⟨C,D,q,r,E,F,G,H⟩:=zp8 dj OF UC Zw Zv mQ Xx Xy;obtain⟨I,s,u,v,x⟩:=zp5 Qc mS mT mV UB;have J:=gR ⟨w.heap.size,0,none⟩ t ((w.alloc (.cells #[.pointer (some t)] 127)).alloc (.cells #[.pointer (some ⟨21,127,none⟩),.pointer (some ⟨w.heap.size,0,none⟩),.int .u64 150] 195)) (by simp);have f:2<w.heap.size:=CU w _ g;have y:((w.alloc (.cells #[.pointer (some t)] 127)).alloc (.cells #[.pointer (some ⟨21,127,none⟩),.pointer (some ⟨w.heap.size,0,none⟩),.int .u64 150] 195)).cell? ⟨2,0,none⟩=some (.iface 242 (.agg #[.pointer (some ⟨21,96,none⟩)])):=by rw[E8 _ _ ⟨2,0,none⟩ (by simp;omega),E8 _ _ ⟨2,0,none⟩ f];exact g
 have c:t.block<w.heap.size:=by
  rcases Be t.block w.heap.size with h|h
  ·exact h
  ·simp[World.cell?,Cj h]at b
 have K:=gS ⟨w.heap.size,0,none⟩ t (((w.alloc (.cells #[.pointer (some t)] 127)).alloc (.cells #[.pointer (some ⟨21,127,none⟩),.pointer (some ⟨w.heap.size,0,none⟩),.int .u64 150] 195)).alloc (.cells #[.pointer (some ⟨21,127,none⟩),.pointer (some ⟨w.heap.size,0,none⟩),.int .u64 150] 195)) (by rw[E8 _ _ ⟨w.heap.size,0,none⟩ (by simp;omega)];simp);have st:=sj t ⟨w.heap.size+1+1+1,0,none⟩ e a ((((w.alloc (.cells #[.pointer (some t)] 127)).alloc (.cells #[.pointer (some ⟨21,127,none⟩),.pointer (some ⟨w.heap.size,0,none⟩),.int .u64 150] 195)).alloc (.cells #[.pointer (some ⟨21,127,none⟩),.pointer (some ⟨w.heap.size,0,none⟩),.int .u64 150] 195)).alloc (.cells #[.pointer (some e)] 125))
  (by rw[World.cell?_alloc_at _ _ _ _ (by simp)];rfl)
  (by rw[E8 _ _ t (by simp;omega),E8 _ _ t (by simp;omega),E8 _ _ t (by simp;omega),E8 _ _ t c];exact b)
  (by rw[LM _ _ t (by simp;omega),LM _ _ t (by simp;omega),LM _ _ t (by simp;omega),LM _ _ t (Nat.ne_of_lt c)];exact d)
 go_enter func49,ntmps49;go_wp2;refine P1 1 ?_;rw[NT];go_wp2;go_ret;exact⟨rfl,rfl⟩
end Go.Proofs.YtodkkholbjeioaaGreatDoor.Ev
namespace Go.Proofs.YtodkkholbjeioaaGreatDoor.Ev
open _root_.Go.Proofs.Tryz
open Go Go.RowKit
def ij (w:World) (size:Nat) (u:Value) (m:Nat) (news:List Value):Prop:=
 news.length=m*size/\((u= .slice none 0 0/\m=0)\/∃a c,u= .slice (some a) m c/\∀j x,news[j]?=some x->w.cell? (a.add j)=some x)
section
variable {S:Nat->Prop}{w w':World}{e:TypeId}{size n m:Nat}{u v:Value}{xs news:List Value}
theorem rV (g j:Nat):(⟨g,0,none⟩:Addr).add j=⟨g,j,none⟩:=by
 unfold Addr.add;split
 ·rename_i h;subst h;rfl
 ·simp
theorem Sl.src (h:Sl S w e size v n xs):ij w size v n xs:=by
 refine⟨h.1.1,?_⟩;rcases h.1.2 with⟨a,b⟩|⟨g,c,d,rfl,_⟩
 ·exact .inl ⟨a,b⟩
 ·refine .inr ⟨_,_,rfl,λj x f=>?_⟩;exact h.1.cells (g:=g) rfl j x f
theorem Sl.oC {g a k:Nat}(h:Sl S w e size (.slice (some ⟨g,0,none⟩) n a) n xs) (f:k<=n) (c:Nat):
  ij w size (.slice (some ⟨g,k*size,none⟩) (n-k) c) (n-k) (xs.drop (k*size)):=by
 refine⟨by rw[TN,h.1.1,Nat.sub_mul],.inr ⟨_,_,rfl,λj x b=>?_⟩⟩;rw[Lz]at b;have d:=h.1.cells (g:=g) rfl _ x b;rw[rV]at d;have e:(⟨g,k*size,none⟩:Addr).add j=⟨g,k*size+j,none⟩:=by
  unfold Addr.add;split
  ·rename_i h;subst h;rfl
  ·rfl
 rw[e];exact d
theorem ij.kept {T:Nat->Prop}(h:ij w size u m news) (b:Ac T w w') (d:∀a n c,u= .slice (some a) n c->¬T a.block):ij w' size u m news:=by
 refine⟨h.1,?_⟩;rcases h.2 with f|⟨a,c,rfl,g⟩
 ·exact .inl f
 ·refine .inr ⟨a,c,rfl,λj x i=>?_⟩;have k:(a.add j).block=a.block:=by unfold Addr.add;split<;>rfl
  exact(b.cell (p:=a.add j) (by rw[k];exact d a m c rfl)).trans (g j x i)
theorem ij.of_heap (h:ij w size u m news) (a:w'.heap=w.heap):ij w' size u m news:=
 h.kept (T:=λ_=>False) (w':={w with heap:=w'.heap}) ⟨rfl,rfl,rfl,by rw[a];exact Ab _,λk _=>by rw[a]⟩ (λ_ _ _ _ h=>h)
theorem dZ {P:Program}{k:Array Oper}{rest:List Oper}{o:Oper}{a:Act}{Q:Exit->Act->World->Prop}{i:TypeInfo}{z:Value}{bytes:Nat}{t:TypeId}(A:P.underlying t=some (.slice e)) (B:P.info? e=some i) (G:i.zero=some z)
  (g:i.size=size) (p:i.bytes=bytes) (q:z.cells.size=size) (r:0<size) (h:Sl S w e size v n xs) (H:S w.heap.size)
  (l:o.guard=none) (s x:Operand) (C:o.op= .call {callee:=.builtin .append,args:=#[s,x],argTypes:=#[t,t]}) (D:a.eval s=v)
  (E:a.eval x=u) (d:ij w size u m news) (I:∀u∈news,u.oneCell'=true)
  (y:n+m<=maxLen) (f:(n+m)*bytes<=140737488355328)
  (F:∀j w',Sl S w' e size j (n+m) (xs++news)->Ac (λb=>v.ownBlock=some b\/w.heap.size<=b) w w'->(j.ownBlock=v.ownBlock\/j.ownBlock=some w.heap.size)->
   wpList P k Q rest (a.put o.dst j) w'):wpList P k Q (o::rest) a w:=by
 rcases d.2 with⟨rfl,rfl⟩|⟨J,c,rfl,K⟩
 ·have L:news=[]:=Iy (by simpa using d.1);subst L;refine wpList_append_own_none l s x t C 0 e i size A B v n xs D h.1 E ?_;refine F v w ?_ zAr (.inl rfl);rw[AO];exact h
 ·exact XL A B G g p q r h H l s x C D J m c news E d.1 K I y f (λj w' M N O _=>F j w' M N O)
theorem Sl.later {T:Nat->Prop}(h:Sl S w e size v n xs) (a:Ac T w w') (c:∀b,T b->w.heap.size<=b):Sl S w' e size v n xs:=h.kept a (λg d f=>by have:=h.lt d;have:=c g f;omega)
theorem Sl.iu (h:Sl S w e size v n xs):∀a n c,v= .slice (some a) n c->a.block<w.heap.size:=λa n c e=>h.lt (by rw[e];rfl)
theorem Sl.iD (S:Nat->Prop) (w:World) (e:TypeId) (size:Nat):Sl S w e size (.slice none 0 0) 0 []:=⟨Cn _ _ _ _,λg a=>by cases a⟩
theorem pd {P:Program}{w0:World}{N:Nat}{i:TypeInfo}{z:Value}{bytes:Nat}{t ty:TypeId}(r:Ac (λb=>N<=b) w0 w) (F:N<=w.heap.size) (f:ij w0 size u m news) (x:∀j n c,u= .slice (some j) n c->j.block<N)
  (C:P.underlying t=some (.slice e)) (D:P.info? e=some i) (G:i.zero=some z) (h:i.size=size) (y:i.bytes=bytes) (A:z.cells.size=size) (B:0<size) (H:∀u∈news,u.oneCell'=true)
  (I:m<=maxLen) (d:m*bytes<=140737488355328):
  ∃s w',(Builtin.append_ #[t,t] ty #[.slice none 0 0,u]).run P w= .ok s w'/\Sl (λb=>w.heap.size<=b) w' e size s m news/\Ac (λb=>w.heap.size<=b) w w'/\Ac (λb=>N<=b) w0 w':=by
 have a:=f.kept r (λj n c J E=>by have:=x j n c J;omega);rcases a.2 with⟨rfl,rfl⟩|⟨j,c,rfl,K⟩
 ·have E:news=[]:=Iy (by simpa using f.1);subst E;exact⟨_,_,run_append_owned_none (P:=P) (w:=w) 0 t ty e i size C D (.slice none 0 0) 0 [] (Cn _ _ _ _),Sl.iD _ _ _ _,Ac.refl _ _,r⟩
 ·obtain⟨s,w',L,M,o,_,p⟩:=run_append_own_at (P:=P) w 0 t ty e i z size bytes C D G h y A B (.slice none 0 0) 0 [] (Cn _ _ _ _) j m c news a.1 K H (by omega) (by rw[DK];exact d) (AM _);have q:Ac (λb=>w.heap.size<=b) w w':=⟨o.os,o.tape,o.output,o.size,λk r=>o.block k (by omega) (by simp[Value.ownBlock])⟩;refine⟨s,w',L,⟨by simpa using M,λg l=>?_⟩,q,r.trans (q.mono (λb x=>Ad F x))⟩;rcases p with p|p
  ·rw[p]at l;cases l
  ·rw[p]at l;injection l with l;exact l▸Ab _
theorem LB {P:Program}{k:Array Oper}{o:Oper}{a:Act}{K:Act->World->Prop}{Q:Exit->Act->World->Prop}{E:Prop}{w0:World}{N:Nat}{i:TypeInfo}{z:Value}{bytes:Nat}{t:TypeId}
  (B:Ac (λb=>N<=b) w0 w) (F:N<=w0.heap.size) (l:ij w0 size u m news) (G:∀C n c,u= .slice (some C) n c->C.block<N)
  (H:P.underlying t=some (.slice e)) (I:P.info? e=some i) (J:i.zero=some z) (f:i.size=size) (p:i.bytes=bytes) (q:z.cells.size=size) (r:0<size) (L:∀u∈news,u.oneCell'=true)
  (y:m<=maxLen) (d:m*bytes<=140737488355328) (A:o.guard=none) (s x:Operand) (M:o.op= .call {callee:=.builtin .append,args:=#[s,x],argTypes:=#[t,t]}) (O:a.eval s= .slice none 0 0) (R:a.eval x=u)
  (T:∀h j w',Sl (λb=>w.heap.size<=b) w' e size (.slice h m j) m news->Ac (λb=>w.heap.size<=b) w w'->Ac (λb=>N<=b) w0 w'->K (a.put o.dst (.slice h m j)) w'):if Region.wanted o (yielded k a.tmps)=true then Oper.wp P o a w K Q else E:=by
 have U:Region.wanted o (yielded k a.tmps)=true:=by simp[Region.wanted,A]
 rw[Al U];obtain⟨V,w',W,D,X,Y⟩:=pd (P:=P) (ty:=o.type) B (Ad F B.size) l G H I J f p q r L y d;unfold Oper.wp execOp;simp only[M,resolve,invoke,builtin,GO,UG,GP,TM,BS,PF,O,R,W];obtain⟨h,j,rfl⟩:∃h j,V= .slice h m j:=by
  rcases D.1.2 with⟨e1,Z⟩|⟨g,be,bI,e1,_⟩
  ·exact⟨none,0,by rw[e1,Z]⟩
  ·exact⟨_,_,e1⟩
 exact T h j w' D X Y
end
structure JS (B:Nat) (ea:Nat->Addr) (w:World):Prop where
 obj:∀k,1<=k->k<=12->∃(cs:Array Value) (t:TypeId),w.heap[(ea k).block]?=some (.cells cs t (0,0))
 lt:∀k,1<=k->k<=12->(ea k).block<B
 inj:∀j k,1<=j->j<=12->1<=k->k<=12->ea j=ea k->j=k
 rH:w.cell? ⟨2,0,none⟩=some (.iface 242 (.agg #[.pointer (some ⟨21,96,none⟩)]))
 oq:2<B
theorem JS.kept {B:Nat}{ea:Nat->Addr}{w w':World}(h:JS B ea w) {S:Nat->Prop}(c:Ac S w w') (d:∀b,S b->B<=b):JS B ea w':=by
 refine⟨λk e f=>?_,h.lt,h.inj,?_,h.oq⟩
 ·obtain⟨cs,t,g⟩:=h.obj k e f;exact⟨cs,t,(c.block _ (λa=>by have:=d _ a;have:=h.lt k e f;omega)).trans g⟩
 ·exact(c.cell (p:=⟨2,0,none⟩) (λa=>by have:=d _ a;have:=h.oq;simp only at*;omega)).trans h.rH
def Ls (ea:Nat->Addr) (k:Nat):List Value:=[Ds ea k,.int .i64 k]
def Ko:List Nat:=[1,2,3,4,5,6,7,8,9,10,11,12]
section
variable {B:Nat}{ea:Nat->Addr}{w:World}
theorem bh (a:U6 B ea w):Calls prog 65 #[] w λe w'=>
  e= .returned (.slice (some ⟨w.heap.size,0,none⟩) 12 12)/\w'=w.alloc (.cells (Ko.flatMap (Ls ea)).toArray 178):=by
 have e1:w.cell? ⟨0,0,none⟩=some (Ds ea 1):=a.err 1 (by omega) (by omega);have g:w.cell? ⟨6,0,none⟩=some (Ds ea 2):=a.err 2 (by omega) (by omega);have h:w.cell? ⟨7,0,none⟩=some (Ds ea 3):=a.err 3 (by omega) (by omega);have i:w.cell? ⟨8,0,none⟩=some (Ds ea 4):=a.err 4 (by omega) (by omega);have j:w.cell? ⟨9,0,none⟩=some (Ds ea 5):=a.err 5 (by omega) (by omega);have k:w.cell? ⟨10,0,none⟩=some (Ds ea 6):=a.err 6 (by omega) (by omega);have l:w.cell? ⟨11,0,none⟩=some (Ds ea 7):=a.err 7 (by omega) (by omega);have m:w.cell? ⟨12,0,none⟩=some (Ds ea 8):=a.err 8 (by omega) (by omega);have n:w.cell? ⟨13,0,none⟩=some (Ds ea 9):=a.err 9 (by omega) (by omega);have c:w.cell? ⟨1,0,none⟩=some (Ds ea 10):=a.err 10 (by omega) (by omega);have d:w.cell? ⟨4,0,none⟩=some (Ds ea 11):=a.err 11 (by omega) (by omega);have f:w.cell? ⟨5,0,none⟩=some (Ds ea 12):=a.err 12 (by omega) (by omega);clear a;have b:Ko.flatMap (Ls ea)=[Ds ea 1,.int .i64 1,Ds ea 2,.int .i64 2,Ds ea 3,.int .i64 3,Ds ea 4,.int .i64 4,Ds ea 5,.int .i64 5,Ds ea 6,.int .i64 6,Ds ea 7,.int .i64 7,Ds ea 8,.int .i64 8,Ds ea 9,.int .i64 9,Ds ea 10,.int .i64 10,Ds ea 11,.int .i64 11,Ds ea 12,.int .i64 12]:=rfl;rw[b];clear b;unfold Ds at*;go_enter func65,ntmps65;go_wp2;go_ret;exact⟨rfl,rfl⟩
theorem vw (k:Nat) (a:k<12):Ko[k]?=some (k+1):=by
 match k,a with
 |0,_|1,_|2,_|3,_|4,_|5,_|6,_|7,_|8,_|9,_|10,_|11,_=>rfl
def sP (B:Nat) (ea:Nat->Addr) (w:World) (v:Value) (k:Nat):Prop:=
 ∀(j:Nat) (W:World),1<=j->j<=12->Ac (λb=>w.heap.size<=b) w W->Calls prog 66 #[v,Ds ea j] W λe w'=>e= .returned (.bool (j==k))/\w'=W
theorem lJ (d:JS B ea w) (l:B<=w.heap.size) {k:Nat}(f:1<=k) (g:k<=12):sP B ea w (Ds ea k) k:=by
 intro j W h i m;have a:=d.kept m (λb c=>Ad l c);by_cases e:j=k
 ·subst e;rw[mM];exact vO (ea j) W
 ·have e':(j==k)=false:=by simpa using e
  rw[e'];obtain⟨n,o,p⟩:=a.obj k f g;obtain⟨q,r,c⟩:=a.obj j h i;exact qa (ea k) (ea j) n q o r W (λs=>e (d.inj k j f g h i s).symm) p c
theorem bD (f:JS B ea w) (o:B<=w.heap.size) {k gf:Nat}{x:Value}(g:1<=k) (h:k<=12) (i:AF w gf 129 [Ds ea k,x]):sP B ea w (.iface 125 (.pointer (some ⟨gf,0,none⟩))) k:=by
 intro j W l m n;have a:=f.kept n (λb d=>Ad o d);have c:=i.kept n (by have:=i.lt;omega);by_cases e:j=k
 ·subst e;rw[mM];exact W9 gf x (ea j) W c
 ·have e':(j==k)=false:=by simpa using e
  rw[e'];obtain⟨p,q,r⟩:=a.obj k g h;obtain⟨s,t,d⟩:=a.obj j l m;exact VY gf x (ea k) (ea j) p s q t W c (λu=>e (f.inj k j g h l m u).symm) r d
def sN (w:World) (k:Nat) (e:Ending) (w':World):Prop:=e= .returned (.int .i64 k)/\Ac (λb=>w.heap.size<=b) w w'
theorem VM (A:U6 B ea w) {v:Value}{k:Nat}(W:1<=k) (X:k<=12) (C:sP B ea w v k):
  Calls prog 38 #[v] w (sN w k):=by
 have D:=bh A;have d:AF (w.alloc (.cells (Ko.flatMap (Ls ea)).toArray 178)) w.heap.size 178 (Ko.flatMap (Ls ea)):=AF.new w _ _;have m:=Sl.fO (S:=λ_=>True) d trivial (size:=2) (n:=12) rfl (by unfold maxLen;omega);have o:Ac (λb=>w.heap.size<=b) w (w.alloc (.cells (Ko.flatMap (Ls ea)).toArray 178)):=(Ac.refl _ w).alloc (Ab _) _;have p:(w.alloc (.cells (Ko.flatMap (Ls ea)).toArray 178)).heap.size=w.heap.size+1:=by simp
 generalize t:w.alloc (.cells (Ko.flatMap (Ls ea)).toArray 178)=w1 at*;obtain⟨J,K,L,M,F⟩:=zq5 D m o C p;clear D m o C A d t p;go_enter func38,ntmps38;go_wp2_with fail;refine J.out.mono ?_;rintro e w' ⟨rfl,rfl⟩;go_wp2_with fail
 go_loopg [7] 12 (λN O wr=>∃i:Nat,i<k/\12-i<=N/\O= .int .i64 i/\Ac (λb=>w'.heap.size<=b) w' wr)
 case atStart=>exact⟨0,by omega,by omega,rfl,Ac.refl _ _⟩
 case round=>
  obtain⟨i,P,Q,rfl,a⟩:=hrel;have r:i<12:=by omega
  have u:=K.out.later a (λb G=>G);have x:=vw i r;have H:=u.at_ (l:=Ko) (f:=Ls ea) (λ_=>rfl) x (j:=0) (by omega);have I:=u.at_ (l:=Ko) (f:=Ls ea) (λ_=>rfl) x (j:=1) (by omega);have R:wr.cell? ⟨w.heap.size,i*2,none⟩=some (.iface 304 (.pointer (some (ea (i+1))))):=H;have T:wr.cell? ⟨w.heap.size,i*2+1,none⟩=some (.int .i64 ((i:Int)+1)):=I;have U:w.heap.size<wr.heap.size:=by have:=F.out;have:=a.size;omega
  have h:Ac (λb=>w.heap.size<=b) w (wr.alloc (.cells #[.iface 304 (.pointer (some (ea (i+1)))),.int .i64 ((i:Int)+1)] 178)):=(L.out.trans (a.mono (λb G=>by have:=F.out;omega))).alloc (by omega) _;have c:=M.out (i+1) _ (by omega) (by omega) h;have g:Ac (λb=>w'.heap.size<=b) w' (wr.alloc (.cells #[.iface 304 (.pointer (some (ea (i+1)))),.int .i64 ((i:Int)+1)] 178)):=a.alloc a.size _;obtain⟨s,y,z⟩:=zq3 c g h;clear c a u x H I g h;have q:¬w.heap.size=wr.heap.size:=by omega
  unfold Ds at s;by_cases e:i+1=k
  ·have e1:(i+1==k)=true:=by simpa using e
   rw[e1]at s;have E:=Aa e;clear e1 e;go_wp2_with (go_at_call 66;((with_reducible refine s.out.mono ?_);rintro e V ⟨rfl,rfl⟩));go_ret;exact⟨by rw[←E.out];go_num,z.out⟩
  ·have e1:(i+1==k)=false:=by simpa using e
   rw[e1]at s;have E:=Aa e;clear e1 e;go_wp2_with (go_at_call 66;((with_reducible refine s.out.mono ?_);rintro e V ⟨rfl,rfl⟩));go_roundg (12-(i+1))
   case measure=>omega
   case rel=>exact⟨i+1,by have:=E.out;omega,by omega,by go_num,y.out⟩
end
end Go.Proofs.YtodkkholbjeioaaGreatDoor.Ev
namespace Go.Proofs.YtodkkholbjeioaaGreatDoor.Ev
open _root_.Go.Proofs.Tryz
def EOk (e:Nat):Prop:=1<=e/\e<=12
def Qx (st:PS):Prop:=∀y,st.bJ=some y->EOk y.1
def Ti {α:Type} (o:AQ α):Prop:=
 match o with
 | .ok _ st=>Qx st
 | .bad e _=>EOk e
section
variable {α β:Type}{s:Ah}{st:PS}
theorem Ti.bind {x:AQ α}{f:α->PS->AQ β}(h:Ti x) (b:∀a st,Qx st->Ti (f a st)):Ti (x.bind f):=by
 cases x with
 |ok a st=>exact b a st h
 |bad e p=>exact h
theorem Ti.map {x:AQ α}{f:α->β}(h:Ti x):Ti (x.map f):=by
 cases x with
 |ok a st=>exact h
 |bad e p=>exact h
theorem Qx.next (h:Qx st):Qx (next s st):=h
theorem Qx.note {e pos:Nat}(h:Qx st) (c:EOk e):Qx (note e pos st):=by
 intro y a;unfold Ev.note at a;cases b:st.bJ with
 |none=>
  rw[b]at a;simp only[Co]at a;subst a;exact c
 |some z=>
  rw[b]at a;exact h y a
theorem MP {k:Ah}(h:Qx st):Ti (want s k st):=by
 unfold want;split
 ·exact h
 ·exact(⟨by decide,by decide⟩:EOk D9)
theorem oQ {k:Ah}(h:Qx st):Qx (take s k st).2:=by unfold take;split<;>exact h
theorem RW {a b:Int}(h:Qx st):Ti (number s a b st):=by
 unfold number;refine(MP h).bind λt st h=>?_;show Qx _;split
 ·exact h.note ⟨by decide,by decide⟩
 ·exact h
theorem J6 {v:Bool}(h:Qx st):Ti (name s v st):=by
 unfold name;refine(MP h).bind λt st h=>?_;show Qx _;unfold Cw;split
 ·exact h.note ⟨by decide,by decide⟩
 ·split
  ·exact h.note ⟨by decide,by decide⟩
  ·exact h
theorem iN (h:Qx st):Ti (value s st):=by
 unfold value;split
 ·exact(RW h).map
 ·split
  ·exact(J6 h.next).map
  ·split
   ·exact h
   ·exact(J6 h).map
theorem gE (h:Qx st):Ti (E4 s st):=by
 unfold E4;split
 ·exact(J6 h.next).map
 ·split
  ·exact(J6 h.next).map
  ·split
   ·exact(J6 h.next).map
   ·exact(iN h).bind λa st h=>(MP h).bind λ_ st h=>(iN h).map
theorem gj:EOk D9:=⟨by decide,by decide⟩
theorem eDp:EOk SG:=⟨by decide,by decide⟩
theorem gC:∀(n:Nat) {st:PS},Qx st->Ti (cond s n st)
 |0,st,h=>gj
 |n+1,st,h=>by
  unfold cond;split
  ·exact(gC n h.next).map
  ·exact gE h
theorem O5 {x:D4}(h:Qx st):Ti ((want s AP st).bind λ_ st=>AQ.ok (Az.bN x .nil) st):=(MP h).bind λ_ _ h=>h
theorem jv:∀(n:Nat),(∀{st:PS},Qx st->Ti (block s n st))/\(∀{st:PS},Qx st->Ti (FA s n st))/\(∀{st:PS},Qx st->Ti (stmt s n st))
 |0=>⟨λ_=>by unfold block;exact gj,λ_=>by unfold FA;exact gj,λ_=>by unfold stmt;exact gj⟩
 |n+1=>by
  obtain⟨a,d,y⟩:=jv n;refine⟨λ{st} h=>?_,λ{st} h=>?_,λ{st} h=>?_⟩
  ·unfold block;split
   ·exact eDp
   ·refine(MP h).bind λ_ st h=>?_;refine Ti.bind (d (st:={st with depth:=st.depth+1}) h) λb st h=>?_;exact h
  ·unfold FA;split
   ·exact h
   ·exact(y h).bind λx st h=>(d h).map
  ·rw[stmt];by_cases f:st.t.kind=KP
   ·rw[Al f];exact(J6 h.next).bind λq st h=>O5 (oQ h)
   rw[Ai f];by_cases g:st.t.kind=Et
   ·rw[Al g];exact(J6 h.next).bind λq st h=>O5 h
   rw[Ai g];by_cases i:st.t.kind=Io
   ·rw[Al i];exact(J6 h.next).bind λq st h=>O5 h
   rw[Ai i];by_cases j:st.t.kind=Dq
   ·rw[Al j];exact(J6 h.next).bind λq st h=>(J6 h).bind λp st h=>O5 (oQ h)
   rw[Ai j];by_cases l:st.t.kind=Mo
   ·rw[Al l];exact(J6 h.next).bind λq st h=>O5 h
   rw[Ai l];by_cases m:st.t.kind=Mq
   ·rw[Al m];exact(J6 h.next).bind λq st h=>O5 h
   rw[Ai m];by_cases o:st.t.kind=Ja
   ·rw[Al o];exact O5 h.next
   rw[Ai o];by_cases r:st.t.kind=Jb
   ·rw[Al r];exact O5 h.next
   rw[Ai r];by_cases u:st.t.kind=Jk
   ·rw[Al u];refine(gC _ h.next).bind λc st h=>(a h).bind λt st h=>?_;split
    ·exact(a h.next).bind λe st h=>h
    ·exact h
   rw[Ai u];by_cases v:st.t.kind=Bf
   ·rw[Al v];by_cases w:st.loops=2
    ·rw[Al w];exact eDp
    rw[Ai w];refine(RW h.next).bind λk st h=>(MP h).bind λ_ st h=>(gC _ h).bind λc st h=>?_;exact Ti.bind (a (st:={st with loops:=st.loops+1}) h) λb st h=>h
   rw[Ai v];exact gj
theorem Aa0 (h:Qx st):Ti (decl s st):=by
 unfold decl;simp only;split
 ·have a:Qx (if(next s st).bX then note CY st.t.pos (next s st)else next s st):=by
   split
   ·exact h.next.note ⟨by decide,by decide⟩
   ·exact h.next
  refine Ti.bind (RW (st:={(if(next s st).bX then note CY st.t.pos (next s st)else next s st)with bX:=true}) a) λn st h=>?_;exact Ti.bind (MP (st:={st with bI:=n}) h) λ_ st h=>h
 ·refine(MP h.next).bind λn st h=>?_;have a:Qx (Bh n st):=by
   have b:Qx (if 0<=find st.decls n.text then note CY n.pos st else st):=by
    split
    ·exact h.note ⟨by decide,by decide⟩
    ·exact h
   show Qx (if(if 0<=find st.decls n.text then note CY n.pos st else st).decls.length=8 then note Ov n.pos (if 0<=find st.decls n.text then note CY n.pos st else st)else(if 0<=find st.decls n.text then note CY n.pos st else st));generalize (if 0<=find st.decls n.text then note CY n.pos st else st)=c at b ⊢;by_cases d:c.decls.length=8
   ·rw[Al d];exact b.note ⟨by decide,by decide⟩
   ·rw[Ai d];exact b
  exact(RW a).bind λm st h=>(MP h).bind λ_ st h=>h
theorem zW3 {n:Nat}(h:Qx st):Ti (GJ s n st):=by
 unfold GJ;refine Ti.bind ?_ λk st h=>((jv n).1 h).bind λb st h=>?_
 ·unfold CQ;simp only;refine Ti.bind ?_ λk st h=>?_
  ·split
   ·exact h
   ·exact J6 h.next
  ·show Qx _;split
   ·exact h.note ⟨by decide,by decide⟩
   ·exact h
 ·show Qx _;split<;>exact h
theorem jt:∀(n:Nat) {st:PS},Qx st->Ti (DF s n st)
 |0,st,h=>gj
 |n+1,st,h=>by
  unfold DF;split
  ·exact(Aa0 h).bind λ_ st h=>jt n h
  ·exact h
theorem iR {m:Nat}:∀(n:Nat) {st:PS},Qx st->Ti (Ee s m n st)
 |0,st,h=>gj
 |n+1,st,h=>by
  unfold Ee;split
  ·exact(zW3 h).bind λ_ st h=>iR n h
  ·exact h
theorem kQ:Ti (Fm s):=by unfold Fm;refine(jt _ (λy a=>by cases a)).bind λ_ st h=>(iR _ h).bind λ_ st h=>MP h
theorem aV {k pos:Nat}(h:read s= .error (k,pos)):1<=k/\k<=12:=by
 unfold read at h;split at h
 ·injection h with h;injection h with b f;subst b;exact⟨by decide,by decide⟩
 ·have c:=kQ (s:=s);cases g:Fm s with
  |bad e p=>
   rw[g]at h c;injection h with h;injection h with b f;subst b;exact c
  |ok a st=>
   rw[g]at h c;simp only at h;cases d:st.bJ with
   |some x=>
    rw[d]at h;simp only at h;injection h with h;have:=c x d;rw[h]at this;exact this
   |none=>
    rw[d]at h;simp only at h;split at h
    ·injection h with h;injection h with b f;subst b;exact⟨by decide,by decide⟩
    ·cases h
end
theorem Kb (k:C5) {c:Nat}{n:Int}:Gm.count c n∉Ar k:=by
 intro h;unfold Ar at h;rcases CD.1 h with h|h
 ·cases d:k.k with
  |less a b=>
   rw[d]at h;cases a<;>cases b<;>simp[JJ,Gk]at h
  |_=>rw[d]at h;simp[JJ]at h
 ·split at h<;>simp at h
theorem Gj {l:List Bi}:∀(b:Az) (c o:Nat),Ed l b->∀(a:Nat) (n:Int),Gm.count a n∈BP c o b->0<=n/\n<=50
 | .nil,_,_,_,_,_,h=>by simp[BP]at h
 | .bN p r,c,o,d,a,n,h=>by
  simp only[BP,AA]at h;rcases h with h|h
  ·cases h
  ·exact Gj r _ _ d.2 a n h
 | .ite k t f e r,c,o,d,a,n,h=>by
  obtain⟨_,w1,g,w3⟩:=d;simp only[BP]at h;split at h
  ·simp only[CD,AA]at h;rcases h with h|h|h|h|h|h
   ·exact absurd h (Kb k)
   ·cases h
   ·exact Gj t _ _ w1 a n h
   ·cases h
   ·exact Gj e _ _ g a n h
   ·exact Gj r _ _ w3 a n h
  ·simp only[CD,AA]at h;rcases h with h|h|h|h
   ·exact absurd h (Kb k)
   ·cases h
   ·exact Gj t _ _ w1 a n h
   ·exact Gj r _ _ w3 a n h
 | .rep m k b r,c,o,d,a,n,h=>by
  obtain⟨_,w1,g,w3⟩:=d;simp only[BP,CD,AA]at h;rcases h with h|h|h|h|h|h|h
  ·injection h with _ h;subst h;omega
  ·cases h
  ·exact absurd h (Kb k)
  ·cases h
  ·exact Gj b _ _ w1 a n h
  ·cases h
  ·exact Gj r _ _ g a n h
theorem eN {l:List Bi}{b:Az}{c:Nat}(h:Ed l b):∀(d:Nat) (n:Int),Gm.count d n∈BP c 0 b++[.fin]->0<=n/\n<=50:=by
 intro d n a;rcases CD.1 a with a|a
 ·exact Gj b c 0 h d n a
 ·simp at a
end Go.Proofs.YtodkkholbjeioaaGreatDoor.Ev
namespace Go.Proofs.YtodkkholbjeioaaGreatDoor.Ev
open _root_.Go.Proofs.Tryz
open Go Go.RowKit
theorem GC (x:Value) (n:Nat):madeCells #[x] n=(List.replicate n x).toArray:=by
 apply Array.toList_inj.1;apply Fj;intro i;unfold madeCells;simp only[Array.toList_map,Array.toList_range,At];by_cases a:i<n
 ·rw[ZD a];simp[By,a,Nat.mod_one]
 ·rw[Bl (by simp;omega),Bl (by simp;omega)];rfl
theorem Cr.first {B:Nat}{w0:World}{f gp gs n d o:Nat}{q i j:Value}{r:Nat->Prop}{A:Am}{p:Ax}{key:Int}{s:St}(l:uh B w0 f gp q i (.map (some o)) d p) (c:zB B w0 gs n j r A s.vars) (t:B<=w0.heap.size) (u:d<=490000):
  Cr B ((w0.alloc (.cells (List.replicate d (Value.int .i64 0)).toArray 3)).alloc (.cells #[.pointer (some ⟨f,0,none⟩),.pointer (some ⟨gs,0,none⟩),.int .u64 key,.slice none 0 0,.bool false,.slice (some ⟨w0.heap.size,0,none⟩) d d,.slice none 0 0] 169))
   ⟨w0.heap.size+1,f,gp,gs,n,q,i,.map (some o),d,.slice none 0 0,.slice (some ⟨w0.heap.size,0,none⟩) d d,.slice none 0 0,j⟩ r p key A ⟨0,[],false,List.replicate d 0,⟨s,[]⟩⟩:=by
 have k:Ac (λb=>w0.heap.size<=b) w0 ((w0.alloc (.cells (List.replicate d (Value.int .i64 0)).toArray 3)).alloc (.cells #[.pointer (some ⟨f,0,none⟩),.pointer (some ⟨gs,0,none⟩),.int .u64 key,.slice none 0 0,.bool false,.slice (some ⟨w0.heap.size,0,none⟩) d d,.slice none 0 0] 169)):=
  ((Ac.refl _ w0).alloc (Ab _) _).alloc (by simp) _
 obtain⟨v,w,x,y,z⟩:=c.ar;have C:Sl (λb=>B<=b) (w0.alloc (.cells (List.replicate d (Value.int .i64 0)).toArray 3)) 3 1 (.slice (some ⟨w0.heap.size,0,none⟩) d d) d (List.replicate d (Value.int .i64 0)):=
  Sl.fO (AF.new w0 _ _) t (by simp) (by unfold maxLen;omega)
 have e:(List.replicate d (0:Int)).map JF=List.replicate d (Value.int .i64 0):=by rw[Qf];rfl
 have D:(List.replicate d (0:Int)).length=d:=CO;refine⟨l.kept k (λb a=>Ad t a),?_,c.bS.kept k (by have:=c.bS.lt;omega),⟨Cn _ _ _ _,λg m=>by cases m⟩,?_,⟨Cn _ _ _ _,λg m=>by cases m⟩,
  c.vars.kept k (λb a=>by have:=c.vars.lt a;omega),⟨v,w,x,y,(z.shrink.kept k (λb a=>by have:=a.2;omega)).mono (λb a=>a.1)⟩,?_,c.nJ,λb a=>⟨(c.sa b a).1,An (c.sa b a).2 k.size⟩,λa=>?_,c.ss,(λb a=>by cases a),λb a E=>?_,(λb a=>by cases a),c.s4,(λb a=>by cases a),(λb a=>by cases a),λb a F=>?_⟩
 ·have h:=AF.new (w0.alloc (.cells (List.replicate d (Value.int .i64 0)).toArray 3)) 169 [.pointer (some ⟨f,0,none⟩),.pointer (some ⟨gs,0,none⟩),.int .u64 key,.slice none 0 0,.bool false,.slice (some ⟨w0.heap.size,0,none⟩) d d,.slice none 0 0];simpa using h
 ·show Sl _ _ _ 1 _ (List.replicate d (0:Int)).length ((List.replicate d (0:Int)).map JF);rw[e,D];exact C.alloc _
 ·show B<=w0.heap.size+1;omega
 ·have:=(c.sa _ a).2;simp only at this;omega
 ·injection a with a;simp only at a;subst a;have:=(c.sa _ E).2;omega
 ·injection a with a;simp only at a;subst a;have:=c.vars.lt F;omega
end Go.Proofs.YtodkkholbjeioaaGreatDoor.Ev
