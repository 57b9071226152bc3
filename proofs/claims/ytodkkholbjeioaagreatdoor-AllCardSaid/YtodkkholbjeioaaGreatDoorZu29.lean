/- Lemmas for a law's walk. Conditions: none. -/
import Derived.Test.YtodkkholbjeioaaGreatDoorZu25
import Derived.Test.YtodkkholbjeioaaGreatDoorZu26
set_option linter.all false
set_option maxRecDepth 100000
set_option maxHeartbeats 8000000
namespace Go.Proofs.YtodkkholbjeioaaGreatDoor.Ev
open _root_.Go.Proofs.Tryz
open Go Go.RowKit
theorem Jw {P:Program}{w:World}{n:String}{d:DataW Unit}:∀{l:List (String×DataW Unit)}{m:List MemPlace},DataW.LaidVars P w l m->(n,d)∈l->
  ∃g t cs i p,P.globalNamed n=some g/\(P.globals[g]?).map (·.type)=some t/\w.var? P n=some cs/\DataW.trod (λ_=>()) P w 0 (λ_=>true) false i t cs.toList=some (d,p)/\
   (∀x∈MemPlace.row ⟨g,0,none⟩ cs.size,x∈m)/\∀x∈p,x∈m
 | [],_,_,h=>by cases h
 |(D,E)::l,m,h,hm=>by
  obtain⟨g,t,cs,i,p,q,r,s,u,v,y,rfl⟩:=h;rcases AA.1 hm with e|hm
  ·injection e with e1 z;subst e1 z;exact⟨g,t,cs,i,p,r,s,u,v,λx j=>CF _ (CF _ j),λx j=>CF _ (Ji _ j)⟩
  ·obtain⟨A,B,o,k,C,a,b,c,d,e,f⟩:=Jw y hm;exact⟨A,B,o,k,C,a,b,c,d,λx j=>Ji _ (e x j),λx j=>Ji _ (f x j)⟩
theorem LY {P:Program}{l:List (String×DataW Unit)}{W:World}(h:laidMetH P l W) {d:String}{c:DataW Unit}(g:(d,c)∈l) (i:c.handleName?.isSome=true):
  laidMet P (l.filter λx=>x.2.handleName?.isNone) W/\handlesMet P (l.filter λx=>x.2.handleName?.isSome) W:=by
 unfold laidMetH at h;have f:(d,c)∈l.filter λx=>x.2.handleName?.isSome:=D5.2 ⟨g,i⟩;split at h
 ·rename_i e;rw[e]at f;cases f
 ·rename_i a b e;rw[e];exact h
theorem YY {P:Program}{n nm:String}{text:List UInt8}{l:List (String×DataW Unit)}{W:World}{g:Nat}{z j k ts:TypeId}{C:Array (String×TypeId)}{f:Field}
  (h:laidMet P l W) (d:(n,DataW.iface nm (.ptr (.agg [.lit (.string text)])))∈l)
  (D:P.globalNamed n=some g) (E:(P.globals[g]?).map (·.type)=some z)
  (F:P.underlying z=some (.interface C)) (i:∀u,P.typeName? 3 u=some nm->u=j)
  (G:P.underlying j=some (.pointer k)) (H:P.underlying k=some (.struct #[f])) (m:f.type=ts) (o:f.offset=0) (I:P.underlying ts=some .string) (J:P.cellsOf k=1) (q:P.cellsOf ts=1):
  ∃(a:Addr) (s:ByteArray),W.cell? ⟨g,0,none⟩=some (.iface j (.pointer (some a)))/\W.cell? a=some (.string s)/\s.data.toList=text/\∃(c:Array Value) (t:TypeId),W.heap[a.block]?=some (.cells c t (0,0)):=by
 obtain⟨T,K,L,b⟩:=h;obtain⟨U,V,cs,A,p,r,M,B,N,O,Q⟩:=Jw K d;obtain rfl:=Bq (D.symm.trans r);obtain rfl:=Bq (E.symm.trans M);obtain⟨R⟩:=cs;have w:∀u v,R=[.iface u v]->Value.okWide P W .any 0 u v:=λu v e=>by subst e;exact(b g 0 (O _ (by simp[MemPlace.row]))).2 u v (by simpa using OG r B 0)
 obtain⟨a,s,rfl,x,y,S,rfl⟩:=errorString_of_trod F i G H m o I J q N w;refine⟨a,s,by simpa using OG r B 0,x,y,?_⟩;exact(b a.block a.off (Q _ (by simp[MemPlace.row]))).1
def uL (l:List Ah):DataW Unit:=.agg (l.map λs=>.lit (.string s))
theorem Xt {H:Type}{enc:TypeId×Value->H}{P:Program}{w:World}{c:Nat}{o:Nat->Bool}{d:Bool}{a:Nat}{t e:TypeId}{n:Nat}{cs:List Value}{zs:List Ah}{p:List MemPlace}
  (q:P.underlying t=some (.array n e)) (r:P.underlying e=some .string) (g:P.cellsOf e=1) (j:P.cellsOf t=n)
  (h:DataW.trod enc P w c o d a t cs=some (.agg (zs.map λs=>.lit (.string s)),p)):cs=zs.map vs:=by
 cases a with
 |zero=>simp[DataW.trod]at h
 |succ a=>
  simp only[DataW.trod,q,g,j,GQ]at h;split at h
  ·rename_i G;obtain⟨xs,m,u⟩:=AU.1 h;have f:xs.map (·.1)=zs.map λz=>(DataW.lit (.string z):DataW H):=by have:=AH Prod.fst u;simpa using this
   have v:xs.length=n:=by simpa using Lib.mapM_length m
   have x:zs.length=n:=by have:=AH List.length f;simp at this;omega
   apply Fj;intro i;by_cases y:i<n
   ·obtain⟨b,A,B⟩:=Lib.mapM_at m i i (by simp[y]);obtain⟨z,C,rfl,_⟩:=DataW.trod_string r B;have D:cs[i]?=some (.string z):=by have:=AH (·[0]?) C;simpa[List.getElem?_take,Lz]using this
    have k:(xs.map (·.1))[i]?=some (DataW.lit (.string z.data.toList):DataW H):=by simp[A]
    rw[f]at k;simp only[At,AU,DataW.lit.injEq,Lit.string.injEq]at k;obtain⟨E,l,e⟩:=k;have F:vs E= .string z:=by rw[e]
    rw[D,At,l,Ca,F]
   ·rw[Bl (by omega),Bl (by simp;omega)]
  ·cases h
theorem oS {P:Program}{n:String}{zs:List Ah}{l:List (String×DataW Unit)}{W:World}{g:Nat}{t e:TypeId}{m:Nat}
  (h:laidMet P l W) (b:(n,uL zs)∈l) (q:P.globalNamed n=some g) (c:(P.globals[g]?).map (·.type)=some t) (r:P.underlying t=some (.array m e)) (s:P.underlying e=some .string) (d:P.cellsOf e=1) (f:P.cellsOf t=m)
  (i:Nat) (u:i<zs.length):W.cell? ⟨g,i,none⟩=some (vs (zs.getD i [])):=by
 obtain⟨B,v,w,j⟩:=h;obtain⟨C,D,cs,k,p,o,x,y,z,E,F⟩:=Jw v b;obtain rfl:=Bq (q.symm.trans o);obtain rfl:=Bq (c.symm.trans x);have A:=Xt r s d f z;have a:=OG o y i;rw[show cs=(zs.map vs).toArray from by rw[←A]]at a;simpa[List.getD,u]using a
def Od (k:Nat):Ah:=
 if k=1 then [116,111,111,32,108,111,110,103]else if k=2 then [115,121,110,116,97,120,32,101,114,114,111,114]else if k=3 then [116,111,111,32,100,101,101,112]else if k=4 then [100,101,99,108,97,114,101,100,32,116,119,105,99,101]else if k=5 then [110,111,116,32,100,101,99,108,97,114,101,100]else if k=6 then [111,102,32,97,110,111,116,104,101,114,32,107,105,110,100]else if k=7 then [97,32,110,117,109,98,101,114,32,98,101,121,111,110,100,32,105,116,115,32,98,111,117,110,100,115]else if k=8 then [97,32,115,101,99,111,110,100,32,114,117,108,101]else if k=9 then [116,111,111,32,109,97,110,121,32,110,97,109,101,115]else if k=10 then [110,111,32,114,117,108,101,32,102,111,114,32,97,32,109,105,115,115]else if k=11 then [97,32,113,117,101,117,101,32,105,115,32,102,117,108,108]else if k=12 then [97,32,113,117,101,117,101,32,105,115,32,101,109,112,116,121]else []
theorem cI:∀j k,1<=j->j<=12->1<=k->k<=12->Od j=Od k->j=k:=by
 have h:∀j:Fin 13,∀k:Fin 13,1<=j.val->1<=k.val->Od j.val=Od k.val->j.val=k.val:=by decide
 intro j k a c b d e;exact h ⟨j,by omega⟩ ⟨k,by omega⟩ a b e
theorem zW4 (u:TypeId) (h:prog.typeName? 3 u=some "*errors.errorString"):u=304:=
 typeName_ptr_named (nm:= "errors.errorString") (by kernel_rfl) (by kernel_rfl) (by decide) u h
theorem wZ:prog.cellsOf 306=1:=by kernel_rfl
theorem db:prog.cellsOf 9=1:=by kernel_rfl
theorem wY:prog.cellsOf 237=24:=by kernel_rfl
theorem wP:prog.globalNamed "errors.errorType" =some 2:=by kernel_rfl
theorem Adk:(prog.cutTypes.find? (·.1== "internal/reflectlite.rtype")).map (·.2)=some 242:=by kernel_rfl
theorem lg:((List.range 333).filter λt=>prog.rowNamed t [101,114,114,111,114])=[96]:=by kernel_rfl
theorem jX:prog.types.size=333:=by kernel_rfl
structure Ur (l:List (String×DataW Unit)):Prop where
 et:("errors.errorType",Rows.laid_errors_errorType)∈l
 kw:("evictor/policy.keywords",Rows.laid_evictor_policy_keywords)∈l
 e1:("evictor/policy.ErrLong",Rows.laid_evictor_policy_ErrLong)∈l
 e2:("evictor/policy.ErrSyntax",Rows.laid_evictor_policy_ErrSyntax)∈l
 e3:("evictor/policy.ErrDeep",Rows.laid_evictor_policy_ErrDeep)∈l
 e4:("evictor/policy.ErrTwice",Rows.laid_evictor_policy_ErrTwice)∈l
 e5:("evictor/policy.ErrNone",Rows.laid_evictor_policy_ErrNone)∈l
 e6:("evictor/policy.ErrKind",Rows.laid_evictor_policy_ErrKind)∈l
 e7:("evictor/policy.ErrNumber",Rows.laid_evictor_policy_ErrNumber)∈l
 e8:("evictor/policy.ErrRule",Rows.laid_evictor_policy_ErrRule)∈l
 e9:("evictor/policy.ErrMany",Rows.laid_evictor_policy_ErrMany)∈l
 re:("evictor/policy.ErrMiss",Rows.laid_evictor_policy_ErrMiss)∈l
 rh:("evictor/code.ErrFull",Rows.laid_evictor_code_ErrFull)∈l
 ri:("evictor/code.ErrEmpty",Rows.laid_evictor_code_ErrEmpty)∈l
def tF (W:World) (k:Nat) (a:Addr):Prop:=
 W.cell? ⟨LJ k,0,none⟩=some (.iface 304 (.pointer (some a)))/\(∃s:ByteArray,W.cell? a=some (.string s)/\s.data.toList=Od k)/\∃(c:Array Value) (t:TypeId),W.heap[a.block]?=some (.cells c t (0,0))
section
variable {l:List (String×DataW Unit)}{W:World}
theorem Gw {n:String}{k g:Nat}(h:laidMet prog (l.filter λx=>x.2.handleName?.isNone) W) (b:(n,DataW.iface "*errors.errorString" (.ptr (.agg [.lit (.string (Od k))])))∈l)
  (c:prog.globalNamed n=some g) (d:(prog.globals[g]?).map (·.type)=some 96) (e:LJ k=g):∃a,tF W k a:=by
 obtain⟨a,s,f,i,j,m⟩:=YY h (D5.2 ⟨b,rfl⟩) c d GK zW4 Lw underlying306 rfl rfl Kd wZ db;exact⟨a,by rw[e];exact f,⟨s,i,j⟩,m⟩
theorem gN1:prog.globalNamed "evictor/policy.ErrLong" =some 0:=by kernel_rfl
theorem gT1:(prog.globals[0]?).map (·.type)=some 96:=by kernel_rfl
theorem gN2:prog.globalNamed "evictor/policy.ErrSyntax" =some 6:=by kernel_rfl
theorem gT2:(prog.globals[6]?).map (·.type)=some 96:=by kernel_rfl
theorem gN3:prog.globalNamed "evictor/policy.ErrDeep" =some 7:=by kernel_rfl
theorem gT3:(prog.globals[7]?).map (·.type)=some 96:=by kernel_rfl
theorem gN4:prog.globalNamed "evictor/policy.ErrTwice" =some 8:=by kernel_rfl
theorem gT4:(prog.globals[8]?).map (·.type)=some 96:=by kernel_rfl
theorem gN5:prog.globalNamed "evictor/policy.ErrNone" =some 9:=by kernel_rfl
theorem gT5:(prog.globals[9]?).map (·.type)=some 96:=by kernel_rfl
theorem gN6:prog.globalNamed "evictor/policy.ErrKind" =some 10:=by kernel_rfl
theorem gT6:(prog.globals[10]?).map (·.type)=some 96:=by kernel_rfl
theorem gN7:prog.globalNamed "evictor/policy.ErrNumber" =some 11:=by kernel_rfl
theorem gT7:(prog.globals[11]?).map (·.type)=some 96:=by kernel_rfl
theorem gN8:prog.globalNamed "evictor/policy.ErrRule" =some 12:=by kernel_rfl
theorem gT8:(prog.globals[12]?).map (·.type)=some 96:=by kernel_rfl
theorem gN9:prog.globalNamed "evictor/policy.ErrMany" =some 13:=by kernel_rfl
theorem gT9:(prog.globals[13]?).map (·.type)=some 96:=by kernel_rfl
theorem Any:prog.globalNamed "evictor/policy.ErrMiss" =some 1:=by kernel_rfl
theorem Anr:(prog.globals[1]?).map (·.type)=some 96:=by kernel_rfl
theorem Anx:prog.globalNamed "evictor/code.ErrFull" =some 4:=by kernel_rfl
theorem Anq:(prog.globals[4]?).map (·.type)=some 96:=by kernel_rfl
theorem Anw:prog.globalNamed "evictor/code.ErrEmpty" =some 5:=by kernel_rfl
theorem Anp:(prog.globals[5]?).map (·.type)=some 96:=by kernel_rfl
theorem Anv:prog.globalNamed "evictor/policy.keywords" =some 14:=by kernel_rfl
theorem Ano:(prog.globals[14]?).map (·.type)=some 237:=by kernel_rfl
theorem Wn (h:laidMetH prog l W) (b:Ur l):∃ea,U6 W.heap.size ea W/\JS W.heap.size ea W:=by
 obtain⟨c,z⟩:=LY h b.et rfl;have p:∀k,∃a,1<=k->k<=12->tF W k a:=by
  intro k;by_cases A:1<=k/\k<=12
  ·have:∃a,tF W k a:=by
    have B:k=1\/k=2\/k=3\/k=4\/k=5\/k=6\/k=7\/k=8\/k=9\/k=10\/k=11\/k=12:=by omega
    rcases B with rfl|rfl|rfl|rfl|rfl|rfl|rfl|rfl|rfl|rfl|rfl|rfl
    ·exact Gw c b.e1 gN1 gT1 rfl
    ·exact Gw c b.e2 gN2 gT2 rfl
    ·exact Gw c b.e3 gN3 gT3 rfl
    ·exact Gw c b.e4 gN4 gT4 rfl
    ·exact Gw c b.e5 gN5 gT5 rfl
    ·exact Gw c b.e6 gN6 gT6 rfl
    ·exact Gw c b.e7 gN7 gT7 rfl
    ·exact Gw c b.e8 gN8 gT8 rfl
    ·exact Gw c b.e9 gN9 gT9 rfl
    ·exact Gw c b.re Any Anr rfl
    ·exact Gw c b.rh Anx Anq rfl
    ·exact Gw c b.ri Anw Anp rfl
   obtain⟨a,F⟩:=this;exact⟨a,λ_ _=>F⟩
  ·exact⟨⟨0,0,none⟩,λG H=>absurd ⟨G,H⟩ A⟩
 obtain⟨ea,d⟩:=Classical.axiomOfChoice p;have m:∀j,j<24->W.cell? ⟨14,j,none⟩=some (vs (A3.getD j [])):=λj I=>
  oS (zs:=A3) c (D5.2 ⟨b.kw,rfl⟩) Anv Ano underlying237 Kd db wY j I
 have n:W.cell? ⟨2,0,none⟩=some (.iface 242 (.agg #[.pointer (some ⟨21,96,none⟩)])):=by
  obtain⟨name,u,ty,e1,C,D,E,v⟩:=z _ (D5.2 ⟨b.et,rfl⟩);have J:name=[101,114,114,111,114]:=(Bq e1).symm;subst J;obtain rfl:=Bq (Adk.symm.trans C);have w:ty∈(List.range 333).filter λt=>prog.rowNamed t [101,114,114,111,114]:=D5.2 ⟨xF.2 (by rw[←jX];exact D),E⟩;rw[lg]at w;obtain rfl:=Ec.1 w;have K:typeHandle prog 96= .pointer (some ⟨21,96,none⟩):=by kernel_rfl
  rw[K]at v;simpa using OG wP v 0
 have q:∀k,1<=k->k<=12->(ea k).block<W.heap.size:=λk g i=>by obtain⟨_,⟨s,o,_⟩,_⟩:=d k g i;exact CU W _ o
 refine⟨ea,⟨Ab _,λk g i=>(d k g i).1,λk g i=>CU W _ (d k g i).1,m,CU W _ (m 0 (by omega))⟩,
  ⟨λk g i=>(d k g i).2.2,q,λj k x y g i e=>?_,n,CU W _ n⟩⟩
 obtain⟨_,⟨s,o,L⟩,_⟩:=d j x y;obtain⟨_,⟨s',f,r⟩,_⟩:=d k g i;rw[e]at o;rw[o]at f;injection f with f;injection f with f;subst f;exact cI j k x y g i (L.symm.trans r)
end
end Go.Proofs.YtodkkholbjeioaaGreatDoor.Ev
namespace Go.Proofs.YtodkkholbjeioaaGreatDoor.Ev
open _root_.Go.Proofs.Tryz
open Go Go.ChangeShapes Go.WideShapes Go.ChangeAt Go.RowKit
open Go.ChangeMaps (open_string shut_string)
theorem Pa:ownKnob prog.godebug=none:=by kernel_rfl
theorem Pk:laidOutB prog=true:=by kernel_rfl
section
variable {H:Type}{enc:TypeId×Value->H}{P:Program}
theorem Qk (j:laidOutB P=true) {W k:World}(l:Below W.heap.size W k) {m:Nat->Bool}:∀{ts:List TypeId}{vs:List Value}{n:List (DataW H)}{g:List MemPlace},(∀t∈ts,P.readableRec t=true/\t<P.types.size)->
  DataW.TrodAll enc P W 0 (λ_=>true) true ts vs n g->(∀x∈g,x.block<W.heap.size)->(∀p∈g,m p.block=true)->DataW.TrodAll enc P k 0 m true ts vs n g
 | [],_,_,_,_,h,_,_=>by
  obtain⟨rfl,rfl,rfl⟩:=trodAll_nil h;exact trodAll_mk0
 |t::ts,_,_,_,e,h,f,o=>by
  obtain⟨v,q,d,r,a,b,rfl,rfl,rfl,s,u⟩:=trodAll_cons h;have i:=e t (Ly ..);exact⟨a,b,WideElems.Trod_stays j i.1 i.2 s (λx c=>l.same (f x (CF _ c))) (λx c=>o x (CF _ c)),
   Qk j l (λt i=>e t (GS _ i)) u (λx c=>f x (Ji _ c)) (λx c=>o x (Ji _ c)),rfl⟩
theorem Ns {f:Func}{s:ChangeSpec}{W u:World}{args:Array Value}{g gs:List (DataW H)}{c:List MemPlace}{Q:TypeId}(U:laidOutB P=true) (R:s.vars=[])
  (F:DataW.Whole enc P f.params.toList s.vars false W args.toList g gs c) (G:∀r:List (DataW H),r.length=f.params.size->s.fn H r={results:=[.lit (.bool true)],args:=r})
  (w:f.resultTypes=#[Q]) (y:P.underlying Q=some .bool) (I:∀t∈f.params.toList,P.readableRec t=true/\t<P.types.size) (V:Ac (λb=>W.heap.size<=b) W u):
  s.post enc P f false true false false W args (.bool true) u:=by
 have J:Below W.heap.size W u:=V.below (λk h=>h);have l:∀p∈c,p.block<W.heap.size:=λp z=>F.lt p z;have n:∀p∈c,(λb=>decide (b<W.heap.size)) p.block=true:=λp z=>by simpa using l p z
 have K:=F;obtain⟨p,q,L,S,rfl,M,N⟩:=F;have T:DataW.TrodAll enc P W 0 (λ_=>true) true f.params.toList args.toList g p:=L;rw[R]at S;obtain⟨rfl,rfl⟩:=trodVars_none S;rw[AO]at l n;have A:∀{ts:List TypeId} {vs:List Value} {g:List (DataW H)} {O:List MemPlace},DataW.TrodAll enc P W 0 (λ_=>true) true ts vs g O->g.length=ts.length:=by
  intro ts
  induction ts with
  |nil=>intro vs g O h;obtain⟨rfl,rfl,rfl⟩:=trodAll_nil h;rfl
  |cons t ts X=>
   intro vs g O h;obtain⟨v,Y,d,Z,a,b,rfl,rfl,rfl,h1,h2⟩:=trodAll_cons h;simp[X h2]
 have D:g.length=f.params.size:=by rw[A T];simp
 have e:s.fn H (g++[])={results:=[.lit (.bool true)],args:=g}:=by rw[AO];exact G g D
 have o:∀(b:Nat) (m:Nat->Bool) (D:Bool),DataW.TrodAll enc P u b m D f.resultTypes.toList ((Value.bool true).resultList f.resultTypes.size) (s.fn H (g++[])).results []:=by intro b m D;rw[e,w];exact trodAll_mk1 (shut_bool y true)
 have i:∀m:Nat->Bool,(∀x∈p,m x.block=true)->DataW.TrodAll enc P u 0 m true f.params.toList args.toList (s.fn H (g++[])).args p:=by intro m hs;rw[e];exact Qk U J I T l hs
 have j:∀m:Nat->Bool,DataW.TrodVars enc P u m s.vars (s.fn H (g++[])).vars []:=by intro m;rw[e,R];exact rfl
 refine⟨g,[],p++[],[],p,[],K,o _ _ _,i _ n,j _,World.keptBut_mono (λx E=>⟨E,.inr (by simpa using E)⟩) (J.frame (·∈p++[])),λ_=>?_⟩;refine⟨ok_one w rfl (okWide_bool_mk y true),_,_,([]++p)++[],⟨[]++p,[],trodAll_append (i _ (λ_ _=>rfl)) (o _ _ _),j _,rfl,?_,?_⟩,?_⟩
 ·intro b B z;have C:MemPlace.cell b B∈p++[]:=by simpa using z
  rw[J.frozen (l _ (by simpa using C))];exact M b B C
 ·intro ha;have:=N ha;simpa using this
 ·intro x E _;simpa using E
end
def Adw:DataW Unit->Value
 | .lit (.int k n)=>.int k n
 | .lit (.string s)=>.string ⟨s.toArray⟩
 |_=>undef
def sq:DataW Unit->Array Value
 | .agg l=>(l.map Adw).toArray
 | .slice l _=>(l.map Adw).toArray
 |_=>#[]
def UA (k:Nat):Obj:=.cells #[.string ⟨(Od k).toArray⟩] 306
def Nr (h:Array Obj) (g:Nat) (cs:Array Value):Array Obj:=h.modify g λ
 | .cells _ t frozen=>.cells cs t frozen
 |o=>o
noncomputable def C1 (os:Os):World:=
 let N:=(World.settled prog os).heap.size
 let w0:=World.holding prog os ⟨#[UA 1,UA 2,UA 3,UA 4,UA 5,UA 6,UA 7,UA 8,UA 9,UA 10,UA 11,UA 12,
  .cells #[.string ⟨#[118,97,108,117,101,32,111,117,116,32,111,102,32,114,97,110,103,101]⟩] 306,
  .cells #[.string ⟨#[105,110,118,97,108,105,100,32,115,121,110,116,97,120]⟩] 306,
  .cells (sq Rows.laid_evictor_evictorref_words) 9],#[],[]⟩
 let e (i:Nat):Array Value:=#[.iface 304 (.pointer (some ⟨N+i,0,none⟩))]
 let h:=w0.heap
 let h:=Nr h 0 (e 0)
 let h:=Nr h 6 (e 1)
 let h:=Nr h 7 (e 2)
 let h:=Nr h 8 (e 3)
 let h:=Nr h 9 (e 4)
 let h:=Nr h 10 (e 5)
 let h:=Nr h 11 (e 6)
 let h:=Nr h 12 (e 7)
 let h:=Nr h 13 (e 8)
 let h:=Nr h 1 (e 9)
 let h:=Nr h 4 (e 10)
 let h:=Nr h 5 (e 11)
 let h:=Nr h 18 (e 12)
 let h:=Nr h 17 (e 13)
 let h:=Nr h 14 (sq Rows.laid_evictor_policy_keywords)
 let h:=Nr h 15 (sq Rows.laid_internal_strconv_uint64pow10)
 let h:=Nr h 19 (sq Rows.laid_math_bits_deBruijn32tab)
 let h:=Nr h 20 (sq Rows.laid_math_bits_deBruijn64tab)
 let h:=Nr h 2 #[.iface 242 (.agg #[.pointer (some ⟨21,96,none⟩)])]
 let h:=Nr h 3 #[.slice (some ⟨N+14,0,none⟩) 24 24]
 {w0 with heap:=h}
end Go.Proofs.YtodkkholbjeioaaGreatDoor.Ev
namespace Go.Proofs.YtodkkholbjeioaaGreatDoor.Ev
open _root_.Go.Proofs.Tryz
open Go Go.ChangeShapes Go.WideShapes Go.ChangeAt Go.RowKit
theorem TX {H:Type}{P:Program}{e:TypeId}{d:DataW H}{n:Nat}(a:n∈d.weights P e):∀{l:List (DataW H)},d∈l->n∈DataW.weightsAll P e l
 | [],h=>by cases h
 |x::l,h=>by
  simp only[DataW.weightsAll,CD];rcases AA.1 h with rfl|h
  ·exact .inl a
  ·exact .inr (TX a h)
theorem wX:prog.cellsOf 27=4:=by kernel_rfl
theorem YC:prog.cellsOf 9=1:=by kernel_rfl
theorem mF:prog.cellsOf 3=1:=by kernel_rfl
theorem YB:prog.cellsOf 25=1:=by kernel_rfl
theorem xc:prog.bytesOf 27=40:=by kernel_rfl
section
variable {H:Type}{enc:TypeId×Value->H}{W:World}
theorem Adt {n:Nat}{D:DataW H}{l:List MemPlace}{cs:List Value}(m:cs.length=4) (o:DataW.trod enc prog W 0 (λ_=>true) true n 27 cs=some (D,l)) (b:∀n∈D.weights prog 27,n<=reachBytes):
  ∃x:Un,xE x/\cs=js x:=by
 obtain⟨xs,k,_,c,_,d,a⟩:=DataW.trod_struct underlying27 o
 match cs,m,xs,d with
 | [B,C,E,F],_,[G,I,J,K],_=>
  obtain⟨e,f,g2,g⟩:=zp4 (a 0 _ rfl) (a 1 _ rfl) (a 2 _ rfl) (a 3 _ rfl);simp only[mF,YB,YC,AK,Av,Au,AI,AJ,BM]at e f g2 g;obtain⟨p,q,r,h⟩:=xY Db e;obtain⟨t,e1,r1,i⟩:=xY Db f;obtain⟨u,v,w,L⟩:=xY Jl g2;obtain⟨s,y,z,M⟩:=DataW.trod_string Kd g;obtain rfl:=(ZZ q).1;obtain rfl:=(ZZ e1).1;obtain rfl:=(ZZ v).1;obtain rfl:=(ZZ y).1;have A:s.data.toList.length<=reachBytes:=by have j:=AH Prod.fst c;simp only at j;subst j;refine b _ ?_;simp only[DataW.weights,underlying27];simp[DataW.weightsEach,DataW.weights,r,r1,w,z]
  refine⟨⟨p,t,u,s.data.toList⟩,⟨(xd h).1,(xd h).2,(xd i).1,(xd i).2,?_⟩,rfl⟩;unfold reachBytes at A;show s.data.toList.length<=140737488351232;omega
instance Aqc:Inhabited Un:=⟨⟨0,0,0,[]⟩⟩
theorem No {G:Nat}{v:Value}{d:DataW H}{p:List MemPlace}(I:Value.okWide prog W .any G 22 v) (h:DataW.Trod enc prog W 0 (λ_=>true) true 22 v d p) (r:∀n∈d.weights prog 22,n<=reachBytes):
  ∃l,GZ W v l:=by
 obtain⟨V,Sc,s,rfl⟩:=okWide_slice Rr I;obtain⟨n,J⟩:=h;rcases Go.Deep.open_slice Rr J with⟨t,_⟩|⟨a,K,L,m,X,D,Y,t,_,Z,h3,M,c,N⟩
 ·simp[Value.cells]at t;obtain⟨rfl,rfl,rfl⟩:=t;exact⟨[],none,0,rfl,AM _,λx c=>by simp at c,λk x c=>by simp at c⟩
 ·simp[Value.cells]at t;obtain⟨rfl,rfl,rfl⟩:=t;have C:=AH Prod.fst c;simp only at C;subst C;have hm:Sc<=m:=by simp only[A7]at M;omega
  have O:∀i,i<Sc->∀q∈(D i).weights prog 27,q<=reachBytes:=λi u q P=>r q (by
   simp only[DataW.weights,Rr];exact GS _ (CF _ (TX P (AE.2 ⟨i,xF.2 u,rfl⟩))))
  have w:Sc*40<=reachBytes:=by
   have:=r ((Sc+(m-Sc))*40) (by
    simp only[DataW.weights,Rr,xc,Ft,List.length_range];exact Ly ..)
   have z:Sc+(m-Sc)=m:=by omega
   rw[z]at this;omega
  unfold reachBytes at w;have y:∀i,i<Sc->∃x:Un,xE x/\∀j,j<4->W.cell? ((a.add (i*4)).add j)=(js x)[j]?:=by intro i u;obtain⟨cs,z,Q⟩:=N i (by omega);rw[wX]at z;obtain⟨_,R,A⟩:=World.cells?_some z;obtain⟨x,S,rfl⟩:=Adt R Q (O i u);exact⟨x,S,A⟩
  obtain⟨f,B⟩:=Go.Deep.choose_lt y;refine⟨(List.range Sc).map f,some a,s,by simp,by simp;omega,λx c=>?_,λk x c=>?_⟩
  ·obtain⟨i,u,rfl⟩:=AE.1 c;exact(B i (xF.1 u)).1
  ·have E:k<Sc:=by have:=(Aj.1 c).1;simpa using this
   rw[At,ZD E]at c;obtain rfl:=Bq c;obtain⟨b,g,e⟩:=a;have A:=(B k E).2;have o:e=none:=by have T:W.cell? ((Addr.add ⟨b,g,e⟩ (0*4)).add 0)=some (.int .i64 (f 0).kind):=(B 0 (by omega)).2 0 (by omega);simpa[Addr.add]using World.cell?_spot T
   subst o;have F:∀j,j<4->W.cell? ⟨b,g+k*4+j,none⟩=(js (f k))[j]?:=λj U=>by have:=A j U;rwa [TR,TR]at this
   exact⟨b,g,rfl,CU W _ (F 0 (by omega)),F⟩
end
theorem Ant:prog.globalNamed "evictor/evictorref.words" =some 3:=by kernel_rfl
theorem Anm:(prog.globals[3]?).map (·.type)=some 210:=by kernel_rfl
theorem XM:(Rows.laid_evictor_evictorref_words:DataW Unit)= .slice (A3.map λs=>.lit (.string s)) []:=rfl
theorem OU {l:List (String×DataW Unit)}{W:World}(h:laidMetH prog l W) (b:Ur l) (G:("evictor/evictorref.words",Rows.laid_evictor_evictorref_words)∈l):∃I,M8 W I:=by
 obtain⟨J,_⟩:=LY h b.et rfl;obtain⟨V,K,L,t⟩:=J;obtain⟨X,Y,cs,C,p,e1,M,N,O,Z,e6⟩:=Jw K (D5.2 ⟨G,rfl⟩);obtain rfl:=Bq (Ant.symm.trans e1);obtain rfl:=Bq (Anm.symm.trans M);rcases open_strings underlying210 Kd YC O with⟨_,u⟩|⟨a,v,w,n,x,_,hl,P,Q,u,c,R⟩
 ·have e:=AH Prod.fst u;simp only at e;rw[XM]at e;cases e
 ·have e:=AH Prod.fst u;simp only at e;rw[XM]at e;injection e with D S;simp only[A7]at Q;have o:A3.length=24:=rfl;have y:=AH List.length D;have z:=AH List.length S;simp only[strs,Ft,nk,TN,Ak,o]at y z;have g:v=24:=by omega
  have i:w=24:=by omega
  subst g i;obtain⟨q,d,k⟩:=a;have f:k=none:=by simpa[Addr.add]using World.cell?_spot (c 0 (by omega))
  subst f;have E:W.cell? ⟨3,0,none⟩=some (.slice (some ⟨q,d,none⟩) 24 24):=by have:=OG e1 N 0;rw[show cs=#[Value.slice (some ⟨q,d,none⟩) 24 24]from by rw[←Array.toArray_toList (xs:=cs),x]]at this;simpa using this
  have m:∀j,j<24->W.cell? ⟨q,d+j,none⟩=some (vs (A3.getD j [])):=by
   intro j A;have F:=c j (by omega);rw[TR]at F;rw[F];have r:(A3.map λs=>(DataW.lit (.string s):DataW Unit))[j]?=(strs (n.take 24))[j]?:=by rw[D]
   unfold strs at r;have B:j<(n.take 24).length:=by rw[nk];omega
   rw[At,At,Ae (by rw[o];exact A),Ae B]at r;simp only[Ca,Co,DataW.lit.injEq,Lit.string.injEq,List.getElem_take]at r;have T:A3.getD j []=A3[j]'(by rw[o];exact A):=by rw[List.getD,Ae (by rw[o];exact A)];rfl
   have U:n.getD j ByteArray.empty=n[j]'(by omega):=by rw[List.getD,Ae (by omega)];rfl
   rw[T,U,r]
  exact⟨(q,d),E,m,CU W _ E,CU W _ (m 0 (by omega))⟩
end Go.Proofs.YtodkkholbjeioaaGreatDoor.Ev
namespace Go.Proofs.YtodkkholbjeioaaGreatDoor.Ev
open _root_.Go.Proofs.Tryz
open Go Go.RowKit
theorem Anu:prog.globalNamed "internal/strconv.uint64pow10" =some 15:=by kernel_rfl
theorem Ann:(prog.globals[15]?).map (·.type)=some 282:=by kernel_rfl
theorem wW:prog.cellsOf 282=20:=by kernel_rfl
theorem uK:(Rows.laid_internal_strconv_uint64pow10:DataW Unit)=Lib.tabData .u64 Lib.pow10Tab:=rfl
theorem Vm {l:List (String×DataW Unit)}{W:World}(h:laidMetH prog l W) (b:Ur l) (e:("internal/strconv.uint64pow10",Rows.laid_internal_strconv_uint64pow10)∈l):Na W:=by obtain⟨f,_⟩:=LY h b.et rfl;obtain⟨n,g,i,a⟩:=f;obtain⟨o,q,cs,c,p,e1,j,k,d,r,s⟩:=Jw g (D5.2 ⟨e,rfl⟩);obtain rfl:=Bq (Anu.symm.trans e1);obtain rfl:=Bq (Ann.symm.trans j);rw[uK]at d;have m:=Lib.cells_of_tab underlying282 Jl YB wW d;unfold Na Lib.TabIs;rw[k,←m]
end Go.Proofs.YtodkkholbjeioaaGreatDoor.Ev
