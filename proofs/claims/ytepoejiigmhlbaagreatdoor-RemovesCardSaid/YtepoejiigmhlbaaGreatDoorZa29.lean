/- Lemmas for a law's walk. Conditions: none. -/
import Derived.Test.YtepoejiigmhlbaaGreatDoorZa28
set_option linter.all false
set_option maxRecDepth 100000
set_option maxHeartbeats 8000000
namespace Go.Proofs.YtepoejiigmhlbaaGreatDoor.Ev
open _root_.Go.Proofs.Tryz
open Go Go.RowKit
theorem Jm {P:Program}{w:World}{n:String}{d:DataW Unit}:∀{l:List (String×DataW Unit)}{m:List MemPlace},DataW.LaidVars P w l m->(n,d)∈l->
  ∃g t cs i p,P.globalNamed n=some g/\(P.globals[g]?).map (·.type)=some t/\w.var? P n=some cs/\DataW.trod (λ_=>()) P w 0 (λ_=>true) false i t cs.toList=some (d,p)/\
   (∀x∈MemPlace.row ⟨g,0,none⟩ cs.size,x∈m)/\∀x∈p,x∈m
 | [],_,_,h=>by cases h
 |(D,E)::l,m,h,hm=>by
  obtain⟨g,t,cs,i,p,q,r,s,u,v,y,rfl⟩:=h;rcases A3.1 hm with e|hm
  ·injection e with e1 z;subst e1 z;exact⟨g,t,cs,i,p,r,s,u,v,λx j=>CE _ (CE _ j),λx j=>CE _ (I9 _ j)⟩
  ·obtain⟨A,B,o,k,C,a,b,c,d,e,f⟩:=Jm y hm;exact⟨A,B,o,k,C,a,b,c,d,λx j=>I9 _ (e x j),λx j=>I9 _ (f x j)⟩
theorem LJ {P:Program}{l:List (String×DataW Unit)}{W:World}(h:laidMetH P l W) {d:String}{c:DataW Unit}(g:(d,c)∈l) (i:c.handleName?.isSome=true):
  laidMet P (l.filter λx=>x.2.handleName?.isNone) W/\handlesMet P (l.filter λx=>x.2.handleName?.isSome) W:=by
 unfold laidMetH at h;have f:(d,c)∈l.filter λx=>x.2.handleName?.isSome:=D1.2 ⟨g,i⟩;split at h
 ·rename_i e;rw[e]at f;cases f
 ·rename_i a b e;rw[e];exact h
theorem Yw {P:Program}{n nm:String}{text:List UInt8}{l:List (String×DataW Unit)}{W:World}{g:Nat}{z j k ts:TypeId}{C:Array (String×TypeId)}{f:Field}
  (h:laidMet P l W) (d:(n,DataW.iface nm (.ptr (.agg [.lit (.string text)])))∈l)
  (D:P.globalNamed n=some g) (E:(P.globals[g]?).map (·.type)=some z)
  (F:P.underlying z=some (.interface C)) (i:∀u,P.typeName? 3 u=some nm->u=j)
  (G:P.underlying j=some (.pointer k)) (H:P.underlying k=some (.struct #[f])) (m:f.type=ts) (o:f.offset=0) (I:P.underlying ts=some .string) (J:P.cellsOf k=1) (q:P.cellsOf ts=1):
  ∃(a:Addr) (s:ByteArray),W.cell? ⟨g,0,none⟩=some (.iface j (.pointer (some a)))/\W.cell? a=some (.string s)/\s.data.toList=text/\∃(c:Array Value) (t:TypeId),W.heap[a.block]?=some (.cells c t (0,0)):=by
 obtain⟨T,K,L,b⟩:=h;obtain⟨U,V,cs,A,p,r,M,B,N,O,Q⟩:=Jm K d;obtain rfl:=Cn (D.symm.trans r);obtain rfl:=Cn (E.symm.trans M);obtain⟨R⟩:=cs;have w:∀u v,R=[.iface u v]->Value.okWide P W .any 0 u v:=λu v e=>by subst e;exact(b g 0 (O _ (by simp[MemPlace.row]))).2 u v (by simpa using Oj r B 0)
 obtain⟨a,s,rfl,x,y,S,rfl⟩:=errorString_of_trod F i G H m o I J q N w;refine⟨a,s,by simpa using Oj r B 0,x,y,?_⟩;exact(b a.block a.off (Q _ (by simp[MemPlace.row]))).1
def ug (l:List Ah):DataW Unit:=.agg (l.map λs=>.lit (.string s))
theorem WS {H:Type}{enc:TypeId×Value->H}{P:Program}{w:World}{c:Nat}{o:Nat->Bool}{d:Bool}{a:Nat}{t e:TypeId}{n:Nat}{cs:List Value}{zs:List Ah}{p:List MemPlace}
  (q:P.underlying t=some (.array n e)) (r:P.underlying e=some .string) (g:P.cellsOf e=1) (j:P.cellsOf t=n)
  (h:DataW.trod enc P w c o d a t cs=some (.agg (zs.map λs=>.lit (.string s)),p)):cs=zs.map vs:=by
 cases a with
 |zero=>simp[DataW.trod]at h
 |succ a=>
  simp only[DataW.trod,q,g,j,GO]at h;split at h
  ·rename_i G;obtain⟨xs,m,u⟩:=A7.1 h;have f:xs.map (·.1)=zs.map λz=>(DataW.lit (.string z):DataW H):=by have:=AG Prod.fst u;simpa using this
   have v:xs.length=n:=by simpa using Lib.mapM_length m
   have x:zs.length=n:=by have:=AG List.length f;simp at this;omega
   apply Fe;intro i;by_cases y:i<n
   ·obtain⟨b,A,B⟩:=Lib.mapM_at m i i (by simp[y]);obtain⟨z,C,rfl,_⟩:=DataW.trod_string r B;have D:cs[i]?=some (.string z):=by have:=AG (·[0]?) C;simpa[List.getElem?_take,Ln]using this
    have k:(xs.map (·.1))[i]?=some (DataW.lit (.string z.data.toList):DataW H):=by simp[A]
    rw[f]at k;simp only[At,A7,DataW.lit.injEq,Lit.string.injEq]at k;obtain⟨E,l,e⟩:=k;have F:vs E= .string z:=by rw[e]
    rw[D,At,l,B8,F]
   ·rw[Bl (by omega),Bl (by simp;omega)]
  ·cases h
theorem oh {P:Program}{n:String}{zs:List Ah}{l:List (String×DataW Unit)}{W:World}{g:Nat}{t e:TypeId}{m:Nat}
  (h:laidMet P l W) (b:(n,ug zs)∈l) (q:P.globalNamed n=some g) (c:(P.globals[g]?).map (·.type)=some t) (r:P.underlying t=some (.array m e)) (s:P.underlying e=some .string) (d:P.cellsOf e=1) (f:P.cellsOf t=m)
  (i:Nat) (u:i<zs.length):W.cell? ⟨g,i,none⟩=some (vs (zs.getD i [])):=by
 obtain⟨B,v,w,j⟩:=h;obtain⟨C,D,cs,k,p,o,x,y,z,E,F⟩:=Jm v b;obtain rfl:=Cn (q.symm.trans o);obtain rfl:=Cn (c.symm.trans x);have A:=WS r s d f z;have a:=Oj o y i;rw[show cs=(zs.map vs).toArray from by rw[←A]]at a;simpa[List.getD,u]using a
def NS (k:Nat):Ah:=
 if k=1 then [116,111,111,32,108,111,110,103]else if k=2 then [115,121,110,116,97,120,32,101,114,114,111,114]else if k=3 then [116,111,111,32,100,101,101,112]else if k=4 then [100,101,99,108,97,114,101,100,32,116,119,105,99,101]else if k=5 then [110,111,116,32,100,101,99,108,97,114,101,100]else if k=6 then [111,102,32,97,110,111,116,104,101,114,32,107,105,110,100]else if k=7 then [97,32,110,117,109,98,101,114,32,98,101,121,111,110,100,32,105,116,115,32,98,111,117,110,100,115]else if k=8 then [97,32,115,101,99,111,110,100,32,114,117,108,101]else if k=9 then [116,111,111,32,109,97,110,121,32,110,97,109,101,115]else if k=10 then [110,111,32,114,117,108,101,32,102,111,114,32,97,32,109,105,115,115]else if k=11 then [97,32,113,117,101,117,101,32,105,115,32,102,117,108,108]else if k=12 then [97,32,113,117,101,117,101,32,105,115,32,101,109,112,116,121]else []
theorem bP:∀j k,1<=j->j<=12->1<=k->k<=12->NS j=NS k->j=k:=by
 have h:∀j:Fin 13,∀k:Fin 13,1<=j.val->1<=k.val->NS j.val=NS k.val->j.val=k.val:=by decide
 intro j k a c b d e;exact h ⟨j,by omega⟩ ⟨k,by omega⟩ a b e
theorem zE (u:TypeId) (h:prog.typeName? 3 u=some "*errors.errorString"):u=307:=
 typeName_ptr_named (nm:= "errors.errorString") (by kernel_rfl) (by kernel_rfl) (by decide) u h
theorem ws:prog.cellsOf 309=1:=by kernel_rfl
theorem cB:prog.cellsOf 9=1:=by kernel_rfl
theorem wo:prog.cellsOf 177=24:=by kernel_rfl
theorem v9:prog.globalNamed "errors.errorType" =some 2:=by kernel_rfl
theorem Acr:(prog.cutTypes.find? (·.1== "internal/reflectlite.rtype")).map (·.2)=some 184:=by kernel_rfl
theorem ko:((List.range 339).filter λt=>prog.rowNamed t [101,114,114,111,114])=[51]:=by kernel_rfl
theorem jC:prog.types.size=339:=by kernel_rfl
structure de (l:List (String×DataW Unit)):Prop where
 et:("errors.errorType",Rows.laid_errors_errorType)∈l
 kw:("evictor/policy.keywords",Rows.laid_evictor_policy_keywords)∈l
 e1:("evictor/policy.ErrLong",Rows.laid_evictor_policy_ErrLong)∈l
 e2:("evictor/policy.ErrSyntax",Rows.laid_evictor_policy_ErrSyntax)∈l
 e3:("evictor/policy.ErrDeep",Rows.laid_evictor_policy_ErrDeep)∈l
 e4:("evictor/policy.ErrTwice",Rows.laid_evictor_policy_ErrTwice)∈l
 e5:("evictor/policy.ErrNone",Rows.laid_evictor_policy_ErrNone)∈l
 e6:("evictor/policy.ErrKind",Rows.laid_evictor_policy_ErrKind)∈l
 e7:("evictor/policy.ErrNumber",Rows.laid_evictor_policy_ErrNumber)∈l
 e8:("evictor/policy.ErrRule",Rows.laid_evictor_policy_ErrRule)∈l
 e9:("evictor/policy.ErrMany",Rows.laid_evictor_policy_ErrMany)∈l
 rU:("evictor/policy.ErrMiss",Rows.laid_evictor_policy_ErrMiss)∈l
 rV:("evictor/code.ErrFull",Rows.laid_evictor_code_ErrFull)∈l
 rW:("evictor/code.ErrEmpty",Rows.laid_evictor_code_ErrEmpty)∈l
def sM (W:World) (k:Nat) (a:Addr):Prop:=
 W.cell? ⟨Ly k,0,none⟩=some (.iface 307 (.pointer (some a)))/\(∃s:ByteArray,W.cell? a=some (.string s)/\s.data.toList=NS k)/\∃(c:Array Value) (t:TypeId),W.heap[a.block]?=some (.cells c t (0,0))
section
variable {l:List (String×DataW Unit)}{W:World}
theorem Gu {n:String}{k g:Nat}(h:laidMet prog (l.filter λx=>x.2.handleName?.isNone) W) (b:(n,DataW.iface "*errors.errorString" (.ptr (.agg [.lit (.string (NS k))])))∈l)
  (c:prog.globalNamed n=some g) (d:(prog.globals[g]?).map (·.type)=some 51) (e:Ly k=g):∃a,sM W k a:=by
 obtain⟨a,s,f,i,j,m⟩:=Yw h (D1.2 ⟨b,rfl⟩) c d GH zE Lk underlying309 rfl rfl J1 ws cB;exact⟨a,by rw[e];exact f,⟨s,i,j⟩,m⟩
theorem gN1:prog.globalNamed "evictor/policy.ErrLong" =some 0:=by kernel_rfl
theorem gT1:(prog.globals[0]?).map (·.type)=some 51:=by kernel_rfl
theorem gN2:prog.globalNamed "evictor/policy.ErrSyntax" =some 7:=by kernel_rfl
theorem gT2:(prog.globals[7]?).map (·.type)=some 51:=by kernel_rfl
theorem gN3:prog.globalNamed "evictor/policy.ErrDeep" =some 8:=by kernel_rfl
theorem gT3:(prog.globals[8]?).map (·.type)=some 51:=by kernel_rfl
theorem gN4:prog.globalNamed "evictor/policy.ErrTwice" =some 4:=by kernel_rfl
theorem gT4:(prog.globals[4]?).map (·.type)=some 51:=by kernel_rfl
theorem gN5:prog.globalNamed "evictor/policy.ErrNone" =some 9:=by kernel_rfl
theorem gT5:(prog.globals[9]?).map (·.type)=some 51:=by kernel_rfl
theorem gN6:prog.globalNamed "evictor/policy.ErrKind" =some 10:=by kernel_rfl
theorem gT6:(prog.globals[10]?).map (·.type)=some 51:=by kernel_rfl
theorem gN7:prog.globalNamed "evictor/policy.ErrNumber" =some 11:=by kernel_rfl
theorem gT7:(prog.globals[11]?).map (·.type)=some 51:=by kernel_rfl
theorem gN8:prog.globalNamed "evictor/policy.ErrRule" =some 6:=by kernel_rfl
theorem gT8:(prog.globals[6]?).map (·.type)=some 51:=by kernel_rfl
theorem gN9:prog.globalNamed "evictor/policy.ErrMany" =some 5:=by kernel_rfl
theorem gT9:(prog.globals[5]?).map (·.type)=some 51:=by kernel_rfl
theorem Am5:prog.globalNamed "evictor/policy.ErrMiss" =some 1:=by kernel_rfl
theorem Amz:(prog.globals[1]?).map (·.type)=some 51:=by kernel_rfl
theorem Am4:prog.globalNamed "evictor/code.ErrFull" =some 12:=by kernel_rfl
theorem Amy:(prog.globals[12]?).map (·.type)=some 51:=by kernel_rfl
theorem Am3:prog.globalNamed "evictor/code.ErrEmpty" =some 13:=by kernel_rfl
theorem Amx:(prog.globals[13]?).map (·.type)=some 51:=by kernel_rfl
theorem Am2:prog.globalNamed "evictor/policy.keywords" =some 3:=by kernel_rfl
theorem Amw:(prog.globals[3]?).map (·.type)=some 177:=by kernel_rfl
theorem qI (h:laidMetH prog l W) (b:de l):∃ea,UF W.heap.size ea W/\JI W.heap.size ea W:=by
 obtain⟨c,z⟩:=LJ h b.et rfl;have p:∀k,∃a,1<=k->k<=12->sM W k a:=by
  intro k;by_cases A:1<=k/\k<=12
  ·have:∃a,sM W k a:=by
    have B:k=1\/k=2\/k=3\/k=4\/k=5\/k=6\/k=7\/k=8\/k=9\/k=10\/k=11\/k=12:=by omega
    rcases B with rfl|rfl|rfl|rfl|rfl|rfl|rfl|rfl|rfl|rfl|rfl|rfl
    ·exact Gu c b.e1 gN1 gT1 rfl
    ·exact Gu c b.e2 gN2 gT2 rfl
    ·exact Gu c b.e3 gN3 gT3 rfl
    ·exact Gu c b.e4 gN4 gT4 rfl
    ·exact Gu c b.e5 gN5 gT5 rfl
    ·exact Gu c b.e6 gN6 gT6 rfl
    ·exact Gu c b.e7 gN7 gT7 rfl
    ·exact Gu c b.e8 gN8 gT8 rfl
    ·exact Gu c b.e9 gN9 gT9 rfl
    ·exact Gu c b.rU Am5 Amz rfl
    ·exact Gu c b.rV Am4 Amy rfl
    ·exact Gu c b.rW Am3 Amx rfl
   obtain⟨a,F⟩:=this;exact⟨a,λ_ _=>F⟩
  ·exact⟨⟨0,0,none⟩,λG H=>absurd ⟨G,H⟩ A⟩
 obtain⟨ea,d⟩:=Classical.axiomOfChoice p;have m:∀j,j<24->W.cell? ⟨3,j,none⟩=some (vs (A0.getD j [])):=λj I=>
  oh (zs:=A0) c (D1.2 ⟨b.kw,rfl⟩) Am2 Amw underlying177 J1 cB wo j I
 have n:W.cell? ⟨2,0,none⟩=some (.iface 184 (.agg #[.pointer (some ⟨21,51,none⟩)])):=by
  obtain⟨name,u,ty,e1,C,D,E,v⟩:=z _ (D1.2 ⟨b.et,rfl⟩);have J:name=[101,114,114,111,114]:=(Cn e1).symm;subst J;obtain rfl:=Cn (Acr.symm.trans C);have w:ty∈(List.range 339).filter λt=>prog.rowNamed t [101,114,114,111,114]:=D1.2 ⟨wR.2 (by rw[←jC];exact D),E⟩;rw[ko]at w;obtain rfl:=D8.1 w;have K:typeHandle prog 51= .pointer (some ⟨21,51,none⟩):=by kernel_rfl
  rw[K]at v;simpa using Oj v9 v 0
 have q:∀k,1<=k->k<=12->(ea k).block<W.heap.size:=λk g i=>by obtain⟨_,⟨s,o,_⟩,_⟩:=d k g i;exact CT W _ o
 refine⟨ea,⟨Ab _,λk g i=>(d k g i).1,λk g i=>CT W _ (d k g i).1,m,CT W _ (m 0 (by omega))⟩,
  ⟨λk g i=>(d k g i).2.2,q,λj k x y g i e=>?_,n,CT W _ n⟩⟩
 obtain⟨_,⟨s,o,L⟩,_⟩:=d j x y;obtain⟨_,⟨s',f,r⟩,_⟩:=d k g i;rw[e]at o;rw[o]at f;injection f with f;injection f with f;subst f;exact bP j k x y g i (L.symm.trans r)
end
end Go.Proofs.YtepoejiigmhlbaaGreatDoor.Ev
namespace Go.Proofs.YtepoejiigmhlbaaGreatDoor.Ev
open _root_.Go.Proofs.Tryz
open Go Go.ChangeShapes Go.WideShapes Go.ChangeAt Go.RowKit
open Go.ChangeMaps (open_string shut_string)
theorem aF:ownKnob prog.godebug=none:=by kernel_rfl
theorem aS:laidOutB prog=true:=by kernel_rfl
section
variable {H:Type}{enc:TypeId×Value->H}{P:Program}
theorem PW (j:laidOutB P=true) {W k:World}(l:Below W.heap.size W k) {m:Nat->Bool}:∀{ts:List TypeId}{vs:List Value}{n:List (DataW H)}{g:List MemPlace},(∀t∈ts,P.readableRec t=true/\t<P.types.size)->
  DataW.TrodAll enc P W 0 (λ_=>true) true ts vs n g->(∀x∈g,x.block<W.heap.size)->(∀p∈g,m p.block=true)->DataW.TrodAll enc P k 0 m true ts vs n g
 | [],_,_,_,_,h,_,_=>by
  obtain⟨rfl,rfl,rfl⟩:=trodAll_nil h;exact trodAll_mk0
 |t::ts,_,_,_,e,h,f,o=>by
  obtain⟨v,q,d,r,a,b,rfl,rfl,rfl,s,u⟩:=trodAll_cons h;have i:=e t (Lm ..);exact⟨a,b,WideElems.Trod_stays j i.1 i.2 s (λx c=>l.same (f x (CE _ c))) (λx c=>o x (CE _ c)),
   PW j l (λt i=>e t (GQ _ i)) u (λx c=>f x (I9 _ c)) (λx c=>o x (I9 _ c)),rfl⟩
theorem Xz {f:Func}{s:ChangeSpec}{W u:World}{args:Array Value}{g gs:List (DataW H)}{c:List MemPlace}{Q:TypeId}(U:laidOutB P=true) (R:s.vars=[])
  (F:DataW.Whole enc P f.params.toList s.vars false W args.toList g gs c) (G:∀r:List (DataW H),r.length=f.params.size->s.fn H r={results:=[.lit (.bool true)],args:=r})
  (w:f.resultTypes=#[Q]) (y:P.underlying Q=some .bool) (I:∀t∈f.params.toList,P.readableRec t=true/\t<P.types.size) (V:Ac (λb=>W.heap.size<=b) W u):
  s.post enc P f false true false false W args (.bool true) u:=by
 have J:Below W.heap.size W u:=V.below (λk h=>h);have l:∀p∈c,p.block<W.heap.size:=λp z=>F.lt p z;have n:∀p∈c,(λb=>decide (b<W.heap.size)) p.block=true:=λp z=>by simpa using l p z
 have K:=F;obtain⟨p,q,L,S,rfl,M,N⟩:=F;have T:DataW.TrodAll enc P W 0 (λ_=>true) true f.params.toList args.toList g p:=L;rw[R]at S;obtain⟨rfl,rfl⟩:=trodVars_none S;rw[AM]at l n;have A:∀{ts:List TypeId} {vs:List Value} {g:List (DataW H)} {O:List MemPlace},DataW.TrodAll enc P W 0 (λ_=>true) true ts vs g O->g.length=ts.length:=by
  intro ts
  induction ts with
  |nil=>intro vs g O h;obtain⟨rfl,rfl,rfl⟩:=trodAll_nil h;rfl
  |cons t ts X=>
   intro vs g O h;obtain⟨v,Y,d,Z,a,b,rfl,rfl,rfl,h1,h2⟩:=trodAll_cons h;simp[X h2]
 have D:g.length=f.params.size:=by rw[A T];simp
 have e:s.fn H (g++[])={results:=[.lit (.bool true)],args:=g}:=by rw[AM];exact G g D
 have o:∀(b:Nat) (m:Nat->Bool) (D:Bool),DataW.TrodAll enc P u b m D f.resultTypes.toList ((Value.bool true).resultList f.resultTypes.size) (s.fn H (g++[])).results []:=by intro b m D;rw[e,w];exact trodAll_mk1 (shut_bool y true)
 have i:∀m:Nat->Bool,(∀x∈p,m x.block=true)->DataW.TrodAll enc P u 0 m true f.params.toList args.toList (s.fn H (g++[])).args p:=by intro m hs;rw[e];exact PW U J I T l hs
 have j:∀m:Nat->Bool,DataW.TrodVars enc P u m s.vars (s.fn H (g++[])).vars []:=by intro m;rw[e,R];exact rfl
 refine⟨g,[],p++[],[],p,[],K,o _ _ _,i _ n,j _,World.keptBut_mono (λx E=>⟨E,.inr (by simpa using E)⟩) (J.frame (·∈p++[])),λ_=>?_⟩;refine⟨ok_one w rfl (okWide_bool_mk y true),_,_,([]++p)++[],⟨[]++p,[],trodAll_append (i _ (λ_ _=>rfl)) (o _ _ _),j _,rfl,?_,?_⟩,?_⟩
 ·intro b B z;have C:MemPlace.cell b B∈p++[]:=by simpa using z
  rw[J.frozen (l _ (by simpa using C))];exact M b B C
 ·intro ha;have:=N ha;simpa using this
 ·intro x E _;simpa using E
end
def Ac3:DataW Unit->Value
 | .lit (.int k n)=>.int k n
 | .lit (.string s)=>.string ⟨s.toArray⟩
 |_=>undef
def rr:DataW Unit->Array Value
 | .agg l=>(l.map Ac3).toArray
 | .slice l _=>(l.map Ac3).toArray
 |_=>#[]
def T9 (k:Nat):Obj:=.cells #[.string ⟨(NS k).toArray⟩] 309
def M9 (h:Array Obj) (g:Nat) (cs:Array Value):Array Obj:=h.modify g λ
 | .cells _ t frozen=>.cells cs t frozen
 |o=>o
noncomputable def IU (os:Os):World:=
 let N:=(World.settled prog os).heap.size
 let w0:=World.holding prog os ⟨#[T9 1,T9 2,T9 3,T9 4,T9 5,T9 6,T9 7,T9 8,T9 9,T9 10,T9 11,T9 12,
  .cells #[.string ⟨#[118,97,108,117,101,32,111,117,116,32,111,102,32,114,97,110,103,101]⟩] 309,
  .cells #[.string ⟨#[105,110,118,97,108,105,100,32,115,121,110,116,97,120]⟩] 309,
  .cells (rr Rows.laid_evictor_evictorref_words) 9],#[],[]⟩
 let e (i:Nat):Array Value:=#[.iface 307 (.pointer (some ⟨N+i,0,none⟩))]
 let h:=w0.heap
 let h:=M9 h 0 (e 0)
 let h:=M9 h 7 (e 1)
 let h:=M9 h 8 (e 2)
 let h:=M9 h 4 (e 3)
 let h:=M9 h 9 (e 4)
 let h:=M9 h 10 (e 5)
 let h:=M9 h 11 (e 6)
 let h:=M9 h 6 (e 7)
 let h:=M9 h 5 (e 8)
 let h:=M9 h 1 (e 9)
 let h:=M9 h 12 (e 10)
 let h:=M9 h 13 (e 11)
 let h:=M9 h 18 (e 12)
 let h:=M9 h 17 (e 13)
 let h:=M9 h 3 (rr Rows.laid_evictor_policy_keywords)
 let h:=M9 h 16 (rr Rows.laid_internal_strconv_uint64pow10)
 let h:=M9 h 19 (rr Rows.laid_math_bits_deBruijn32tab)
 let h:=M9 h 20 (rr Rows.laid_math_bits_deBruijn64tab)
 let h:=M9 h 2 #[.iface 184 (.agg #[.pointer (some ⟨21,51,none⟩)])]
 let h:=M9 h 14 #[.slice (some ⟨N+14,0,none⟩) 24 24]
 {w0 with heap:=h}
end Go.Proofs.YtepoejiigmhlbaaGreatDoor.Ev
namespace Go.Proofs.YtepoejiigmhlbaaGreatDoor.Ev
open _root_.Go.Proofs.Tryz
open Go Go.ChangeShapes Go.WideShapes Go.ChangeAt Go.RowKit
theorem Tu {H:Type}{P:Program}{e:TypeId}{d:DataW H}{n:Nat}(a:n∈d.weights P e):∀{l:List (DataW H)},d∈l->n∈DataW.weightsAll P e l
 | [],h=>by cases h
 |x::l,h=>by
  simp only[DataW.weightsAll,CC];rcases A3.1 h with rfl|h
  ·exact .inl a
  ·exact .inr (Tu a h)
theorem wn:prog.cellsOf 87=4:=by kernel_rfl
theorem X9:prog.cellsOf 9=1:=by kernel_rfl
theorem l7:prog.cellsOf 3=1:=by kernel_rfl
theorem X8:prog.cellsOf 32=1:=by kernel_rfl
theorem wv:prog.bytesOf 87=40:=by kernel_rfl
section
variable {H:Type}{enc:TypeId×Value->H}{W:World}
theorem Ac0 {n:Nat}{D:DataW H}{l:List MemPlace}{cs:List Value}(m:cs.length=4) (o:DataW.trod enc prog W 0 (λ_=>true) true n 87 cs=some (D,l)) (b:∀n∈D.weights prog 87,n<=reachBytes):
  ∃x:W7,yX x/\cs=i7 x:=by
 obtain⟨xs,k,_,c,_,d,a⟩:=DataW.trod_struct underlying87 o
 match cs,m,xs,d with
 | [B,C,E,F],_,[G,I,J,K],_=>
  obtain⟨e,f,g2,g⟩:=zp4 (a 0 _ rfl) (a 1 _ rfl) (a 2 _ rfl) (a 3 _ rfl);simp only[l7,X8,X9,AJ,Av,Au,AH,AI,BL]at e f g2 g;obtain⟨p,q,r,h⟩:=xr C9 e;obtain⟨t,e1,r1,i⟩:=xr C9 f;obtain⟨u,v,w,L⟩:=xr Jb g2;obtain⟨s,y,z,M⟩:=DataW.trod_string J1 g;obtain rfl:=(ZB q).1;obtain rfl:=(ZB e1).1;obtain rfl:=(ZB v).1;obtain rfl:=(ZB y).1;have A:s.data.toList.length<=reachBytes:=by have j:=AG Prod.fst c;simp only at j;subst j;refine b _ ?_;simp only[DataW.weights,underlying87];simp[DataW.weightsEach,DataW.weights,r,r1,w,z]
  refine⟨⟨p,t,u,s.data.toList⟩,⟨(wB h).1,(wB h).2,(wB i).1,(wB i).2,?_⟩,rfl⟩;unfold reachBytes at A;show s.data.toList.length<=140737488351232;omega
instance Apk:Inhabited W7:=⟨⟨0,0,0,[]⟩⟩
theorem Xs {G:Nat}{v:Value}{d:DataW H}{p:List MemPlace}(I:Value.okWide prog W .any G 44 v) (h:DataW.Trod enc prog W 0 (λ_=>true) true 44 v d p) (r:∀n∈d.weights prog 44,n<=reachBytes):
  ∃l,Kd W v l:=by
 obtain⟨V,Rv,s,rfl⟩:=okWide_slice QN I;obtain⟨n,J⟩:=h;rcases Go.Deep.open_slice QN J with⟨t,_⟩|⟨a,K,L,m,X,D,Y,t,_,Z,h3,M,c,N⟩
 ·simp[Value.cells]at t;obtain⟨rfl,rfl,rfl⟩:=t;exact⟨[],none,0,rfl,AQ _,λx c=>by simp at c,λk x c=>by simp at c⟩
 ·simp[Value.cells]at t;obtain⟨rfl,rfl,rfl⟩:=t;have C:=AG Prod.fst c;simp only at C;subst C;have hm:Rv<=m:=by simp only[A6]at M;omega
  have O:∀i,i<Rv->∀q∈(D i).weights prog 87,q<=reachBytes:=λi u q P=>r q (by
   simp only[DataW.weights,QN];exact GQ _ (CE _ (Tu P (AD.2 ⟨i,wR.2 u,rfl⟩))))
  have w:Rv*40<=reachBytes:=by
   have:=r ((Rv+(m-Rv))*40) (by
    simp only[DataW.weights,QN,wv,Fo,List.length_range];exact Lm ..)
   have z:Rv+(m-Rv)=m:=by omega
   rw[z]at this;omega
  unfold reachBytes at w;have y:∀i,i<Rv->∃x:W7,yX x/\∀j,j<4->W.cell? ((a.add (i*4)).add j)=(i7 x)[j]?:=by intro i u;obtain⟨cs,z,Q⟩:=N i (by omega);rw[wn]at z;obtain⟨_,R,A⟩:=World.cells?_some z;obtain⟨x,S,rfl⟩:=Ac0 R Q (O i u);exact⟨x,S,A⟩
  obtain⟨f,B⟩:=Go.Deep.choose_lt y;refine⟨(List.range Rv).map f,some a,s,by simp,by simp;omega,λx c=>?_,λk x c=>?_⟩
  ·obtain⟨i,u,rfl⟩:=AD.1 c;exact(B i (wR.1 u)).1
  ·have E:k<Rv:=by have:=(Aj.1 c).1;simpa using this
   rw[At,Zd E]at c;obtain rfl:=Cn c;obtain⟨b,g,e⟩:=a;have A:=(B k E).2;have o:e=none:=by have T:W.cell? ((Addr.add ⟨b,g,e⟩ (0*4)).add 0)=some (.int .i64 (f 0).kind):=(B 0 (by omega)).2 0 (by omega);simpa[Addr.add]using World.cell?_spot T
   subst o;have F:∀j,j<4->W.cell? ⟨b,g+k*4+j,none⟩=(i7 (f k))[j]?:=λj U=>by have:=A j U;rwa [Tq,Tq]at this
   exact⟨b,g,rfl,CT W _ (F 0 (by omega)),F⟩
end
theorem Am0:prog.globalNamed "evictor/evictorref.words" =some 14:=by kernel_rfl
theorem Amu:(prog.globals[14]?).map (·.type)=some 28:=by kernel_rfl
theorem Xh:(Rows.laid_evictor_evictorref_words:DataW Unit)= .slice (A0.map λs=>.lit (.string s)) []:=rfl
theorem ZH {l:List (String×DataW Unit)}{W:World}(h:laidMetH prog l W) (b:de l) (G:("evictor/evictorref.words",Rows.laid_evictor_evictorref_words)∈l):∃I,MQ W I:=by
 obtain⟨J,_⟩:=LJ h b.et rfl;obtain⟨V,K,L,t⟩:=J;obtain⟨X,Y,cs,C,p,e1,M,N,O,Z,e6⟩:=Jm K (D1.2 ⟨G,rfl⟩);obtain rfl:=Cn (Am0.symm.trans e1);obtain rfl:=Cn (Amu.symm.trans M);rcases open_strings underlying28 J1 X9 O with⟨_,u⟩|⟨a,v,w,n,x,_,hl,P,Q,u,c,R⟩
 ·have e:=AG Prod.fst u;simp only at e;rw[Xh]at e;cases e
 ·have e:=AG Prod.fst u;simp only at e;rw[Xh]at e;injection e with D S;simp only[A6]at Q;have o:A0.length=24:=rfl;have y:=AG List.length D;have z:=AG List.length S;simp only[strs,Fo,mC,Tm,Ak,o]at y z;have g:v=24:=by omega
  have i:w=24:=by omega
  subst g i;obtain⟨q,d,k⟩:=a;have f:k=none:=by simpa[Addr.add]using World.cell?_spot (c 0 (by omega))
  subst f;have E:W.cell? ⟨14,0,none⟩=some (.slice (some ⟨q,d,none⟩) 24 24):=by have:=Oj e1 N 0;rw[show cs=#[Value.slice (some ⟨q,d,none⟩) 24 24]from by rw[←Array.toArray_toList (xs:=cs),x]]at this;simpa using this
  have m:∀j,j<24->W.cell? ⟨q,d+j,none⟩=some (vs (A0.getD j [])):=by
   intro j A;have F:=c j (by omega);rw[Tq]at F;rw[F];have r:(A0.map λs=>(DataW.lit (.string s):DataW Unit))[j]?=(strs (n.take 24))[j]?:=by rw[D]
   unfold strs at r;have B:j<(n.take 24).length:=by rw[mC];omega
   rw[At,At,Ae (by rw[o];exact A),Ae B]at r;simp only[B8,Cm,DataW.lit.injEq,Lit.string.injEq,List.getElem_take]at r;have T:A0.getD j []=A0[j]'(by rw[o];exact A):=by rw[List.getD,Ae (by rw[o];exact A)];rfl
   have U:n.getD j ByteArray.empty=n[j]'(by omega):=by rw[List.getD,Ae (by omega)];rfl
   rw[T,U,r]
  exact⟨(q,d),E,m,CT W _ E,CT W _ (m 0 (by omega))⟩
end Go.Proofs.YtepoejiigmhlbaaGreatDoor.Ev
namespace Go.Proofs.YtepoejiigmhlbaaGreatDoor.Ev
open _root_.Go.Proofs.Tryz
open Go Go.RowKit
theorem Am1:prog.globalNamed "internal/strconv.uint64pow10" =some 16:=by kernel_rfl
theorem Amv:(prog.globals[16]?).map (·.type)=some 289:=by kernel_rfl
theorem wm:prog.cellsOf 289=20:=by kernel_rfl
theorem ue:(Rows.laid_internal_strconv_uint64pow10:DataW Unit)=Lib.tabData .u64 Lib.pow10Tab:=rfl
theorem oe {l:List (String×DataW Unit)}{W:World}(h:laidMetH prog l W) (b:de l) (e:("internal/strconv.uint64pow10",Rows.laid_internal_strconv_uint64pow10)∈l):Ol W:=by obtain⟨f,_⟩:=LJ h b.et rfl;obtain⟨n,g,i,a⟩:=f;obtain⟨o,q,cs,c,p,e1,j,k,d,r,s⟩:=Jm g (D1.2 ⟨e,rfl⟩);obtain rfl:=Cn (Am1.symm.trans e1);obtain rfl:=Cn (Amv.symm.trans j);rw[ue]at d;have m:=Lib.cells_of_tab underlying289 Jb X8 wm d;unfold Ol Lib.TabIs;rw[k,←m]
section
variable {B:Nat}{ea:Nat->Addr}{gx:Nat×Nat}{w:World}{v:Value}{l:List W7}
theorem Yz (n:cU B ea gx w) (p:Ol w) (h:Kd w v l):Calls prog 5 #[v] w λe q=>e= .returned (.bool true)/\Ac (λb=>w.heap.size<=b) w q:=by
 obtain⟨r,s⟩:=zq2 (Xq h) (λW (j:Ac (λb=>w.heap.size<=b) w W) (t:l.length<=1048576)=>ZO (h.later j) t (only:=4) (by decide) (λH gw o E I u z J m x A C D F=>ZX (n.later j) (p.later j) A C D));obtain⟨a,c,rfl,_⟩:=id h;clear n h p;go_enter wM,ntmps5;go_wp2_with fail;refine r.out.mono ?_;rintro y w1 ⟨b,rfl,i,f⟩;obtain⟨G,d⟩:=zq2 i f;clear i f;cases b with
 |false=>
  go_wp2;go_ret;exact⟨rfl,d.out⟩
 |true=>
  go_wp2_with fail;refine(s.out _ d.out (G.out (by first|rfl|trivial))).mono ?_;rintro y K ⟨rfl,g⟩;have k:=Aa g;clear g;go_wp2;go_ret;exact⟨rfl,d.out.trans (k.out.mono (λb i=>Ad d.out.size i))⟩
end
end Go.Proofs.YtepoejiigmhlbaaGreatDoor.Ev
