/- Lemmas for a law's walk. Conditions: none. -/
import Derived.Stop.LaidErr
import Derived.Lib.LaidTab
import Derived.LaidHandle
import Derived.LaidLaws
import Derived.Test.YtepoejiigmhlbaaGreatDoorRows
import Derived.Test.YtepoejiigmhlbaaGreatDoorCards
import Derived.Test.YtepoejiigmhlbaaGreatDoorTie
import Derived.ProofKit
import Derived.OpenShut
import Derived.Carry
import Derived.Deep.DeepHandedRow
import Derived.Deep.DeepWitnessRowRef
import Derived.Lib.LaidIn
import Derived.Deep.RegionWith
import Derived.Laws.IdiomStrings
import Derived.IntWalk
import Derived.Laws.Concat
import Derived.Deep.DrawnRows
import Derived.Test.YtepoejiigmhlbaaGreatDoorZc02
import Derived.Test.YtepoejiigmhlbaaGreatDoorZc04
import Derived.Test.YtepoejiigmhlbaaGreatDoorZc14
import Derived.Test.YtepoejiigmhlbaaGreatDoorZc15
set_option linter.all false
namespace Go.Proofs.YtepoejiigmhlbaaGreatDoor.Ev
open Go Go.RowKit
theorem laidVars_mem {P:Program} {w:World} {n:String} {d:DataW Unit}:∀{l:List (String×DataW Unit)} {ps:List MemPlace},DataW.LaidVars P w l ps→(n,d)∈l→
  ∃g t cs fuel p,P.globalNamed n=some g∧(P.globals[g]?).map (·.type)=some t∧w.var? P n=some cs∧DataW.trod (fun _=>()) P w 0 (fun _=>true) false fuel t cs.toList=some (d,p)∧
   (∀x∈MemPlace.row ⟨g,0,none⟩ cs.size,x∈ps)∧∀x∈p,x∈ps
 | [],_,_,h=>by cases h
 |(n',d')::l,ps,h,hm=>by
  obtain⟨g,t,cs,fuel,p,q,h1,h2,h3,h4,h5,rfl⟩:=h
  rcases List.mem_cons.1 hm with e|hm
  ·injection e with e1 e2
   subst e1 e2
   exact⟨g,t,cs,fuel,p,h1,h2,h3,h4,fun x hx=>List.mem_append_left _ (List.mem_append_left _ hx),fun x hx=>List.mem_append_left _ (List.mem_append_right _ hx)⟩
  ·obtain⟨g',t',cs',fuel',p',a,b,c,d,e,f⟩:=laidVars_mem h5 hm
   exact⟨g',t',cs',fuel',p',a,b,c,d,fun x hx=>List.mem_append_right _ (e x hx),fun x hx=>List.mem_append_right _ (f x hx)⟩
theorem laidMetH_split {P:Program} {l:List (String×DataW Unit)} {W:World} (h:laidMetH P l W) {n0:String} {d0:DataW Unit} (h0:(n0,d0)∈l) (hh:d0.handleName?.isSome=true):
  laidMet P (l.filter fun x=>x.2.handleName?.isNone) W∧handlesMet P (l.filter fun x=>x.2.handleName?.isSome) W:=by
 unfold laidMetH at h
 have hm:(n0,d0)∈l.filter fun x=>x.2.handleName?.isSome:=List.mem_filter.2 ⟨h0,hh⟩
 split at h
 ·rename_i e
  rw[e]at hm
  cases hm
 ·rename_i a b e
  rw[e]
  exact h
theorem sentinel_mem {P:Program} {n nm:String} {text:List UInt8} {l:List (String×DataW Unit)} {W:World} {g:Nat} {ti tp te ts:TypeId} {ms:Array (String×TypeId)} {f:Field}
  (h:laidMet P l W) (hmem:(n,DataW.iface nm (.ptr (.agg [.lit (.string text)])))∈l)
  (hg:P.globalNamed n=some g) (ht:(P.globals[g]?).map (·.type)=some ti)
  (hi:P.underlying ti=some (.interface ms)) (hrow:∀u,P.typeName? 3 u=some nm→u=tp)
  (hp:P.underlying tp=some (.pointer te)) (he:P.underlying te=some (.struct #[f])) (hft:f.type=ts) (hfo:f.offset=0) (hs:P.underlying ts=some .string) (hc:P.cellsOf te=1) (hcs:P.cellsOf ts=1):
  ∃(a:Addr) (s:ByteArray),W.cell? ⟨g,0,none⟩=some (.iface tp (.pointer (some a)))∧W.cell? a=some (.string s)∧s.data.toList=text∧∃(c:Array Value) (t:TypeId),W.heap[a.block]?=some (.cells c t (0,0)):=by
 obtain⟨ps,hv,hnd,hrows⟩:=h
 obtain⟨g',t',cs,fuel,p,h1,h2,h3,h4,h5,h6⟩:=laidVars_mem hv hmem
 obtain rfl:=Option.some.inj (hg.symm.trans h1)
 obtain rfl:=Option.some.inj (ht.symm.trans h2)
 obtain⟨l0⟩:=cs
 have ok0:∀u v,l0=[.iface u v]→Value.okWide P W .any 0 u v:=fun u v e=>by
  subst e
  exact(hrows g 0 (h5 _ (by simp[MemPlace.row]))).2 u v (by simpa using World.var?_cell h1 h3 0)
 obtain⟨a,s,rfl,hc0,hs0,hz0,rfl⟩:=errorString_of_trod hi hrow hp he hft hfo hs hc hcs h4 ok0
 refine⟨a,s,by simpa using World.var?_cell h1 h3 0,hc0,hs0,?_⟩
 exact(hrows a.block a.off (h6 _ (by simp[MemPlace.row]))).1
def strData (l:List Bytes):DataW Unit:=.agg (l.map fun s=>.lit (.string s))
theorem cells_of_strs {H:Type} {enc:TypeId×Value→H} {P:Program} {w:World} {base:Nat} {sp:Nat→Bool} {held:Bool} {fuel:Nat} {t e:TypeId} {n:Nat} {cs:List Value} {zs:List Bytes} {p:List MemPlace}
  (ht:P.underlying t=some (.array n e)) (he:P.underlying e=some .string) (hce:P.cellsOf e=1) (hct:P.cellsOf t=n)
  (h:DataW.trod enc P w base sp held fuel t cs=some (.agg (zs.map fun s=>.lit (.string s)),p)):cs=zs.map vs:=by
 cases fuel with
 |zero=>simp[DataW.trod]at h
 |succ fuel=>
  simp only[DataW.trod,ht,hce,hct,Nat.mul_one]at h
  split at h
  ·rename_i hl
   obtain⟨xs,hm,hx⟩:=Option.map_eq_some_iff.1 h
   have hxs:xs.map (·.1)=zs.map fun z=>(DataW.lit (.string z):DataW H):=by
    have:=congrArg Prod.fst hx
    simpa using this
   have hxl:xs.length=n:=by simpa using Lib.mapM_length hm
   have hzl:zs.length=n:=by
    have:=congrArg List.length hxs
    simp at this
    omega
   apply List.ext_getElem?
   intro i
   by_cases hi:i<n
   ·obtain⟨b,hb,hf⟩:=Lib.mapM_at hm i i (by simp[hi])
    obtain⟨z,hc,rfl,_⟩:=DataW.trod_string he hf
    have h1:cs[i]?=some (.string z):=by
     have:=congrArg (·[0]?) hc
     simpa[List.getElem?_take,List.getElem?_drop]using this
    have h2:(xs.map (·.1))[i]?=some (DataW.lit (.string z.data.toList):DataW H):=by simp[hb]
    rw[hxs]at h2
    simp only[List.getElem?_map,Option.map_eq_some_iff,DataW.lit.injEq,Lit.string.injEq]at h2
    obtain⟨z',hz',e⟩:=h2
    have e2:vs z'= .string z:=by
     rw[e]
    rw[h1,List.getElem?_map,hz',Option.map_some,e2]
   ·rw[List.getElem?_eq_none (by omega),List.getElem?_eq_none (by simp;omega)]
  ·cases h
theorem strs_mem {P:Program} {n:String} {zs:List Bytes} {l:List (String×DataW Unit)} {W:World} {g:Nat} {t e:TypeId} {m:Nat}
  (h:laidMet P l W) (hmem:(n,strData zs)∈l) (hg:P.globalNamed n=some g) (hty:(P.globals[g]?).map (·.type)=some t) (ht:P.underlying t=some (.array m e)) (he:P.underlying e=some .string) (hce:P.cellsOf e=1) (hct:P.cellsOf t=m)
  (i:Nat) (hi:i<zs.length):W.cell? ⟨g,i,none⟩=some (vs (zs.getD i [])):=by
 obtain⟨ps,hv,hnd,hrows⟩:=h
 obtain⟨g',t',cs,fuel,p,h1,h2,h3,h4,h5,h6⟩:=laidVars_mem hv hmem
 obtain rfl:=Option.some.inj (hg.symm.trans h1)
 obtain rfl:=Option.some.inj (hty.symm.trans h2)
 have hc:=cells_of_strs ht he hce hct h4
 have hcell:=World.var?_cell h1 h3 i
 rw[show cs=(zs.map vs).toArray from by rw[←hc]]at hcell
 simpa[List.getD,hi]using hcell
end Go.Proofs.YtepoejiigmhlbaaGreatDoor.Ev
namespace Go.Proofs.YtepoejiigmhlbaaGreatDoor.Ev
open Go Go.RowKit
def errText (k:Nat):Bytes:=
 if k=1 then [116,111,111,32,108,111,110,103]else if k=2 then [115,121,110,116,97,120,32,101,114,114,111,114]else if k=3 then [116,111,111,32,100,101,101,112]else if k=4 then [100,101,99,108,97,114,101,100,32,116,119,105,99,101]else if k=5 then [110,111,116,32,100,101,99,108,97,114,101,100]else if k=6 then [111,102,32,97,110,111,116,104,101,114,32,107,105,110,100]else if k=7 then [97,32,110,117,109,98,101,114,32,98,101,121,111,110,100,32,105,116,115,32,98,111,117,110,100,115]else if k=8 then [97,32,115,101,99,111,110,100,32,114,117,108,101]else if k=9 then [116,111,111,32,109,97,110,121,32,110,97,109,101,115]else if k=10 then [110,111,32,114,117,108,101,32,102,111,114,32,97,32,109,105,115,115]else if k=11 then [97,32,113,117,101,117,101,32,105,115,32,102,117,108,108]else if k=12 then [97,32,113,117,101,117,101,32,105,115,32,101,109,112,116,121]else []
theorem errText_inj:∀j k,1≤j→j≤12→1≤k→k≤12→errText j=errText k→j=k:=by
 have h:∀j:Fin 13,∀k:Fin 13,1≤j.val→1≤k.val→errText j.val=errText k.val→j.val=k.val:=by decide
 intro j k h1 h2 h3 h4 e
 exact h ⟨j,by omega⟩ ⟨k,by omega⟩ h1 h3 e
theorem rowErr (u:TypeId) (h:Tryz.prog.typeName? 3 u=some "*errors.errorString"):u=307:=
 typeName_ptr_named (nm:= "errors.errorString") (by kernel_rfl) (by kernel_rfl) (by decide) u h
theorem cellsES:Tryz.prog.cellsOf 309=1:=by kernel_rfl
theorem cellsStr:Tryz.prog.cellsOf 9=1:=by kernel_rfl
theorem cellsKw:Tryz.prog.cellsOf 177=24:=by kernel_rfl
theorem etNamed:Tryz.prog.globalNamed "errors.errorType" =some 2:=by kernel_rfl
theorem rtCut:(Tryz.prog.cutTypes.find? (·.1== "internal/reflectlite.rtype")).map (·.2)=some 184:=by kernel_rfl
theorem oneRowErr:((List.range 339).filter fun t=>Tryz.prog.rowNamed t [101,114,114,111,114])=[51]:=by kernel_rfl
theorem typesSize:Tryz.prog.types.size=339:=by kernel_rfl
structure Bears (l:List (String×DataW Unit)):Prop where
 et:("errors.errorType",Rows.laid_errors_errorType)∈l
 kw:("evictor/policy.keywords",Rows.laid_evictor_policy_keywords)∈l
 e1:("evictor/policy.ErrLong",Rows.laid_evictor_policy_ErrLong)∈l
 e2:("evictor/policy.ErrSyntax",Rows.laid_evictor_policy_ErrSyntax)∈l
 e3:("evictor/policy.ErrDeep",Rows.laid_evictor_policy_ErrDeep)∈l
 e4:("evictor/policy.ErrTwice",Rows.laid_evictor_policy_ErrTwice)∈l
 e5:("evictor/policy.ErrNone",Rows.laid_evictor_policy_ErrNone)∈l
 e6:("evictor/policy.ErrKind",Rows.laid_evictor_policy_ErrKind)∈l
 e7:("evictor/policy.ErrNumber",Rows.laid_evictor_policy_ErrNumber)∈l
 e8:("evictor/policy.ErrRule",Rows.laid_evictor_policy_ErrRule)∈l
 e9:("evictor/policy.ErrMany",Rows.laid_evictor_policy_ErrMany)∈l
 e10:("evictor/policy.ErrMiss",Rows.laid_evictor_policy_ErrMiss)∈l
 e11:("evictor/code.ErrFull",Rows.laid_evictor_code_ErrFull)∈l
 e12:("evictor/code.ErrEmpty",Rows.laid_evictor_code_ErrEmpty)∈l
def ErrAt (W:World) (k:Nat) (a:Addr):Prop:=
 W.cell? ⟨errGlobal k,0,none⟩=some (.iface 307 (.pointer (some a)))∧(∃s:ByteArray,W.cell? a=some (.string s)∧s.data.toList=errText k)∧∃(c:Array Value) (t:TypeId),W.heap[a.block]?=some (.cells c t (0,0))
section
variable {l:List (String×DataW Unit)} {W:World}
theorem errAt_of {n:String} {k g:Nat} (h:laidMet Tryz.prog (l.filter fun x=>x.2.handleName?.isNone) W) (hm:(n,DataW.iface "*errors.errorString" (.ptr (.agg [.lit (.string (errText k))])))∈l)
  (hg:Tryz.prog.globalNamed n=some g) (ht:(Tryz.prog.globals[g]?).map (·.type)=some 51) (hk:errGlobal k=g):∃a,ErrAt W k a:=by
 obtain⟨a,s,h1,h2,h3,h4⟩:=sentinel_mem h (List.mem_filter.2 ⟨hm,rfl⟩) hg ht Tryz.underlying51 rowErr Tryz.underlying307 Tryz.underlying309 rfl rfl Tryz.underlying9 cellsES cellsStr
 exact⟨a,by rw[hk];exact h1,⟨s,h2,h3⟩,h4⟩
theorem gN1:Tryz.prog.globalNamed "evictor/policy.ErrLong" =some 0:=by kernel_rfl
theorem gT1:(Tryz.prog.globals[0]?).map (·.type)=some 51:=by kernel_rfl
theorem gN2:Tryz.prog.globalNamed "evictor/policy.ErrSyntax" =some 7:=by kernel_rfl
theorem gT2:(Tryz.prog.globals[7]?).map (·.type)=some 51:=by kernel_rfl
theorem gN3:Tryz.prog.globalNamed "evictor/policy.ErrDeep" =some 8:=by kernel_rfl
theorem gT3:(Tryz.prog.globals[8]?).map (·.type)=some 51:=by kernel_rfl
theorem gN4:Tryz.prog.globalNamed "evictor/policy.ErrTwice" =some 4:=by kernel_rfl
theorem gT4:(Tryz.prog.globals[4]?).map (·.type)=some 51:=by kernel_rfl
theorem gN5:Tryz.prog.globalNamed "evictor/policy.ErrNone" =some 9:=by kernel_rfl
theorem gT5:(Tryz.prog.globals[9]?).map (·.type)=some 51:=by kernel_rfl
theorem gN6:Tryz.prog.globalNamed "evictor/policy.ErrKind" =some 10:=by kernel_rfl
theorem gT6:(Tryz.prog.globals[10]?).map (·.type)=some 51:=by kernel_rfl
theorem gN7:Tryz.prog.globalNamed "evictor/policy.ErrNumber" =some 11:=by kernel_rfl
theorem gT7:(Tryz.prog.globals[11]?).map (·.type)=some 51:=by kernel_rfl
theorem gN8:Tryz.prog.globalNamed "evictor/policy.ErrRule" =some 6:=by kernel_rfl
theorem gT8:(Tryz.prog.globals[6]?).map (·.type)=some 51:=by kernel_rfl
theorem gN9:Tryz.prog.globalNamed "evictor/policy.ErrMany" =some 5:=by kernel_rfl
theorem gT9:(Tryz.prog.globals[5]?).map (·.type)=some 51:=by kernel_rfl
theorem gN10:Tryz.prog.globalNamed "evictor/policy.ErrMiss" =some 1:=by kernel_rfl
theorem gT10:(Tryz.prog.globals[1]?).map (·.type)=some 51:=by kernel_rfl
theorem gN11:Tryz.prog.globalNamed "evictor/code.ErrFull" =some 12:=by kernel_rfl
theorem gT11:(Tryz.prog.globals[12]?).map (·.type)=some 51:=by kernel_rfl
theorem gN12:Tryz.prog.globalNamed "evictor/code.ErrEmpty" =some 13:=by kernel_rfl
theorem gT12:(Tryz.prog.globals[13]?).map (·.type)=some 51:=by kernel_rfl
theorem gNkw:Tryz.prog.globalNamed "evictor/policy.keywords" =some 3:=by kernel_rfl
theorem gTkw:(Tryz.prog.globals[3]?).map (·.type)=some 177:=by kernel_rfl
theorem env_of (h:laidMetH Tryz.prog l W) (b:Bears l):∃ea,Env W.heap.size ea W∧ErrObj W.heap.size ea W:=by
 obtain⟨h1,h2⟩:=laidMetH_split h b.et rfl
 have hex:∀k,∃a,1≤k→k≤12→ErrAt W k a:=by
  intro k
  by_cases hk:1≤k∧k≤12
  ·have:∃a,ErrAt W k a:=by
    have hc:k=1∨k=2∨k=3∨k=4∨k=5∨k=6∨k=7∨k=8∨k=9∨k=10∨k=11∨k=12:=by omega
    rcases hc with rfl|rfl|rfl|rfl|rfl|rfl|rfl|rfl|rfl|rfl|rfl|rfl
    ·exact errAt_of h1 b.e1 gN1 gT1 rfl
    ·exact errAt_of h1 b.e2 gN2 gT2 rfl
    ·exact errAt_of h1 b.e3 gN3 gT3 rfl
    ·exact errAt_of h1 b.e4 gN4 gT4 rfl
    ·exact errAt_of h1 b.e5 gN5 gT5 rfl
    ·exact errAt_of h1 b.e6 gN6 gT6 rfl
    ·exact errAt_of h1 b.e7 gN7 gT7 rfl
    ·exact errAt_of h1 b.e8 gN8 gT8 rfl
    ·exact errAt_of h1 b.e9 gN9 gT9 rfl
    ·exact errAt_of h1 b.e10 gN10 gT10 rfl
    ·exact errAt_of h1 b.e11 gN11 gT11 rfl
    ·exact errAt_of h1 b.e12 gN12 gT12 rfl
   obtain⟨a,ha⟩:=this
   exact⟨a,fun _ _=>ha⟩
  ·exact⟨⟨0,0,none⟩,fun h3 h4=>absurd ⟨h3,h4⟩ hk⟩
 obtain⟨ea,hea⟩:=Classical.axiomOfChoice hex
 have hkw:∀j,j<24→W.cell? ⟨3,j,none⟩=some (vs (keywords.getD j [])):=fun j hj=>
  strs_mem (zs:=keywords) h1 (List.mem_filter.2 ⟨b.kw,rfl⟩) gNkw gTkw Tryz.underlying177 Tryz.underlying9 cellsStr cellsKw j hj
 have het:W.cell? ⟨2,0,none⟩=some (.iface 184 (.agg #[.pointer (some ⟨21,51,none⟩)])):=by
  obtain⟨name,u,ty,e1,e2,e3,e4,e5⟩:=h2 _ (List.mem_filter.2 ⟨b.et,rfl⟩)
  have en:name=[101,114,114,111,114]:=(Option.some.inj e1).symm
  subst en
  obtain rfl:=Option.some.inj (rtCut.symm.trans e2)
  have hm:ty∈(List.range 339).filter fun t=>Tryz.prog.rowNamed t [101,114,114,111,114]:=List.mem_filter.2 ⟨List.mem_range.2 (by rw[←typesSize];exact e3),e4⟩
  rw[oneRowErr]at hm
  obtain rfl:=List.mem_singleton.1 hm
  have hh:typeHandle Tryz.prog 51= .pointer (some ⟨21,51,none⟩):=by kernel_rfl
  rw[hh]at e5
  simpa using World.var?_cell etNamed e5 0
 have hlt:∀k,1≤k→k≤12→(ea k).block<W.heap.size:=fun k k1 k2=>by
  obtain⟨_,⟨s,hs,_⟩,_⟩:=hea k k1 k2
  exact World.block_lt_of_cell? W _ hs
 refine⟨ea,⟨Nat.le_refl _,fun k k1 k2=>(hea k k1 k2).1,fun k k1 k2=>World.block_lt_of_cell? W _ (hea k k1 k2).1,hkw,World.block_lt_of_cell? W _ (hkw 0 (by omega))⟩,
  ⟨fun k k1 k2=>(hea k k1 k2).2.2,hlt,fun j k j1 j2 k1 k2 e=>?_,het,World.block_lt_of_cell? W _ het⟩⟩
 obtain⟨_,⟨s,hs,ht⟩,_⟩:=hea j j1 j2
 obtain⟨_,⟨s',hs',ht'⟩,_⟩:=hea k k1 k2
 rw[e]at hs
 rw[hs]at hs'
 injection hs' with hs'
 injection hs' with hs'
 subst hs'
 exact errText_inj j k j1 j2 k1 k2 (ht.symm.trans ht')
end
end Go.Proofs.YtepoejiigmhlbaaGreatDoor.Ev
namespace Go.Proofs.YtepoejiigmhlbaaGreatDoor.Ev
open Go Go.ChangeShapes Go.WideShapes Go.ChangeAt Go.RowKit
open Go.ChangeMaps (open_string shut_string)
def TrueK (w:World) (e:Ending) (w':World):Prop:=e= .returned (.bool true)∧Kept (fun b=>w.heap.size≤b) w w'
theorem ownKnob_:ownKnob Tryz.prog.godebug=none:=by kernel_rfl
theorem laidOut_:laidOutB Tryz.prog=true:=by kernel_rfl
section
variable {H:Type} {enc:TypeId×Value→H} {P:Program}
theorem trodAll_stays (hl:laidOutB P=true) {W W':World} (hb:Below W.heap.size W W') {sp:Nat→Bool}:∀{ts:List TypeId} {vs:List Value} {ds:List (DataW H)} {ps:List MemPlace},(∀t∈ts,P.readableRec t=true∧t<P.types.size)→
  DataW.TrodAll enc P W 0 (fun _=>true) true ts vs ds ps→(∀x∈ps,x.block<W.heap.size)→(∀p∈ps,sp p.block=true)→DataW.TrodAll enc P W' 0 sp true ts vs ds ps
 | [],_,_,_,_,h,_,_=>by
  obtain⟨rfl,rfl,rfl⟩:=trodAll_nil h
  exact trodAll_mk0
 |t::ts,_,_,_,hts,h,hlt,hs=>by
  obtain⟨v,vs1,d,ds1,a,b,rfl,rfl,rfl,h1,h2⟩:=trodAll_cons h
  have ht:=hts t (List.mem_cons_self ..)
  exact⟨a,b,WideElems.Trod_stays hl ht.1 ht.2 h1 (fun x hx=>hb.same (hlt x (List.mem_append_left _ hx))) (fun x hx=>hs x (List.mem_append_left _ hx)),
   trodAll_stays hl hb (fun t ht=>hts t (List.mem_cons_of_mem _ ht)) h2 (fun x hx=>hlt x (List.mem_append_right _ hx)) (fun x hx=>hs x (List.mem_append_right _ hx)),rfl⟩
theorem post_true {f:Func} {s:ChangeSpec} {W W':World} {args:Array Value} {ds gs:List (DataW H)} {before:List MemPlace} {tb:TypeId} (hl:laidOutB P=true) (hv:s.vars=[])
  (hW:DataW.Whole enc P f.params.toList s.vars false W args.toList ds gs before) (hfn:∀ds':List (DataW H),ds'.length=f.params.size→s.fn H ds'={results:=[.lit (.bool true)],args:=ds'})
  (hrt:f.resultTypes=#[tb]) (htb:P.underlying tb=some .bool) (hts:∀t∈f.params.toList,P.readableRec t=true∧t<P.types.size) (hk:Kept (fun b=>W.heap.size≤b) W W'):
  s.post enc P f false true false false W args (.bool true) W':=by
 have hb:Below W.heap.size W W':=hk.below (fun k h=>h)
 have hlt:∀p∈before,p.block<W.heap.size:=fun p hp=>hW.lt p hp
 have hold:∀p∈before,(fun b=>decide (b<W.heap.size)) p.block=true:=fun p hp=>by simpa using hlt p hp
 have hW':=hW
 obtain⟨p,q,hA0,hV,rfl,hfz,hnd⟩:=hW
 have hA:DataW.TrodAll enc P W 0 (fun _=>true) true f.params.toList args.toList ds p:=hA0
 rw[hv]at hV
 obtain⟨rfl,rfl⟩:=trodVars_none hV
 rw[List.append_nil]at hlt hold
 have hlen:∀{ts:List TypeId} {vs:List Value} {ds:List (DataW H)} {ps:List MemPlace},DataW.TrodAll enc P W 0 (fun _=>true) true ts vs ds ps→ds.length=ts.length:=by
  intro ts
  induction ts with
  |nil=>intro vs ds ps h;obtain⟨rfl,rfl,rfl⟩:=trodAll_nil h;rfl
  |cons t ts ih=>
   intro vs ds ps h
   obtain⟨v,vs1,d,ds1,a,b,rfl,rfl,rfl,h1,h2⟩:=trodAll_cons h
   simp[ih h2]
 have hd:ds.length=f.params.size:=by rw[hlen hA];simp
 have e:s.fn H (ds++[])={results:=[.lit (.bool true)],args:=ds}:=by rw[List.append_nil];exact hfn ds hd
 have hres:∀(b:Nat) (sp:Nat→Bool) (hd:Bool),DataW.TrodAll enc P W' b sp hd f.resultTypes.toList ((Value.bool true).resultList f.resultTypes.size) (s.fn H (ds++[])).results []:=by
  intro b sp hd
  rw[e,hrt]
  exact trodAll_mk1 (shut_bool htb true)
 have hargs:∀sp:Nat→Bool,(∀x∈p,sp x.block=true)→DataW.TrodAll enc P W' 0 sp true f.params.toList args.toList (s.fn H (ds++[])).args p:=by
  intro sp hs
  rw[e]
  exact trodAll_stays hl hb hts hA hlt hs
 have hvars:∀sp:Nat→Bool,DataW.TrodVars enc P W' sp s.vars (s.fn H (ds++[])).vars []:=by
  intro sp
  rw[e,hv]
  exact rfl
 refine⟨ds,[],p++[],[],p,[],hW',hres _ _ _,hargs _ hold,hvars _,World.keptBut_mono (fun x hx=>⟨hx,.inr (by simpa using hx)⟩) (hb.frame (·∈p++[])),fun _=>?_⟩
 refine⟨ok_one hrt rfl (okWide_bool_mk htb true),_,_,([]++p)++[],⟨[]++p,[],trodAll_append (hargs _ (fun _ _=>rfl)) (hres _ _ _),hvars _,rfl,?_,?_⟩,?_⟩
 ·intro b off hp
  have hin:MemPlace.cell b off∈p++[]:=by simpa using hp
  rw[hb.frozen (hlt _ (by simpa using hin))]
  exact hfz b off hin
 ·intro ha
  have:=hnd ha
  simpa using this
 ·intro x hx _
  simpa using hx
end
def KeysR (w:World) (v:Value) (l:List Int):Prop:=
 ∃a c,v= .slice a l.length c∧l.length≤maxLen∧∀(k:Nat) x,l[k]?=some x→∃g off,a=some ⟨g,off,none⟩∧w.cell? ⟨g,off+k,none⟩=some (.int .u64 x)
theorem KeysR.shape {w:World} {v:Value} {l:List Int} (h:KeysR w v l):∃a c,v= .slice a l.length c:=by
 obtain⟨a,c,h1,_⟩:=h
 exact⟨a,c,h1⟩
theorem KeysR.at_ {w:World} {l:List Int} {a:Option Addr} {c:Nat} (h:KeysR w (.slice a l.length c) l) {k:Nat} {x:Int} (hx:l[k]?=some x):∃g off,a=some ⟨g,off,none⟩∧w.cell? ⟨g,off+k,none⟩=some (.int .u64 x)∧g<w.heap.size∧l.length≤maxLen:=by
 obtain⟨a',c',h1,h2,h3⟩:=h
 injection h1 with h1 _ _
 obtain⟨g,off,e,hc⟩:=h3 k x hx
 exact⟨g,off,h1.trans e,hc,World.block_lt_of_cell? w _ hc,h2⟩
theorem keysR_of {H:Type} {enc:TypeId×Value→H} {P:Program} {w:World} {t e:TypeId} {v:Value} {d:DataW H} {p:List MemPlace} (ht:P.underlying t=some (.slice e)) (he:P.underlying e=some (.int .u64)) (hc:P.cellsOf e=1)
  {b0:Nat} (hv:Value.okWide P w .any b0 t v) (h:DataW.Trod enc P w 0 (fun _=>true) true t v d p):∃l,KeysR w v l:=by
 obtain⟨a0,len0,cap0,rfl⟩:=okWide_slice ht hv
 obtain⟨n,hn⟩:=h
 rcases open_ints ht he hc hn with⟨h1,_⟩|⟨a,len,cap,zs,h1,_,h2,h3,h4,_,h5,_⟩
 ·simp[Value.cells]at h1
  obtain⟨rfl,rfl,rfl⟩:=h1
  exact⟨[],none,0,rfl,Nat.zero_le _,fun k x hx=>by simp at hx⟩
 ·simp[Value.cells]at h1
  obtain⟨rfl,rfl,rfl⟩:=h1
  simp only[if_true]at h4
  refine⟨zs.take len0,some a,cap0,by rw[List.length_take,Nat.min_eq_left (by omega)],by rw[List.length_take];omega,fun k x hx=>?_⟩
  have hk:k<zs.length∧k<len0:=by
   have:=(List.getElem?_eq_some_iff.1 hx).1
   rw[List.length_take]at this
   omega
  obtain⟨b,off,rfl,hcell⟩:=ints_at h5 (by omega)
  refine⟨b,off,rfl,?_⟩
  rw[hcell k hk.1]
  rw[List.getElem?_take_of_lt hk.2]at hx
  rw[List.getD,hx]
  rfl
def litV:DataW Unit→Value
 | .lit (.int k n)=>.int k n
 | .lit (.string s)=>.string ⟨s.toArray⟩
 |_=>undef
def aggV:DataW Unit→Array Value
 | .agg l=>(l.map litV).toArray
 | .slice l _=>(l.map litV).toArray
 |_=>#[]
def errB (k:Nat):Obj:=.cells #[.string ⟨(errText k).toArray⟩] 309
def putV (h:Array Obj) (g:Nat) (cs:Array Value):Array Obj:=h.modify g fun
 | .cells _ t frozen=>.cells cs t frozen
 |o=>o
noncomputable def laidWorld (os:Os):World:=
 let N:=(World.settled Tryz.prog os).heap.size
 let w0:=World.holding Tryz.prog os ⟨#[errB 1,errB 2,errB 3,errB 4,errB 5,errB 6,errB 7,errB 8,errB 9,errB 10,errB 11,errB 12,
  .cells #[.string ⟨#[118,97,108,117,101,32,111,117,116,32,111,102,32,114,97,110,103,101]⟩] 309,
  .cells #[.string ⟨#[105,110,118,97,108,105,100,32,115,121,110,116,97,120]⟩] 309,
  .cells (aggV Rows.laid_evictor_evictorref_words) 9],#[],[]⟩
 let e (i:Nat):Array Value:=#[.iface 307 (.pointer (some ⟨N+i,0,none⟩))]
 let h:=w0.heap
 let h:=putV h 0 (e 0)
 let h:=putV h 7 (e 1)
 let h:=putV h 8 (e 2)
 let h:=putV h 4 (e 3)
 let h:=putV h 9 (e 4)
 let h:=putV h 10 (e 5)
 let h:=putV h 11 (e 6)
 let h:=putV h 6 (e 7)
 let h:=putV h 5 (e 8)
 let h:=putV h 1 (e 9)
 let h:=putV h 12 (e 10)
 let h:=putV h 13 (e 11)
 let h:=putV h 18 (e 12)
 let h:=putV h 17 (e 13)
 let h:=putV h 3 (aggV Rows.laid_evictor_policy_keywords)
 let h:=putV h 16 (aggV Rows.laid_internal_strconv_uint64pow10)
 let h:=putV h 19 (aggV Rows.laid_math_bits_deBruijn32tab)
 let h:=putV h 20 (aggV Rows.laid_math_bits_deBruijn64tab)
 let h:=putV h 2 #[.iface 184 (.agg #[.pointer (some ⟨21,51,none⟩)])]
 let h:=putV h 14 #[.slice (some ⟨N+14,0,none⟩) 24 24]
 {w0 with heap:=h}
end Go.Proofs.YtepoejiigmhlbaaGreatDoor.Ev
namespace Go.Proofs.YtepoejiigmhlbaaGreatDoor.Ev
open Go Go.RowKit
structure LoopE (w wr:World) (S:Nat→Prop) (ge:Nat) (e:Eng) (m:Nat):Prop where
 kept:Kept (fun b=>w.heap.size≤b) w wr
 eng:EngR S wr ge e
 lo:∀b,S b→w.heap.size≤b∧b<wr.heap.size
 cnt:CntB e.n m
structure OwnL (wr:World) (S:Nat→Prop) (v:Value) (l:List Int):Prop where
 sl:∃N,Sl N wr 32 1 v l.length (l.map encU)
 far:∀b,v.ownBlock=some b→¬S b
theorem access_cnt {e e1:Eng} (hp:PolW e.p) {key:Int} {hit:Bool} {gone:List Int} (ha:e.access key= .ok hit gone e1):e1.n=cntUp e.n hit gone.length∧gone.length≤1750000∧e1.p=e.p:=by
 unfold Eng.access at ha
 simp only at ha
 split at ha
 ·cases ha
 ·rename_i r hr
  injection ha with h1 h2 h3
  subst h3
  refine⟨?_,?_,rfl⟩
  ·rw[←h1,←h2];rfl
  ·rw[←h2];exact gone_most hp hr
section
variable {B:Nat} {ea:Nat→Addr} {S:Nat→Prop} {w wr w':World} {ge:Nat} {e e1:Eng} {m:Nat} {v:Value} {l:List Int}
theorem LoopE.start {p:Policy} (hk:Kept (fun b=>w.heap.size≤b) w w') (hE:EngR (fun b=>w.heap.size≤b∧b<w'.heap.size) w' ge (Eng.new p)):LoopE w w' (fun b=>w.heap.size≤b∧b<w'.heap.size) ge (Eng.new p) 0:=
 ⟨hk,hE,fun b hb=>hb,by unfold CntB;simp[Eng.new]⟩
theorem LoopE.env (h:LoopE w wr S ge e m) (he:Env B ea w):Env B ea wr:=he.kept h.kept (fun b hb=>Nat.le_trans he.size hb)
theorem LoopE.err (h:LoopE w wr S ge e m) (he:Env B ea w) (ho:ErrObj B ea w):ErrObj B ea wr:=ho.kept h.kept (fun b hb=>Nat.le_trans he.size hb)
theorem LoopE.later (h:LoopE w wr S ge e m) (hk:Kept (fun b=>wr.heap.size≤b) wr w'):LoopE w w' S ge e m:=
 ⟨h.kept.trans (hk.mono (fun b hb=>Nat.le_trans h.kept.size hb)),h.eng.kept hk (fun b hb hl h2=>by omega),fun b hb=>⟨(h.lo b hb).1,Nat.lt_of_lt_of_le (h.lo b hb).2 hk.size⟩,h.cnt⟩
theorem LoopE.drewN (h:LoopE w wr S ge e m) (n:Nat):LoopE w (wr.drewN n) S ge e m:=h.later ((Kept.refl _ _).drewN n)
theorem OwnL.lr (h:OwnL wr S v l):LR wr v l:=by
 obtain⟨N,hs⟩:=h.sl
 exact hs.lr
theorem OwnL.later (h:OwnL wr S v l) (hk:Kept (fun b=>wr.heap.size≤b) wr w'):OwnL w' S v l:=by
 obtain⟨N,hs⟩:=h.sl
 exact⟨⟨N,hs.kept hk (fun b hb h2=>by have:=hs.lt hb;omega)⟩,h.far⟩
theorem OwnL.fresh (h:LoopE w wr S ge e m) (hs:Sl (fun b=>wr.heap.size≤b) w' 32 1 v l.length (l.map encU)):OwnL w' S v l:=
 ⟨⟨_,hs⟩,fun b hb hS=>by have:=hs.2 b hb;have:=(h.lo b hS).2;omega⟩
theorem OwnL.shape (h:OwnL wr S v l):∃a c,v= .slice a l.length c:=h.lr.shape
end
end Go.Proofs.YtepoejiigmhlbaaGreatDoor.Ev
namespace Go.Proofs.YtepoejiigmhlbaaGreatDoor.Ev
open Go Go.RowKit
theorem Sl.lr_take {N:Nat→Prop} {w:World} {g cap:Nat} {m:List Int} (h:Sl N w 32 1 (.slice (some ⟨g,0,none⟩) m.length cap) m.length (m.map encU)) {k:Nat} (hk:k≤m.length):LR w (.slice (some ⟨g,0,none⟩) k cap) (m.take k):=by
 have hl:=h.lr
 rcases hl with⟨h0,hn⟩|⟨g',off,c',e,a1,a2,a3,a4⟩
 ·injection h0 with h0;cases h0
 ·injection e with e1 e2 e3
  injection e1 with e1
  injection e1 with e1 e4 e5
  subst e1 e4 e3
  refine .inr ⟨g,0,cap,by rw[List.length_take,Nat.min_eq_left hk],by rw[List.length_take];omega,a2,a3,fun i x hx=>?_⟩
  have hik:i<k:=by
   have:=(List.getElem?_eq_some_iff.1 hx).1
   rw[List.length_take]at this
   omega
  rw[List.getElem?_take_of_lt hik]at hx
  exact a4 i x hx
section
variable {B:Nat} {ea:Nat→Addr} {S S2:Nat→Prop} {w wr w' w1:World} {ge g2:Nat} {e e1 e2:Eng} {m m2:Nat} {v:Value} {l:List Int} {p:Policy}
theorem LoopE.of_load {x:Ending} (hk:Kept (fun b=>w.heap.size≤b) w w1) (h:OutKL w1 p x w'):∃ge S,x= .returned (.pointer (some ⟨ge,0,none⟩))∧LoopE w w' S ge (Eng.new p) 0∧Kept (fun b=>w1.heap.size≤b) w1 w'∧∀b,S b→w1.heap.size≤b:=by
 obtain⟨ge,rfl,hk2,hE⟩:=h
 have h:=LoopE.start (p:=p) (hk.trans (hk2.mono (fun b hb=>Nat.le_trans hk.size hb))) (hE.mono (fun b hb=>⟨Nat.le_trans hk.size hb.1,hb.2⟩))
 exact⟨ge,_,rfl,⟨h.kept,hE,fun b hb=>⟨Nat.le_trans hk.size hb.1,hb.2⟩,h.cnt⟩,hk2,fun b hb=>hb.1⟩
theorem LoopE.mine (h:LoopE w wr S ge e m):S ge:=h.eng.mine
theorem OwnL.beside (h:OwnL wr S v l) (hk:Kept (fun b=>b=g2∨wr.heap.size≤b) wr w') (hn:∀b,v.ownBlock=some b→b≠g2):OwnL w' S v l:=by
 obtain⟨N,hs⟩:=h.sl
 exact⟨⟨N,hs.kept hk (fun b hb h2=>h2.elim (fun e=>hn b hb e) (fun h3=>by have:=hs.lt hb;omega))⟩,h.far⟩
structure Went (w wr:World) (S S':Nat→Prop) (ge:Nat) (e1:Eng) (m:Nat) (w':World):Prop where
 loop:LoopE w w' S' ge e1 m
 kept:Kept (fun b=>b=ge∨wr.heap.size≤b) wr w'
 sub:∀b,S' b→S b∨wr.heap.size≤b
theorem Went.own {S':Nat→Prop} (hw:Went w wr S S' ge e1 m w') (h:OwnL wr S v l) (hm:S ge):OwnL w' S' v l:=by
 obtain⟨N,hs⟩:=h.sl
 exact⟨⟨N,hs.kept hw.kept (fun b hb h2=>h2.elim (fun e=>h.far b hb (e▸hm)) (fun h3=>by have:=hs.lt hb;omega))⟩,fun b hb h2=>(hw.sub b h2).elim (h.far b hb) (fun h3=>by have:=hs.lt hb;omega)⟩
def OutLA (w wr:World) (S:Nat→Prop) (ge:Nat) (hit:Bool) (gone:List Int) (e1:Eng) (m:Nat) (x:Ending) (w':World):Prop:=
 ∃v,x= .returned (.tuple #[.bool hit,v,.int .i64 0])∧∃S',Went w wr S S' ge e1 m w'∧OwnL w' S' v gone
theorem lacc_any (he:Env B ea w) (ho:ErrObj B ea w) (h:LoopE w wr S ge e m) (hm:m≤4000000) {key:Int} {hit:Bool} {gone:List Int} (ha:e.access key= .ok hit gone e1):
  Calls Tryz.prog 12 #[.pointer (some ⟨ge,0,none⟩),.int .u64 key] wr (OutLA w wr S ge hit gone e1 (m+1)):=by
 have hmine:=h.eng.mine
 obtain⟨c1,c2,c3⟩:=access_cnt h.eng.inv.1 ha
 have hacc:=eaccess_any (h.env he) (h.err he ho) h.eng (fun b hb=>(h.lo b hb).2) hm h.cnt key
 rw[ha]at hacc
 refine hacc.mono ?_
 rintro x w' ⟨hkk,v,rfl,hs,hE⟩
 refine⟨v,rfl,_,⟨⟨h.kept.trans (hkk.mono (fun b hb=>hb.elim (fun e=>e▸(h.lo _ hmine).1) (fun h2=>Nat.le_trans h.kept.size h2))),hE.shrink,fun b hb=>⟨hb.1.1.elim (fun h2=>(h.lo b h2).1) (fun h2=>Nat.le_trans h.kept.size h2),hb.2⟩,by rw[c1];exact h.cnt.up hit c2⟩,hkk,fun b hb=>hb.1.1⟩,⟨⟨_,hs⟩,fun b hb h2=>h2.1.2 hb⟩⟩
def OutLE (w wr:World) (S:Nat→Prop) (ge:Nat) (k:Nat) (e:Eng) (m:Nat) (x:Ending) (w':World):Prop:=
 x= .returned (.tuple #[.bool false,.slice none 0 0,.int .i64 k])∧∃S',Went w wr S S' ge e m w'
theorem lerr_any (he:Env B ea w) (ho:ErrObj B ea w) (h:LoopE w wr S ge e m) (hm:m≤4000000) {key:Int} {k:Nat} (ha:e.access key= .err k):
  Calls Tryz.prog 12 #[.pointer (some ⟨ge,0,none⟩),.int .u64 key] wr (OutLE w wr S ge k e m):=by
 have hmine:=h.eng.mine
 have hacc:=eaccess_any (h.env he) (h.err he ho) h.eng (fun b hb=>(h.lo b hb).2) hm h.cnt key
 rw[ha]at hacc
 refine hacc.mono ?_
 rintro x w' ⟨hkk,rfl,hE⟩
 exact⟨rfl,S,⟨h.kept.trans (hkk.mono (fun b hb=>hb.elim (fun e=>e▸(h.lo _ hmine).1) (fun h2=>Nat.le_trans h.kept.size h2))),hE,fun b hb=>⟨(h.lo b hb).1,Nat.lt_of_lt_of_le (h.lo b hb).2 hkk.size⟩,h.cnt⟩,hkk,fun b hb=>.inl hb⟩
def OutLK (wr:World) (l:List Int) (x:Ending) (w':World):Prop:=
 ∃v,x= .returned (.tuple #[v,.int .i64 0])∧Kept (fun b=>wr.heap.size≤b) wr w'∧Sl (fun b=>wr.heap.size≤b) w' 32 1 v l.length (l.map encU)
theorem lkeys_any (h:LoopE w wr S ge e m) {q:Bytes} (hk:e.keys q=some l):Calls Tryz.prog 18 #[.pointer (some ⟨ge,0,none⟩),vs q] wr (OutLK wr l):=by
 have hkeys:=ekeys_any h.eng q
 rw[hk]at hkeys
 refine hkeys.mono ?_
 rintro x w' ⟨h1,v,rfl,h2⟩
 exact⟨v,rfl,h1,h2⟩
end
end Go.Proofs.YtepoejiigmhlbaaGreatDoor.Ev
namespace Go.Proofs.YtepoejiigmhlbaaGreatDoor.Ev
structure NmAt (s:Bytes) (R:List Bytes×List Bytes) (i f:Nat) (last:Bytes) (q g:List Bytes):Prop where
 fi:f≤i
 ok:(i≤s.length∧nm (s.drop i) (piece s f i) last q g=R)∨(i=s.length+1∧(q,g)=R)
 ql:q.length≤i
 gl:g.length≤i
def NmStop (s:Bytes) (i:Nat):Prop:=i=s.length∨∃c,s[i]?=some c∧alnum c=false
section
variable {s:Bytes} {R:List Bytes×List Bytes} {i f:Nat} {last:Bytes} {q g:List Bytes}
theorem addIf_len (k last w:Bytes) (q:List Bytes):(addIf k last w q).length≤q.length+1:=by
 unfold addIf
 split
 ·simp
 ·omega
theorem NmAt.start (s:Bytes):NmAt s (nm s [] [] [] []) 0 0 [] [] []:=
 ⟨Nat.le_refl _,.inl ⟨Nat.zero_le _,by unfold piece;simp⟩,Nat.zero_le _,Nat.zero_le _⟩
theorem NmAt.here (h:NmAt s R i f last q g) (hi:i≤s.length):nm (s.drop i) (piece s f i) last q g=R:=by
 rcases h.ok with⟨_,h2⟩|⟨h1,_⟩
 ·exact h2
 ·omega
theorem NmAt.fin (h:NmAt s R i f last q g) (hi:s.length<i):(q,g)=R:=by
 rcases h.ok with⟨h1,_⟩|⟨_,h2⟩
 ·omega
 ·exact h2
theorem NmAt.top (h:NmAt s R i f last q g):i≤s.length+1:=by
 rcases h.ok with⟨h1,_⟩|⟨h1,_⟩<;>omega
theorem drop_at {c:UInt8} (h:s[i]?=some c):s.drop i=c::s.drop (i+1):=by
 obtain⟨h1,h2⟩:=List.getElem?_eq_some_iff.1 h
 rw[List.drop_eq_getElem_cons h1,h2]
theorem piece_more {c:UInt8} (h:s[i]?=some c) (hf:f≤i):piece s f (i+1)=piece s f i++[c]:=by
 obtain⟨h1,h2⟩:=List.getElem?_eq_some_iff.1 h
 unfold piece
 rw[List.take_succ_eq_append_getElem h1,h2,List.drop_append_of_le_length (by rw[List.length_take];omega)]
theorem NmAt.on (h:NmAt s R i f last q g) {c:UInt8} (hi:s[i]?=some c) (ha:alnum c=true):NmAt s R (i+1) f last q g:=by
 have hl:=(List.getElem?_eq_some_iff.1 hi).1
 have hh:=h.here (by omega)
 rw[drop_at hi,nm,if_pos ha]at hh
 exact⟨Nat.le_succ_of_le h.fi,.inl ⟨hl,by rw[piece_more hi h.fi];exact hh⟩,Nat.le_succ_of_le h.ql,Nat.le_succ_of_le h.gl⟩
theorem piece_none (i:Nat):piece s i i=[]:=by
 unfold piece
 rw[List.drop_eq_nil_iff,List.length_take]
 omega
theorem NmAt.stop0 (h:NmAt s R i f last q g) (hs:NmStop s i) (he:piece s f i=[]):NmAt s R (i+1) (i+1) last q g:=by
 refine⟨Nat.le_refl _,?_,Nat.le_succ_of_le h.ql,Nat.le_succ_of_le h.gl⟩
 rcases hs with rfl|⟨c,hc,ha⟩
 ·have hh:=h.here (Nat.le_refl _)
  rw[List.drop_length,he,nm,if_pos rfl]at hh
  exact .inr ⟨rfl,hh⟩
 ·have hl:=(List.getElem?_eq_some_iff.1 hc).1
  have hh:=h.here (by omega)
  rw[drop_at hc,he,nm,if_neg (by rw[ha];decide),if_pos rfl]at hh
  exact .inl ⟨hl,by rw[piece_none];exact hh⟩
theorem NmAt.stop (h:NmAt s R i f last q g) (hs:NmStop s i) (he:piece s f i≠ []) (ho:piece s f i≠kOn):
  NmAt s R (i+1) (i+1) (piece s f i) (addIf kQueue last (piece s f i) q) (addIf kGhost last (piece s f i) g):=by
 refine⟨Nat.le_refl _,?_,?_,?_⟩
 ·rcases hs with rfl|⟨c,hc,ha⟩
  ·have hh:=h.here (Nat.le_refl _)
   rw[List.drop_length,nm,if_neg he]at hh
   exact .inr ⟨rfl,hh⟩
  ·have hl:=(List.getElem?_eq_some_iff.1 hc).1
   have hh:=h.here (by omega)
   rw[drop_at hc,nm,if_neg (by rw[ha];decide),if_neg he,if_neg ho]at hh
   exact .inl ⟨hl,by rw[piece_none];exact hh⟩
 ·have:=addIf_len kQueue last (piece s f i) q
  have:=h.ql
  omega
 ·have:=addIf_len kGhost last (piece s f i) g
  have:=h.gl
  omega
theorem NmAt.stopOn (h:NmAt s R i f last q g) (hs:NmStop s i) (hi:i≤s.length) (ho:piece s f i=kOn):
  (addIf kQueue last (piece s f i) q,addIf kGhost last (piece s f i) g)=R:=by
 have he:piece s f i≠ []:=by rw[ho];decide
 rcases hs with rfl|⟨c,hc,ha⟩
 ·have hh:=h.here (Nat.le_refl _)
  rw[List.drop_length,nm,if_neg he]at hh
  exact hh
 ·have hh:=h.here hi
  rw[drop_at hc,nm,if_neg (by rw[ha];decide),if_neg he,if_pos ho]at hh
  exact hh
end
theorem at_in {l:List Int} {key:Int}:(0≤atI l key)↔key∈l:=by
 unfold atI
 cases hp:place l key with
 |none=>
  simp only
  have:=place_none.1 hp
  constructor
  ·intro h;omega
  ·intro h;exact absurd h this
 |some i=>
  simp only
  constructor
  ·intro _
   refine Classical.byContradiction fun h=>?_
   rw[place_none.2 h]at hp
   cases hp
  ·intro _;omega
theorem at_out {l:List Int} {key:Int} (h:key∉l):atI l key= -1:=by
 unfold atI
 rw[place_none.2 h]
end Go.Proofs.YtepoejiigmhlbaaGreatDoor.Ev
namespace Go.Proofs.YtepoejiigmhlbaaGreatDoor.Ev
open Go Go.RowKit
structure OwnN (wr:World) (S:Nat→Prop) (v:Value) (l:List Bytes):Prop where
 sl:∃N,Sl N wr 9 1 v l.length (l.map vs)
 far:∀b,v.ownBlock=some b→¬S b
section
variable {wr w' w:World} {S S':Nat→Prop} {v:Value} {l:List Bytes} {ge m:Nat} {e e1:Eng}
theorem OwnN.shape (h:OwnN wr S v l):∃a c,v= .slice a l.length c:=by
 obtain⟨N,hs⟩:=h.sl
 exact hs.shape
theorem OwnN.at_ {a:Option Addr} {n c:Nat} (h:OwnN wr S (.slice a n c) l) {k:Nat} {x:Bytes} (hx:l[k]?=some x):∃g,a=some ⟨g,0,none⟩∧wr.cell? ⟨g,k,none⟩=some (vs x)∧l.length≤c∧c≤maxLen∧g<wr.heap.size:=by
 obtain⟨N,hs⟩:=h.sl
 have hk:=(List.getElem?_eq_some_iff.1 hx).1
 obtain⟨g,cap,h1,_,h2,h3,h4⟩:=hs.form (by omega)
 injection h1 with e1 e2 e3
 subst e1 e2 e3
 have hc:=hs.1.cellAt k (by simpa using hk)
 rw[List.getElem?_map,hx]at hc
 exact⟨g,rfl,hc,h2,h3,h4⟩
theorem OwnN.later (h:OwnN wr S v l) (hk:Kept (fun b=>wr.heap.size≤b) wr w'):OwnN w' S v l:=by
 obtain⟨N,hs⟩:=h.sl
 exact⟨⟨N,hs.kept hk (fun b hb h2=>by have:=hs.lt hb;omega)⟩,h.far⟩
theorem OwnN.drewN (h:OwnN wr S v l) (n:Nat):OwnN (wr.drewN n) S v l:=h.later ((Kept.refl _ _).drewN n)
theorem Went.ownN (hw:Went w wr S S' ge e1 m w') (h:OwnN wr S v l) (hm:S ge):OwnN w' S' v l:=by
 obtain⟨N,hs⟩:=h.sl
 exact⟨⟨N,hs.kept hw.kept (fun b hb h2=>h2.elim (fun e=>h.far b hb (e▸hm)) (fun h3=>by have:=hs.lt hb;omega))⟩,fun b hb h2=>(hw.sub b h2).elim (h.far b hb) (fun h3=>by have:=hs.lt hb;omega)⟩
end
def OutEv (wr:World) (L:List Int) (x:Ending) (w':World):Prop:=
 ∃v,x= .returned (.tuple #[v,.bool true])∧Kept (fun b=>wr.heap.size≤b) wr w'∧Sl (fun b=>wr.heap.size≤b) w' 32 1 v L.length (L.map encU)
theorem every_take (e:Eng) {l:List Bytes} {k:Nat} {n:Bytes} {x:List Int} (h:l[k]?=some n) (hx:e.keys n=some x):everyP e (l.take (k+1))=everyP e (l.take k)++x:=by
 obtain⟨h1,h2⟩:=List.getElem?_eq_some_iff.1 h
 unfold everyP
 rw[List.take_succ_eq_append_getElem h1,List.flatMap_append,h2]
 simp[hx]
section
variable {w w0:World} {S:Nat→Prop} {ge m:Nat} {e:Eng}
set_option maxRecDepth 100000 in
set_option maxHeartbeats 4000000 in
theorem every_any (h:LoopE w w0 S ge e m) {v:Value} {l:List Bytes} (hv:OwnN w0 S v l) (hk:∀n∈l,∃x,e.keys n=some x∧x.length≤50) (hl:l.length≤1000):
  Calls Tryz.prog 10 #[.pointer (some ⟨ge,0,none⟩),v] w0 (OutEv w0 (everyP e l)):=by
 obtain⟨i0,hi0,hz0,hz1,hz2⟩:=info_parts infoU64_
 obtain⟨a,c,rfl⟩:=hv.shape
 have H:=Lib.hid h
 have HV:=Lib.hid hv
 have HK:=Lib.hid hk
 clear h hv hk
 go_enter Tryz.func10,Tryz.ntmps10
 go_wp2_with fail
 go_loopg [13,6] l.length (fun gg s9 s4 wz=>∃(k:Nat) (vo:Value) (L:List Int),k≤l.length∧l.length-k≤gg∧s9= .int .i64 k∧s4=vo∧L=everyP e (l.take k)∧L.length≤50*k∧Kept (fun b=>w0.heap.size≤b) w0 wz∧Sl (fun b=>w0.heap.size≤b) wz 32 1 vo L.length (L.map encU))
 case atStart=>exact⟨0,.slice none 0 0,[],Nat.zero_le _,by omega,rfl,rfl,rfl,Nat.zero_le _,Kept.refl _ _,Sl.nil_ _ _ _ _⟩
 case round=>
  obtain⟨k,vo,L,hk1,hg,rfl,rfl,hL,hLn,hkk,hs⟩:=hrel
  have HL:=Lib.hid hL
  have HKK:=Lib.hid hkk
  have HS:=Lib.hid hs
  clear hL hkk hs
  by_cases hlt:k<l.length
  ·obtain⟨n,hx⟩:∃x,l[k]?=some x:=⟨_,List.getElem?_eq_getElem hlt⟩
   obtain⟨g,rfl,hc,h1,h2,h3⟩:=HV.out.at_ hx
   have hc2:=(HKK.out.cell (p:=⟨g,k,none⟩) (by simp only;omega)).trans hc
   obtain⟨x,hxk,hx50⟩:=HK.out n (List.mem_of_getElem? hx)
   have hcall:=lkeys_any (H.out.later HKK.out) hxk
   have HT:=Lib.hid (every_take e hx hxk)
   have HC:=Lib.hid hcall
   unfold maxLen at h2
   clear hx hxk hc hcall
   unfold vs at*
   go_wp2_with fail
   refine HC.out.mono ?_
   rintro y w2 ⟨vk,rfl,hk2,hs2⟩
   obtain⟨ak,ck,rfl⟩:=hs2.shape
   have f1:decide ((50:Int)<(x.length:Int))=false:=by simp;omega
   have hsrc:=hs2.src
   have hso:=HS.out.kept hk2 (fun b hb hb2=>by have:=HS.out.lt hb;omega)
   have q1:w0.heap.size≤w2.heap.size:=Nat.le_trans HKK.out.size hk2.size
   have m1:L.length+x.length≤maxLen:=by unfold maxLen;omega
   have m2:(L.length+x.length)*8≤140737488355328:=by omega
   have HSRC:=Lib.hid hsrc
   have HSO:=Lib.hid hso
   have Q1:=Lib.hid q1
   have O1:=Lib.hid (one_u x)
   have K2:=Lib.hid hk2
   clear hsrc hso q1 hs2 hk2
   go_wp2_with (at_builtin;go_must (refine wp_appendS Tryz.underlying22 hi0 hz0 hz1 hz2 rfl (by decide) HSO.out Q1.out rfl _ _ rfl rfl rfl HSRC.out O1.out m1 m2 ?_;intro v' w3 hs3 hk3 hloc;have Hs3:=Lib.hid hs3;have Hk3:=Lib.hid hk3;clear hs3 hk3))
   go_roundg (l.length-(k+1))
   case measure=>omega
   case rel=>
    refine⟨k+1,v',L++x,by omega,by omega,by go_num,rfl,by rw[HT.out,HL.out],by rw[List.length_append];omega,?_,?_⟩
    ·refine HKK.out.trans ((K2.out.mono (fun b hb=>Nat.le_trans HKK.out.size hb)).trans (Hk3.out.mono (fun b hb=>?_)))
     rcases hb with hb|hb
     ·exact HSO.out.2 b hb
     ·exact Nat.le_trans Q1.out hb
    ·rw[List.length_append,List.map_append]
     exact Hs3.out
  ·have hke:k=l.length:=by omega
   subst hke
   go_wp2
   go_ret2
   refine⟨_,rfl,HKK.out,?_⟩
   have:=HL.out
   rw[List.take_length]at this
   rw[←this]
   exact HS.out
end
end Go.Proofs.YtepoejiigmhlbaaGreatDoor.Ev
namespace Go.Proofs.YtepoejiigmhlbaaGreatDoor.Ev
open Go Go.RowKit
theorem infoStrN:(Tryz.prog.info? 9).map (fun i=>(i.zero,i.size,i.bytes))=some (some (vs []),1,16):=by kernel_rfl
def OutNms (w:World) (R:List Bytes×List Bytes) (x:Ending) (w':World):Prop:=
 ∃vq vg,x= .returned (.tuple #[vq,vg])∧Kept (fun b=>w.heap.size≤b) w w'∧Sl (fun b=>w.heap.size≤b) w' 9 1 vq R.1.length (R.1.map vs)∧Sl (fun b=>w.heap.size≤b) w' 9 1 vg R.2.length (R.2.map vs)
structure NmR (w wz:World) (vq vg:Value) (q g:List Bytes):Prop where
 kept:Kept (fun b=>w.heap.size≤b) w wz
 q:Sl (fun b=>w.heap.size≤b) wz 9 1 vq q.length (q.map vs)
 g:Sl (fun b=>w.heap.size≤b) wz 9 1 vg g.length (g.map vs)
 ne:∀b,vq.ownBlock=some b→vg.ownBlock≠some b
section
variable {w wz w3:World} {vq vg v':Value} {q g:List Bytes} {word:Bytes}
theorem NmR.start (w:World):NmR w w (.slice none 0 0) (.slice none 0 0) [] []:=⟨Kept.refl _ _,Sl.nil_ _ _ _ _,Sl.nil_ _ _ _ _,fun b hb=>by cases hb⟩
theorem NmR.lit (h:NmR w wz vq vg q g):Kept (fun b=>w.heap.size≤b) w (wz.alloc (.cells #[vs word] 9)):=h.kept.trans ((Kept.refl _ _).alloc h.kept.size _)
theorem NmR.size (h:NmR w wz vq vg q g):w.heap.size≤(wz.alloc (.cells #[vs word] 9)).heap.size:=(h.lit (word:=word)).size
theorem NmR.addQ (h:NmR w wz vq vg q g) {gq c:Nat} (hs:Sl (fun b=>w.heap.size≤b) w3 9 1 (.slice (some ⟨gq,0,none⟩) (q.length+1) c) (q.length+1) (q.map vs++[vs word]))
  (hk:Kept (fun b=>vq.ownBlock=some b∨(wz.alloc (.cells #[vs word] 9)).heap.size≤b) (wz.alloc (.cells #[vs word] 9)) w3) (hl:vq.ownBlock=some gq∨gq=(wz.alloc (.cells #[vs word] 9)).heap.size):
  NmR w w3 (.slice (some ⟨gq,0,none⟩) (q.length+1) c) vg (q++[word]) g:=by
 refine⟨h.lit.trans (hk.mono (fun b hb=>hb.elim (fun e=>h.q.2 b e) (fun e=>Nat.le_trans h.size e))),by rw[List.length_append,List.map_append];exact hs,(h.g.alloc _).kept hk ?_,?_⟩
 ·rintro b hb (e|e)
  ·exact h.ne b e hb
  ·have:=(h.g.alloc (.cells #[vs word] 9)).lt hb;omega
 ·intro b hb hg
  injection hb with hb
  simp only at hb
  subst hb
  rcases hl with e|e
  ·exact h.ne _ e hg
  ·have:=(h.g.alloc (.cells #[vs word] 9)).lt hg;omega
theorem NmR.addG (h:NmR w wz vq vg q g) {gq c:Nat} (hs:Sl (fun b=>w.heap.size≤b) w3 9 1 (.slice (some ⟨gq,0,none⟩) (g.length+1) c) (g.length+1) (g.map vs++[vs word]))
  (hk:Kept (fun b=>vg.ownBlock=some b∨(wz.alloc (.cells #[vs word] 9)).heap.size≤b) (wz.alloc (.cells #[vs word] 9)) w3) (hl:vg.ownBlock=some gq∨gq=(wz.alloc (.cells #[vs word] 9)).heap.size):
  NmR w w3 vq (.slice (some ⟨gq,0,none⟩) (g.length+1) c) q (g++[word]):=by
 refine⟨h.lit.trans (hk.mono (fun b hb=>hb.elim (fun e=>h.g.2 b e) (fun e=>Nat.le_trans h.size e))),(h.q.alloc _).kept hk ?_,by rw[List.length_append,List.map_append];exact hs,?_⟩
 ·rintro b hb (e|e)
  ·exact h.ne b hb e
  ·have:=(h.q.alloc (.cells #[vs word] 9)).lt hb;omega
 ·intro b hb hg
  injection hg with hg
  simp only at hg
  subst hg
  rcases hl with e|e
  ·exact h.ne _ hb e
  ·have:=(h.q.alloc (.cells #[vs word] 9)).lt hb;omega
end
section
variable {w:World} {s:Bytes}
set_option maxRecDepth 100000 in
set_option maxHeartbeats 8000000 in
theorem names_any (hl:s.length≤1000000000):Calls Tryz.prog 8 #[vs s] w (OutNms w (nm s [] [] [] [])):=by
 obtain⟨i0,hi0,hz0,hz1,hz2⟩:=info_parts infoStrN
 have hst:=NmAt.start s
 generalize nm s [] [] [] []=R at*
 have HST:=Lib.hid hst
 clear hst
 unfold vs at*
 go_enter Tryz.func8,Tryz.ntmps8
 go_wp2_with fail
 go_loopg [8,6,7,4,5] (s.length+1) (fun gg s7 s5 s6 s3 s4 wz=>∃(i f:Nat) (last:Bytes) (q g:List Bytes),s7= .int .i64 i∧s5= .int .i64 f∧s6=vs last∧s.length+1-i≤gg∧NmAt s R i f last q g∧NmR w wz s3 s4 q g)
 case atStart=>exact⟨0,0,[],[],[],rfl,rfl,rfl,by omega,HST.out,NmR.start w⟩
 case round=>
  obtain⟨i,f,last,q,g,rfl,rfl,rfl,hg,hN,hM⟩:=hrel
  have hfi:=hN.fi
  have hql:=hN.ql
  have hgl:=hN.gl
  have htop:=hN.top
  have HN:=Lib.hid hN
  have HM:=Lib.hid hM
  have HG:=Lib.hid hg
  have hsz:=size_vs s
  clear hN hM hg
  by_cases hle:i≤s.length
  ·by_cases hal:∃c,s[i]?=some c∧alnum c=true
   ·obtain⟨c,hc,ha⟩:=hal
    have hlt:=(List.getElem?_eq_some_iff.1 hc).1
    obtain⟨hx,hxc⟩:=vs_idx hc
    have HON:=Lib.hid (HN.out.on hc ha)
    have hcs:(97≤(c.toNat:Int)∧(c.toNat:Int)≤122)∨((c.toNat:Int)<97∧48≤(c.toNat:Int)∧(c.toNat:Int)≤57)∨((122:Int)<(c.toNat:Int)∧48≤(c.toNat:Int)∧(c.toNat:Int)≤57):=by
     unfold alnum at ha
     rcases low_cases c with⟨h1,h2,h3⟩|⟨h1,h2⟩|⟨h1,h2,h3⟩<;>rcases fig_cases c with⟨k1,k2,k3⟩|⟨k1,k2⟩|⟨k1,k2,k3⟩<;>rw[h1,k1]at ha<;>simp at ha<;>omega
    clear hc ha
    unfold vs at*
    rcases hcs with⟨l1,l2⟩|⟨l1,l2,l3⟩|⟨l1,l2,l3⟩
    ·go_wp2
     go_roundg (s.length+1-(i+1))
     case measure=>have:=HG.out;omega
     case rel=>exact⟨i+1,f,last,q,g,by go_num,rfl,rfl,Nat.le_refl _,HON.out,HM.out⟩
    ·go_wp2
     go_roundg (s.length+1-(i+1))
     case measure=>have:=HG.out;omega
     case rel=>exact⟨i+1,f,last,q,g,by go_num,rfl,rfl,Nat.le_refl _,HON.out,HM.out⟩
    ·exact absurd l1 (by omega)
   ·have hstop:NmStop s i:=by
     rcases Nat.lt_or_ge i s.length with h|h
     ·right
      refine⟨s[i],List.getElem?_eq_getElem h,?_⟩
      cases ha:alnum s[i]with
      |false=>rfl
      |true=>exact absurd ⟨_,List.getElem?_eq_getElem h,ha⟩ hal
     ·exact .inl (by omega)
    have HSTOP:=Lib.hid hstop
    clear hal
    unfold vs at*
    go_upto_region 7 with fail
    go_cut [43] (fun s43 wx=>s43= .bool false∧wx=wr)
    case first=>
     rcases HSTOP.out with he|⟨c,hc,ha⟩
     ·have hd:decide ((i:Int)<(s.length:Int))=false:=by simp;omega
      go_wp2
      go_meet
      exact⟨rfl,rfl⟩
     ·have hlt:=(List.getElem?_eq_some_iff.1 hc).1
      obtain⟨hx,hxc⟩:=vs_idx hc
      have hcs:(c.toNat:Int)<48∨((57:Int)<(c.toNat:Int)∧(c.toNat:Int)<97)∨(122:Int)<(c.toNat:Int):=by
       unfold alnum at ha
       rcases low_cases c with⟨h1,h2,h3⟩|⟨h1,h2⟩|⟨h1,h2,h3⟩<;>rcases fig_cases c with⟨k1,k2,k3⟩|⟨k1,k2⟩|⟨k1,k2,k3⟩<;>rw[h1,k1]at ha<;>simp at ha<;>omega
      clear hc ha
      rcases hcs with l1|⟨l1,l2⟩|l1
      ·go_wp2
       go_meet
       exact⟨rfl,rfl⟩
      ·have e1:decide ((c.toNat:Int)≤57)=false:=by simp;omega
       go_wp2
       go_meet
       exact⟨rfl,rfl⟩
      ·have e1:decide ((c.toNat:Int)≤57)=false:=by simp;omega
       have e2:decide ((c.toNat:Int)≤122)=false:=by simp;omega
       go_wp2
       go_meet
       exact⟨rfl,rfl⟩
    case rest=>
     obtain⟨rfl,rfl⟩:=hcut
     have hex:=piece_extract s f i
     have h0:=Lib.hid (HN.out.stop0 HSTOP.out)
     have h1:=Lib.hid (HN.out.stop HSTOP.out)
     have h2:=Lib.hid (HN.out.stopOn HSTOP.out hle)
     generalize piece s f i=word at*
     by_cases hw:word=[]
     ·have hN:=h0.out hw
      have HNN:=Lib.hid hN
      clear hN h0 h1 h2
      subst hw
      go_wp2
      go_roundg (s.length+1-(i+1))
      case measure=>have:=HG.out;omega
      case rel=>exact⟨i+1,i+1,last,q,g,by go_num,by go_num,rfl,Nat.le_refl _,HNN.out,HM.out⟩
     ·have b1:(word== [])=false:=by simpa using hw
      have b2:decide (word=[])=false:=by simpa using hw
      have SLQ:=Lib.hid (HM.out.q.alloc (.cells #[vs word] 9))
      have SLG:=Lib.hid (HM.out.g.alloc (.cells #[vs word] 9))
      have Q1:=Lib.hid (HM.out.size (word:=word))
      have Q2:=Lib.hid (cells_new wc [vs word] 9)
      have Q3:RowKit.Hid (∀u∈ [vs word],u.oneCell'=true):=Lib.hid (by intro u hu;simp at hu;subst hu;rfl)
      have q4:q.length+1≤maxLen:=by unfold maxLen;omega
      have q5:(q.length+1)*16≤140737488355328:=by omega
      have g4:g.length+1≤maxLen:=by unfold maxLen;omega
      have g5:(g.length+1)*16≤140737488355328:=by omega
      unfold vs at*
      by_cases hlq:last=kQueue
      ·subst hlq
       by_cases hon:word=kOn
       ·have hR:=h2.out hon
        have HR:=Lib.hid hR
        clear hR h0 h1 h2
        subst hon
        go_wp2_with (at_builtin;go_must (refine wp_append1 Tryz.underlying28 hi0 hz0 hz1 hz2 rfl (by decide) SLQ.out Q1.out rfl _ _ rfl rfl ⟨wc.heap.size,0,none⟩ 1 1 [.string ⟨(kOn:Bytes).toArray⟩] rfl rfl Q2.out Q3.out q4 q5 (Nat.succ_pos _) ?_;intro g2 cap2 w3 hs3 hk3 hloc;have Hs3:=Lib.hid hs3;have Hk3:=Lib.hid hk3;have Hloc:=Lib.hid hloc;clear hs3 hk3 hloc))
        go_ret2
        rw[←HR.out]
        have hM:=(HM.out.addQ Hs3.out Hk3.out Hloc.out)
        exact⟨_,_,rfl,hM.kept,by simpa[addIf, *]using hM.q,by simpa[addIf, *]using hM.g⟩
       ·have hN:=h1.out hw hon
        have c1:(word==kOn)=false:=by simpa using hon
        have c2:decide (word=kOn)=false:=by simpa using hon
        have HNN:=Lib.hid hN
        clear hN h0 h1 h2
        go_wp2_with (at_builtin;go_must (refine wp_append1 Tryz.underlying28 hi0 hz0 hz1 hz2 rfl (by decide) SLQ.out Q1.out rfl _ _ rfl rfl ⟨wc.heap.size,0,none⟩ 1 1 [.string ⟨word.toArray⟩] rfl rfl Q2.out Q3.out q4 q5 (Nat.succ_pos _) ?_;intro g2 cap2 w3 hs3 hk3 hloc;have Hs3:=Lib.hid hs3;have Hk3:=Lib.hid hk3;have Hloc:=Lib.hid hloc;clear hs3 hk3 hloc))
        go_roundg (s.length+1-(i+1))
        case measure=>have:=HG.out;omega
        case rel=>
         have hM:=(HM.out.addQ Hs3.out Hk3.out Hloc.out)
         exact⟨i+1,i+1,word,_,_,by go_num,by go_num,rfl,Nat.le_refl _,HNN.out,by simpa[addIf, *]using hM⟩
      ·by_cases hlg:last=kGhost
       ·subst hlg
        by_cases hon:word=kOn
        ·have hR:=h2.out hon
         have HR:=Lib.hid hR
         clear hR h0 h1 h2
         subst hon
         go_wp2_with (at_builtin;go_must (refine wp_append1 Tryz.underlying28 hi0 hz0 hz1 hz2 rfl (by decide) SLG.out Q1.out rfl _ _ rfl rfl ⟨wc.heap.size,0,none⟩ 1 1 [.string ⟨(kOn:Bytes).toArray⟩] rfl rfl Q2.out Q3.out g4 g5 (Nat.succ_pos _) ?_;intro g2 cap2 w3 hs3 hk3 hloc;have Hs3:=Lib.hid hs3;have Hk3:=Lib.hid hk3;have Hloc:=Lib.hid hloc;clear hs3 hk3 hloc))
         go_ret2
         rw[←HR.out]
         have hM:=(HM.out.addG Hs3.out Hk3.out Hloc.out)
         exact⟨_,_,rfl,hM.kept,by simpa[addIf, *]using hM.q,by simpa[addIf, *]using hM.g⟩
        ·have hN:=h1.out hw hon
         have c1:(word==kOn)=false:=by simpa using hon
         have c2:decide (word=kOn)=false:=by simpa using hon
         have HNN:=Lib.hid hN
         clear hN h0 h1 h2
         go_wp2_with (at_builtin;go_must (refine wp_append1 Tryz.underlying28 hi0 hz0 hz1 hz2 rfl (by decide) SLG.out Q1.out rfl _ _ rfl rfl ⟨wc.heap.size,0,none⟩ 1 1 [.string ⟨word.toArray⟩] rfl rfl Q2.out Q3.out g4 g5 (Nat.succ_pos _) ?_;intro g2 cap2 w3 hs3 hk3 hloc;have Hs3:=Lib.hid hs3;have Hk3:=Lib.hid hk3;have Hloc:=Lib.hid hloc;clear hs3 hk3 hloc))
         go_roundg (s.length+1-(i+1))
         case measure=>have:=HG.out;omega
         case rel=>
          have hM:=(HM.out.addG Hs3.out Hk3.out Hloc.out)
          exact⟨i+1,i+1,word,_,_,by go_num,by go_num,rfl,Nat.le_refl _,HNN.out,by simpa[addIf, *]using hM⟩
       ·have d1:(last==kQueue)=false:=by simpa using hlq
        have d2:decide (last=kQueue)=false:=by simpa using hlq
        have d3:(last==kGhost)=false:=by simpa using hlg
        have d4:decide (last=kGhost)=false:=by simpa using hlg
        by_cases hon:word=kOn
        ·have hR:=h2.out hon
         have HR:=Lib.hid hR
         clear hR h0 h1 h2
         subst hon
         go_wp2
         go_ret2
         rw[←HR.out]
         have hM:=HM.out
         exact⟨_,_,rfl,hM.kept,by simpa[addIf, *]using hM.q,by simpa[addIf, *]using hM.g⟩
        ·have hN:=h1.out hw hon
         have c1:(word==kOn)=false:=by simpa using hon
         have c2:decide (word=kOn)=false:=by simpa using hon
         have HNN:=Lib.hid hN
         clear hN h0 h1 h2
         go_wp2
         go_roundg (s.length+1-(i+1))
         case measure=>have:=HG.out;omega
         case rel=>
          have hM:=HM.out
          exact⟨i+1,i+1,word,_,_,by go_num,by go_num,rfl,Nat.le_refl _,HNN.out,by simpa[addIf, *]using hM⟩
  ·have hfin:=HN.out.fin (by omega)
   have HF:=Lib.hid hfin
   have hd:decide ((i:Int)≤(s.length:Int))=false:=by simp;omega
   clear hfin
   unfold vs at*
   go_wp2
   go_ret2
   rw[←HF.out]
   exact⟨_,_,rfl,HM.out.kept,HM.out.q,HM.out.g⟩
end
end Go.Proofs.YtepoejiigmhlbaaGreatDoor.Ev
namespace Go.Proofs.YtepoejiigmhlbaaGreatDoor.Ev
def oneTxt:Bytes:=[113,117,101,117,101,32,114,32,49,59,32,111,110,32,109,105,115,115,32,123,32,112,117,116,32,114,59,32,125]
def oneOk:Bool:=match read oneTxt with
 | .ok p=>(match(Eng.new p).keys [114]with|some []=>true|_=>false)
 | .error _=>false
theorem oneOk_:oneOk=true:=by decide+kernel
theorem oneRead:∃p,read oneTxt= .ok p∧(Eng.new p).keys [114]=some []:=by
 have h:=oneOk_
 unfold oneOk at h
 split at h
 ·rename_i p hp
  refine⟨p,hp,?_⟩
  split at h
  ·assumption
  ·cases h
 ·cases h
section
variable {p:Policy} {s:St} {c:Cnt}
theorem names_few (hp:PolW p) (k:Nat):(declQ p.decls k).length≤8:=by
 unfold declQ
 rw[List.length_map]
 exact Nat.le_trans (List.length_filter_le _ _) hp.decls.len
theorem every_few (hp:PolW p) (h:EInv p s) {k:Nat} (hk:k≠2):(everyP ⟨p,s,c⟩ (declQ p.decls k)).length≤400:=by
 have h1:∀l:List Bytes,(∀n∈l,∃x,(⟨p,s,c⟩:Eng).keys n=some x∧x.length≤50)→(everyP ⟨p,s,c⟩ l).length≤50*l.length:=by
  intro l
  induction l with
  |nil=>intro _;exact Nat.zero_le _
  |cons a l ih=>
   intro h
   have ih:=ih (fun n hn=>h n (List.mem_cons_of_mem _ hn))
   obtain⟨x,hx,hx2⟩:=h a (List.mem_cons_self ..)
   unfold everyP at*
   rw[List.flatMap_cons,List.length_append,hx,List.length_cons]
   simp only[Option.getD_some]
   omega
 have:=h1 _ (fun n hn=>every_bound (c:=c) hp h hk hn)
 have:=names_few hp k
 omega
end
theorem at_twice {l:List Int} (h:l.Nodup) {j:Nat} {x:Int} (hx:l[j]?=some x):atI (l.take j) x= -1:=by
 refine at_out fun hm=>?_
 obtain⟨i,hi⟩:=List.getElem?_of_mem hm
 have hij:i<j:=by
  have:=(List.getElem?_eq_some_iff.1 hi).1
  rw[List.length_take]at this
  omega
 rw[List.getElem?_take_of_lt hij]at hi
 have:=at_once h hi hx
 omega
end Go.Proofs.YtepoejiigmhlbaaGreatDoor.Ev
