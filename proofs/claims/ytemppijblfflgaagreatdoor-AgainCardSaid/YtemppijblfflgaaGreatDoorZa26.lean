/- Parts of a proof that a law's walk returns true. Conditions: none. -/
import Derived.Test.YtemppijblfflgaaGreatDoorZa00
import Derived.Test.YtemppijblfflgaaGreatDoorZa01
import Derived.Test.YtemppijblfflgaaGreatDoorZa05
import Derived.Test.YtemppijblfflgaaGreatDoorZa19
import Derived.Test.YtemppijblfflgaaGreatDoorZa22
import Derived.Test.YtemppijblfflgaaGreatDoorZa24
import Derived.Test.YtemppijblfflgaaGreatDoorZa25
set_option linter.all false
set_option maxRecDepth 100000
set_option maxHeartbeats 8000000
namespace Go.Proofs.YtemppijblfflgaaGreatDoor.Ev
open Go Go.RowKit
theorem IW {P:Program} {w:World} {n:String} {d:DataW Unit}:∀{l:List (String×DataW Unit)} {ps:List MemPlace},DataW.LaidVars P w l ps→(n,d)∈l→
  ∃g t cs fuel p,P.globalNamed n=some g∧(P.globals[g]?).map (·.type)=some t∧w.var? P n=some cs∧DataW.trod (fun _=>()) P w 0 (fun _=>true) false fuel t cs.toList=some (d,p)∧
   (∀x∈MemPlace.row ⟨g,0,none⟩ cs.size,x∈ps)∧∀x∈p,x∈ps
 | [],_,_,h=>by cases h
 |(n',d')::l,ps,h,hm=>by
  obtain⟨g,t,cs,fuel,p,q,h1,h2,h3,h4,h5,rfl⟩:=h
  rcases Bt.1 hm with e|hm
  ·injection e with e1 e2
   subst e1 e2
   exact⟨g,t,cs,fuel,p,h1,h2,h3,h4,fun x hx=>CS _ (CS _ hx),fun x hx=>CS _ (IK _ hx)⟩
  ·obtain⟨g',t',VG,_w,p',a,b,c,d,e,f⟩:=IW h5 hm
   exact⟨g',t',VG,_w,p',a,b,c,d,fun x hx=>IK _ (e x hx),fun x hx=>IK _ (f x hx)⟩
theorem KU {P:Program} {l:List (String×DataW Unit)} {W:World} (h:laidMetH P l W) {n0:String} {d0:DataW Unit} (h0:(n0,d0)∈l) (hh:d0.handleName?.isSome=true):
  laidMet P (l.filter fun x=>x.2.handleName?.isNone) W∧handlesMet P (l.filter fun x=>x.2.handleName?.isSome) W:=by
 unfold laidMetH at h
 have hm:(n0,d0)∈l.filter fun x=>x.2.handleName?.isSome:=DW.2 ⟨h0,hh⟩
 split at h
 ·rename_i e
  rw[e]at hm
  cases hm
 ·rename_i a b e
  rw[e]
  exact h
theorem WY {P:Program} {n nm:String} {text:List UInt8} {l:List (String×DataW Unit)} {W:World} {g:Nat} {ti tp te ts:TypeId} {ms:Array (String×TypeId)} {f:Field}
  (h:laidMet P l W) (N0:(n,DataW.iface nm (.ptr (.agg [.lit (.string text)])))∈l)
  (hg:P.globalNamed n=some g) (ht:(P.globals[g]?).map (·.type)=some ti)
  (hi:P.underlying ti=some (.interface ms)) (BQ:∀u,P.typeName? 3 u=some nm→u=tp)
  (hp:P.underlying tp=some (.pointer te)) (he:P.underlying te=some (.struct #[f])) (oN:f.type=ts) (hfo:f.offset=0) (hs:P.underlying ts=some .string) (hc:P.cellsOf te=1) (aE:P.cellsOf ts=1):
  ∃(a:Addr) (s:ByteArray),W.cell? ⟨g,0,none⟩=some (.iface tp (.pointer (some a)))∧W.cell? a=some (.string s)∧s.data.toList=text∧∃(c:Array Value) (t:TypeId),W.heap[a.block]?=some (.cells c t (0,0)):=by
 obtain⟨ps,hv,IZ,Zo⟩:=h
 obtain⟨g',t',cs,fuel,p,h1,h2,h3,h4,h5,h6⟩:=IW hv N0
 obtain rfl:=Ds (hg.symm.trans h1)
 obtain rfl:=Ds (ht.symm.trans h2)
 obtain⟨l0⟩:=cs
 have ok0:∀u v,l0=[.iface u v]→Value.okWide P W .any 0 u v:=fun u v e=>by
  subst e
  exact(Zo g 0 (h5 _ (by simp[MemPlace.row]))).2 u v (by simpa using Nt h1 h3 0)
 obtain⟨a,s,rfl,xO,SB,KX,rfl⟩:=errorString_of_trod hi BQ hp he oN hfo hs hc aE h4 ok0
 refine⟨a,s,by simpa using Nt h1 h3 0,xO,SB,?_⟩
 exact(Zo a.block a.off (h6 _ (by simp[MemPlace.row]))).1
def pq (l:List Ae):DataW Unit:=.agg (l.map fun s=>.lit (.string s))
theorem VH {H:Type} {enc:TypeId×Value→H} {P:Program} {w:World} {base:Nat} {sp:Nat→Bool} {held:Bool} {fuel:Nat} {t e:TypeId} {n:Nat} {cs:List Value} {zs:List Ae} {p:List MemPlace}
  (ht:P.underlying t=some (.array n e)) (he:P.underlying e=some .string) (qF:P.cellsOf e=1) (vY:P.cellsOf t=n)
  (h:DataW.trod enc P w base sp held fuel t cs=some (.agg (zs.map fun s=>.lit (.string s)),p)):cs=zs.map vs:=by
 cases fuel with
 |zero=>simp[DataW.trod]at h
 |succ fuel=>
  simp only[DataW.trod,ht,qF,vY,Jm]at h
  split at h
  ·rename_i hl
   obtain⟨xs,hm,hx⟩:=Bj.1 h
   have MF:xs.map (·.1)=zs.map fun z=>(DataW.lit (.string z):DataW H):=by
    have:=AL Prod.fst hx
    simpa using this
   have hxl:xs.length=n:=by simpa using Lib.mapM_length hm
   have hzl:zs.length=n:=by
    have:=AL List.length MF
    simp at this
    omega
   apply Fg
   intro i
   by_cases hi:i<n
   ·obtain⟨b,hb,hf⟩:=Lib.mapM_at hm i i (by simp[hi])
    obtain⟨z,hc,rfl,_⟩:=DataW.trod_string he hf
    have h1:cs[i]?=some (.string z):=by
     have:=AL (·[0]?) hc
     simpa[List.getElem?_take,ai]using this
    have h2:(xs.map (·.1))[i]?=some (DataW.lit (.string z.data.toList):DataW H):=by simp[hb]
    rw[MF]at h2
    simp only[Az,Bj,DataW.lit.injEq,Lit.string.injEq]at h2
    obtain⟨z',hz',e⟩:=h2
    have e2:vs z'= .string z:=by
     rw[e]
    rw[h1,Az,hz',CZ,e2]
   ·rw[Bq (by omega),Bq (by simp;omega)]
  ·cases h
theorem kI {P:Program} {n:String} {zs:List Ae} {l:List (String×DataW Unit)} {W:World} {g:Nat} {t e:TypeId} {m:Nat}
  (h:laidMet P l W) (N0:(n,pq zs)∈l) (hg:P.globalNamed n=some g) (vk:(P.globals[g]?).map (·.type)=some t) (ht:P.underlying t=some (.array m e)) (he:P.underlying e=some .string) (qF:P.cellsOf e=1) (vY:P.cellsOf t=m)
  (i:Nat) (hi:i<zs.length):W.cell? ⟨g,i,none⟩=some (vs (zs.getD i [])):=by
 obtain⟨ps,hv,IZ,Zo⟩:=h
 obtain⟨g',t',cs,fuel,p,h1,h2,h3,h4,h5,h6⟩:=IW hv N0
 obtain rfl:=Ds (hg.symm.trans h1)
 obtain rfl:=Ds (vk.symm.trans h2)
 have hc:=VH ht he qF vY h4
 have GH:=Nt h1 h3 i
 rw[show cs=(zs.map vs).toArray from by rw[←hc]]at GH
 simpa[List.getD,hi]using GH
def OI (k:Nat):Ae:=
 if k=1 then [116,111,111,32,108,111,110,103]else if k=2 then [115,121,110,116,97,120,32,101,114,114,111,114]else if k=3 then [116,111,111,32,100,101,101,112]else if k=4 then [100,101,99,108,97,114,101,100,32,116,119,105,99,101]else if k=5 then [110,111,116,32,100,101,99,108,97,114,101,100]else if k=6 then [111,102,32,97,110,111,116,104,101,114,32,107,105,110,100]else if k=7 then [97,32,110,117,109,98,101,114,32,98,101,121,111,110,100,32,105,116,115,32,98,111,117,110,100,115]else if k=8 then [97,32,115,101,99,111,110,100,32,114,117,108,101]else if k=9 then [116,111,111,32,109,97,110,121,32,110,97,109,101,115]else if k=10 then [110,111,32,114,117,108,101,32,102,111,114,32,97,32,109,105,115,115]else if k=11 then [97,32,113,117,101,117,101,32,105,115,32,102,117,108,108]else if k=12 then [97,32,113,117,101,117,101,32,105,115,32,101,109,112,116,121]else []
theorem ZF:∀j k,1≤j→j≤12→1≤k→k≤12→OI j=OI k→j=k:=by
 have h:∀j:Fin 13,∀k:Fin 13,1≤j.val→1≤k.val→OI j.val=OI k.val→j.val=k.val:=by decide
 intro j k h1 h2 h3 h4 e
 exact h ⟨j,by omega⟩ ⟨k,by omega⟩ h1 h3 e
theorem uv (u:TypeId) (h:Tryz.prog.typeName? 3 u=some "*errors.errorString"):u=315:=
 typeName_ptr_named (nm:= "errors.errorString") (by kernel_rfl) (by kernel_rfl) (by decide) u h
theorem qX:Tryz.prog.cellsOf 317=1:=by kernel_rfl
theorem ZR:Tryz.prog.cellsOf 9=1:=by kernel_rfl
theorem qW:Tryz.prog.cellsOf 236=24:=by kernel_rfl
theorem qO:Tryz.prog.globalNamed "errors.errorType" =some 2:=by kernel_rfl
theorem yy:(Tryz.prog.cutTypes.find? (·.1== "internal/reflectlite.rtype")).map (·.2)=some 241:=by kernel_rfl
theorem hH:((List.range 346).filter fun t=>Tryz.prog.rowNamed t [101,114,114,111,114])=[80]:=by kernel_rfl
theorem fL:Tryz.prog.types.size=346:=by kernel_rfl
structure fv (l:List (String×DataW Unit)):Prop where
 et:("errors.errorType",Rows.laid_errors_errorType)∈l
 kw:("evictor/policy.keywords",Rows.laid_evictor_policy_keywords)∈l
 e1:("evictor/policy.ErrLong",Rows.laid_evictor_policy_ErrLong)∈l
 e2:("evictor/policy.ErrSyntax",Rows.laid_evictor_policy_ErrSyntax)∈l
 e3:("evictor/policy.ErrDeep",Rows.laid_evictor_policy_ErrDeep)∈l
 e4:("evictor/policy.ErrTwice",Rows.laid_evictor_policy_ErrTwice)∈l
 e5:("evictor/policy.ErrNone",Rows.laid_evictor_policy_ErrNone)∈l
 e6:("evictor/policy.ErrKind",Rows.laid_evictor_policy_ErrKind)∈l
 e7:("evictor/policy.ErrNumber",Rows.laid_evictor_policy_ErrNumber)∈l
 e8:("evictor/policy.ErrRule",Rows.laid_evictor_policy_ErrRule)∈l
 e9:("evictor/policy.ErrMany",Rows.laid_evictor_policy_ErrMany)∈l
 e10:("evictor/policy.ErrMiss",Rows.laid_evictor_policy_ErrMiss)∈l
 e11:("evictor/code.ErrFull",Rows.laid_evictor_code_ErrFull)∈l
 e12:("evictor/code.ErrEmpty",Rows.laid_evictor_code_ErrEmpty)∈l
def oC (W:World) (k:Nat) (a:Addr):Prop:=
 W.cell? ⟨Kx k,0,none⟩=some (.iface 315 (.pointer (some a)))∧(∃s:ByteArray,W.cell? a=some (.string s)∧s.data.toList=OI k)∧∃(c:Array Value) (t:TypeId),W.heap[a.block]?=some (.cells c t (0,0))
section
variable {l:List (String×DataW Unit)} {W:World}
theorem Gs {n:String} {k g:Nat} (h:laidMet Tryz.prog (l.filter fun x=>x.2.handleName?.isNone) W) (hm:(n,DataW.iface "*errors.errorString" (.ptr (.agg [.lit (.string (OI k))])))∈l)
  (hg:Tryz.prog.globalNamed n=some g) (ht:(Tryz.prog.globals[g]?).map (·.type)=some 80) (hk:Kx k=g):∃a,oC W k a:=by
 obtain⟨a,s,h1,h2,h3,h4⟩:=WY h (DW.2 ⟨hm,rfl⟩) hg ht GC uv Kq Tryz.underlying317 rfl rfl JB qX ZR
 exact⟨a,by rw[hk];exact h1,⟨s,h2,h3⟩,h4⟩
theorem gN1:Tryz.prog.globalNamed "evictor/policy.ErrLong" =some 0:=by kernel_rfl
theorem gT1:(Tryz.prog.globals[0]?).map (·.type)=some 80:=by kernel_rfl
theorem gN2:Tryz.prog.globalNamed "evictor/policy.ErrSyntax" =some 6:=by kernel_rfl
theorem gT2:(Tryz.prog.globals[6]?).map (·.type)=some 80:=by kernel_rfl
theorem gN3:Tryz.prog.globalNamed "evictor/policy.ErrDeep" =some 7:=by kernel_rfl
theorem gT3:(Tryz.prog.globals[7]?).map (·.type)=some 80:=by kernel_rfl
theorem gN4:Tryz.prog.globalNamed "evictor/policy.ErrTwice" =some 8:=by kernel_rfl
theorem gT4:(Tryz.prog.globals[8]?).map (·.type)=some 80:=by kernel_rfl
theorem gN5:Tryz.prog.globalNamed "evictor/policy.ErrNone" =some 9:=by kernel_rfl
theorem gT5:(Tryz.prog.globals[9]?).map (·.type)=some 80:=by kernel_rfl
theorem gN6:Tryz.prog.globalNamed "evictor/policy.ErrKind" =some 10:=by kernel_rfl
theorem gT6:(Tryz.prog.globals[10]?).map (·.type)=some 80:=by kernel_rfl
theorem gN7:Tryz.prog.globalNamed "evictor/policy.ErrNumber" =some 11:=by kernel_rfl
theorem gT7:(Tryz.prog.globals[11]?).map (·.type)=some 80:=by kernel_rfl
theorem gN8:Tryz.prog.globalNamed "evictor/policy.ErrRule" =some 12:=by kernel_rfl
theorem gT8:(Tryz.prog.globals[12]?).map (·.type)=some 80:=by kernel_rfl
theorem gN9:Tryz.prog.globalNamed "evictor/policy.ErrMany" =some 13:=by kernel_rfl
theorem gT9:(Tryz.prog.globals[13]?).map (·.type)=some 80:=by kernel_rfl
theorem Ae1:Tryz.prog.globalNamed "evictor/policy.ErrMiss" =some 1:=by kernel_rfl
theorem Aev:(Tryz.prog.globals[1]?).map (·.type)=some 80:=by kernel_rfl
theorem Ae0:Tryz.prog.globalNamed "evictor/code.ErrFull" =some 4:=by kernel_rfl
theorem Aeu:(Tryz.prog.globals[4]?).map (·.type)=some 80:=by kernel_rfl
theorem Aez:Tryz.prog.globalNamed "evictor/code.ErrEmpty" =some 5:=by kernel_rfl
theorem Aet:(Tryz.prog.globals[5]?).map (·.type)=some 80:=by kernel_rfl
theorem Aey:Tryz.prog.globalNamed "evictor/policy.keywords" =some 14:=by kernel_rfl
theorem Aes:(Tryz.prog.globals[14]?).map (·.type)=some 236:=by kernel_rfl
theorem wm (h:laidMetH Tryz.prog l W) (b:fv l):∃ea,VW W.heap.size ea W∧Ln W.heap.size ea W:=by
 obtain⟨h1,h2⟩:=KU h b.et rfl
 have mC:∀k,∃a,1≤k→k≤12→oC W k a:=by
  intro k
  by_cases hk:1≤k∧k≤12
  ·have:∃a,oC W k a:=by
    have hc:k=1∨k=2∨k=3∨k=4∨k=5∨k=6∨k=7∨k=8∨k=9∨k=10∨k=11∨k=12:=by omega
    rcases hc with rfl|rfl|rfl|rfl|rfl|rfl|rfl|rfl|rfl|rfl|rfl|rfl
    ·exact Gs h1 b.e1 gN1 gT1 rfl
    ·exact Gs h1 b.e2 gN2 gT2 rfl
    ·exact Gs h1 b.e3 gN3 gT3 rfl
    ·exact Gs h1 b.e4 gN4 gT4 rfl
    ·exact Gs h1 b.e5 gN5 gT5 rfl
    ·exact Gs h1 b.e6 gN6 gT6 rfl
    ·exact Gs h1 b.e7 gN7 gT7 rfl
    ·exact Gs h1 b.e8 gN8 gT8 rfl
    ·exact Gs h1 b.e9 gN9 gT9 rfl
    ·exact Gs h1 b.e10 Ae1 Aev rfl
    ·exact Gs h1 b.e11 Ae0 Aeu rfl
    ·exact Gs h1 b.e12 Aez Aet rfl
   obtain⟨a,ha⟩:=this
   exact⟨a,fun _ _=>ha⟩
  ·exact⟨⟨0,0,none⟩,fun h3 h4=>absurd ⟨h3,h4⟩ hk⟩
 obtain⟨ea,xM⟩:=Classical.axiomOfChoice mC
 have CV:∀j,j<24→W.cell? ⟨14,j,none⟩=some (vs (AQ.getD j [])):=fun j hj=>
  kI (zs:=AQ) h1 (DW.2 ⟨b.kw,rfl⟩) Aey Aes Tryz.underlying236 JB ZR qW j hj
 have het:W.cell? ⟨2,0,none⟩=some (.iface 241 (.agg #[.pointer (some ⟨21,80,none⟩)])):=by
  obtain⟨name,u,ty,e1,e2,e3,e4,e5⟩:=h2 _ (DW.2 ⟨b.et,rfl⟩)
  have en:name=[101,114,114,111,114]:=(Ds e1).symm
  subst en
  obtain rfl:=Ds (yy.symm.trans e2)
  have hm:ty∈(List.range 346).filter fun t=>Tryz.prog.rowNamed t [101,114,114,111,114]:=DW.2 ⟨List.mem_range.2 (by rw[←fL];exact e3),e4⟩
  rw[hH]at hm
  obtain rfl:=D3.1 hm
  have hh:typeHandle Tryz.prog 80= .pointer (some ⟨21,80,none⟩):=by kernel_rfl
  rw[hh]at e5
  simpa using Nt qO e5 0
 have Cy:∀k,1≤k→k≤12→(ea k).block<W.heap.size:=fun k k1 k2=>by
  obtain⟨_,⟨s,hs,_⟩,_⟩:=xM k k1 k2
  exact CL W _ hs
 refine⟨ea,⟨Ab _,fun k k1 k2=>(xM k k1 k2).1,fun k k1 k2=>CL W _ (xM k k1 k2).1,CV,CL W _ (CV 0 (by omega))⟩,
  ⟨fun k k1 k2=>(xM k k1 k2).2.2,Cy,fun j k j1 j2 k1 k2 e=>?_,het,CL W _ het⟩⟩
 obtain⟨_,⟨s,hs,ht⟩,_⟩:=xM j j1 j2
 obtain⟨_,⟨s',SV,ht'⟩,_⟩:=xM k k1 k2
 rw[e]at hs
 rw[hs]at SV
 injection SV with SV
 injection SV with SV
 subst SV
 exact ZF j k j1 j2 k1 k2 (ht.symm.trans ht')
end
end Go.Proofs.YtemppijblfflgaaGreatDoor.Ev
namespace Go.Proofs.YtemppijblfflgaaGreatDoor.Ev
open Go Go.ChangeShapes Go.WideShapes Go.ChangeAt Go.RowKit
open Go.ChangeMaps (open_string shut_string)
theorem lu:ownKnob Tryz.prog.godebug=none:=by kernel_rfl
theorem lN:laidOutB Tryz.prog=true:=by kernel_rfl
section
variable {H:Type} {enc:TypeId×Value→H} {P:Program}
theorem O7 (hl:laidOutB P=true) {W W':World} (hb:Below W.heap.size W W') {sp:Nat→Bool}:∀{ts:List TypeId} {vs:List Value} {ds:List (DataW H)} {ps:List MemPlace},(∀t∈ts,P.readableRec t=true∧t<P.types.size)→
  DataW.TrodAll enc P W 0 (fun _=>true) true ts vs ds ps→(∀x∈ps,x.block<W.heap.size)→(∀p∈ps,sp p.block=true)→DataW.TrodAll enc P W' 0 sp true ts vs ds ps
 | [],_,_,_,_,h,_,_=>by
  obtain⟨rfl,rfl,rfl⟩:=trodAll_nil h
  exact trodAll_mk0
 |t::ts,_,_,_,sA,h,Cy,hs=>by
  obtain⟨v,vs1,d,ds1,a,b,rfl,rfl,rfl,h1,h2⟩:=trodAll_cons h
  have ht:=sA t (ac ..)
  exact⟨a,b,WideElems.Trod_stays hl ht.1 ht.2 h1 (fun x hx=>hb.same (Cy x (CS _ hx))) (fun x hx=>hs x (CS _ hx)),
   O7 hl hb (fun t ht=>sA t (VP _ ht)) h2 (fun x hx=>Cy x (IK _ hx)) (fun x hx=>hs x (IK _ hx)),rfl⟩
theorem gY {f:Func} {s:ChangeSpec} {W W':World} {args:Array Value} {ds gs:List (DataW H)} {before:List MemPlace} {tb:TypeId} (hl:laidOutB P=true) (hv:s.vars=[])
  (hW:DataW.Whole enc P f.params.toList s.vars false W args.toList ds gs before) (hfn:∀xU:List (DataW H),xU.length=f.params.size→s.fn H xU={results:=[.lit (.bool true)],args:=xU})
  (vD:f.resultTypes=#[tb]) (htb:P.underlying tb=some .bool) (sA:∀t∈f.params.toList,P.readableRec t=true∧t<P.types.size) (hk:Af (fun b=>W.heap.size≤b) W W'):
  s.post enc P f false true false false W args (.bool true) W':=by
 have hb:Below W.heap.size W W':=hk.below (fun k h=>h)
 have Cy:∀p∈before,p.block<W.heap.size:=fun p hp=>hW.lt p hp
 have zb:∀p∈before,(fun b=>decide (b<W.heap.size)) p.block=true:=fun p hp=>by simpa using Cy p hp
 have hW':=hW
 obtain⟨p,q,Ny,hV,rfl,hfz,IZ⟩:=hW
 have hA:DataW.TrodAll enc P W 0 (fun _=>true) true f.params.toList args.toList ds p:=Ny
 rw[hv]at hV
 obtain⟨rfl,rfl⟩:=trodVars_none hV
 rw[Bk]at Cy zb
 have hlen:∀{ts:List TypeId} {vs:List Value} {ds:List (DataW H)} {ps:List MemPlace},DataW.TrodAll enc P W 0 (fun _=>true) true ts vs ds ps→ds.length=ts.length:=by
  intro ts
  induction ts with
  |nil=>intro vs ds ps h;obtain⟨rfl,rfl,rfl⟩:=trodAll_nil h;rfl
  |cons t ts ih=>
   intro vs ds ps h
   obtain⟨v,vs1,d,ds1,a,b,rfl,rfl,rfl,h1,h2⟩:=trodAll_cons h
   simp[ih h2]
 have hd:ds.length=f.params.size:=by rw[hlen hA];simp
 have e:s.fn H (ds++[])={results:=[.lit (.bool true)],args:=ds}:=by rw[Bk];exact hfn ds hd
 have MW:∀(b:Nat) (sp:Nat→Bool) (hd:Bool),DataW.TrodAll enc P W' b sp hd f.resultTypes.toList ((Value.bool true).resultList f.resultTypes.size) (s.fn H (ds++[])).results []:=by
  intro b sp hd
  rw[e,vD]
  exact trodAll_mk1 (shut_bool htb true)
 have tn:∀sp:Nat→Bool,(∀x∈p,sp x.block=true)→DataW.TrodAll enc P W' 0 sp true f.params.toList args.toList (s.fn H (ds++[])).args p:=by
  intro sp hs
  rw[e]
  exact O7 hl hb sA hA Cy hs
 have sy:∀sp:Nat→Bool,DataW.TrodVars enc P W' sp s.vars (s.fn H (ds++[])).vars []:=by
  intro sp
  rw[e,hv]
  exact rfl
 refine⟨ds,[],p++[],[],p,[],hW',MW _ _ _,tn _ zb,sy _,World.keptBut_mono (fun x hx=>⟨hx,.inr (by simpa using hx)⟩) (hb.frame (·∈p++[])),fun _=>?_⟩
 refine⟨ok_one vD rfl (okWide_bool_mk htb true),_,_,([]++p)++[],⟨[]++p,[],trodAll_append (tn _ (fun _ _=>rfl)) (MW _ _ _),sy _,rfl,?_,?_⟩,?_⟩
 ·intro b off hp
  have OG:MemPlace.cell b off∈p++[]:=by simpa using hp
  rw[hb.frozen (Cy _ (by simpa using OG))]
  exact hfz b off OG
 ·intro ha
  have:=IZ ha
  simpa using this
 ·intro x hx _
  simpa using hx
end
def WI (w:World) (v:Value) (l:List Int):Prop:=
 ∃a c,v= .slice a l.length c∧l.length≤maxLen∧∀(k:Nat) x,l[k]?=some x→∃g off,a=some ⟨g,off,none⟩∧w.cell? ⟨g,off+k,none⟩=some (.int .u64 x)
theorem WI.shape {w:World} {v:Value} {l:List Int} (h:WI w v l):∃a c,v= .slice a l.length c:=by
 obtain⟨a,c,h1,_⟩:=h
 exact⟨a,c,h1⟩
theorem WI.at_ {w:World} {l:List Int} {a:Option Addr} {c:Nat} (h:WI w (.slice a l.length c) l) {k:Nat} {x:Int} (hx:l[k]?=some x):∃g off,a=some ⟨g,off,none⟩∧w.cell? ⟨g,off+k,none⟩=some (.int .u64 x)∧g<w.heap.size∧l.length≤maxLen:=by
 obtain⟨a',c',h1,h2,h3⟩:=h
 injection h1 with h1 _ _
 obtain⟨g,off,e,hc⟩:=h3 k x hx
 exact⟨g,off,h1.trans e,hc,CL w _ hc,h2⟩
theorem lQ {H:Type} {enc:TypeId×Value→H} {P:Program} {w:World} {t e:TypeId} {v:Value} {d:DataW H} {p:List MemPlace} (ht:P.underlying t=some (.slice e)) (he:P.underlying e=some (.int .u64)) (hc:P.cellsOf e=1)
  {b0:Nat} (hv:Value.okWide P w .any b0 t v) (h:DataW.Trod enc P w 0 (fun _=>true) true t v d p):∃l,WI w v l:=by
 obtain⟨a0,ij,Afc,rfl⟩:=okWide_slice ht hv
 obtain⟨n,hn⟩:=h
 rcases open_ints ht he hc hn with⟨h1,_⟩|⟨a,len,cap,zs,h1,_,h2,h3,h4,_,h5,_⟩
 ·simp[Value.cells]at h1
  obtain⟨rfl,rfl,rfl⟩:=h1
  exact⟨[],none,0,rfl,Bn _,fun k x hx=>by simp at hx⟩
 ·simp[Value.cells]at h1
  obtain⟨rfl,rfl,rfl⟩:=h1
  simp only[A0]at h4
  refine⟨zs.take ij,some a,Afc,by rw[JF,Nat.min_eq_left (by omega)],by rw[JF];omega,fun k x hx=>?_⟩
  have hk:k<zs.length∧k<ij:=by
   have:=(Ap.1 hx).1
   rw[JF]at this
   omega
  obtain⟨b,off,rfl,GH⟩:=ints_at h5 (by omega)
  refine⟨b,off,rfl,?_⟩
  rw[GH k hk.1]
  rw[List.getElem?_take_of_lt hk.2]at hx
  rw[List.getD,hx]
  rfl
def litV:DataW Unit→Value
 | .lit (.int k n)=>.int k n
 | .lit (.string s)=>.string ⟨s.toArray⟩
 |_=>undef
def rx:DataW Unit→Array Value
 | .agg l=>(l.map litV).toArray
 | .slice l _=>(l.map litV).toArray
 |_=>#[]
def UI (k:Nat):Obj:=.cells #[.string ⟨(OI k).toArray⟩] 317
def MO (h:Array Obj) (g:Nat) (cs:Array Value):Array Obj:=h.modify g fun
 | .cells _ t frozen=>.cells cs t frozen
 |o=>o
noncomputable def OB (os:Os):World:=
 let N:=(World.settled Tryz.prog os).heap.size
 let w0:=World.holding Tryz.prog os ⟨#[UI 1,UI 2,UI 3,UI 4,UI 5,UI 6,UI 7,UI 8,UI 9,UI 10,UI 11,UI 12,
  .cells #[.string ⟨#[118,97,108,117,101,32,111,117,116,32,111,102,32,114,97,110,103,101]⟩] 317,
  .cells #[.string ⟨#[105,110,118,97,108,105,100,32,115,121,110,116,97,120]⟩] 317,
  .cells (rx Rows.laid_evictor_evictorref_words) 9],#[],[]⟩
 let e (i:Nat):Array Value:=#[.iface 315 (.pointer (some ⟨N+i,0,none⟩))]
 let h:=w0.heap
 let h:=MO h 0 (e 0)
 let h:=MO h 6 (e 1)
 let h:=MO h 7 (e 2)
 let h:=MO h 8 (e 3)
 let h:=MO h 9 (e 4)
 let h:=MO h 10 (e 5)
 let h:=MO h 11 (e 6)
 let h:=MO h 12 (e 7)
 let h:=MO h 13 (e 8)
 let h:=MO h 1 (e 9)
 let h:=MO h 4 (e 10)
 let h:=MO h 5 (e 11)
 let h:=MO h 18 (e 12)
 let h:=MO h 17 (e 13)
 let h:=MO h 14 (rx Rows.laid_evictor_policy_keywords)
 let h:=MO h 16 (rx Rows.laid_internal_strconv_uint64pow10)
 let h:=MO h 19 (rx Rows.laid_math_bits_deBruijn32tab)
 let h:=MO h 20 (rx Rows.laid_math_bits_deBruijn64tab)
 let h:=MO h 2 #[.iface 241 (.agg #[.pointer (some ⟨21,80,none⟩)])]
 let h:=MO h 3 #[.slice (some ⟨N+14,0,none⟩) 24 24]
 {w0 with heap:=h}
end Go.Proofs.YtemppijblfflgaaGreatDoor.Ev
namespace Go.Proofs.YtemppijblfflgaaGreatDoor.Ev
open Go Go.RowKit
def WE (T:Nat→Prop) (w wr:World) (x y:Nat) (p:AF) (k:Nat) (st:St) (c:jy):Prop:=
 ∃Sx Sy:Nat→Prop,Hv Sx wr x ⟨p,st,c⟩∧Hv Sy wr y ⟨GF p,st,c⟩∧(∀b,Sx b→T b∧b<wr.heap.size∧¬Sy b)∧(∀b,Sy b→T b∧b<wr.heap.size)∧Sf c k∧Af T w wr
section
variable {T:Nat→Prop} {w wr w1 w2:World} {x y:Nat} {p:AF} {k:Nat} {st st':St} {c c':jy} {v:Value}
theorem WE.next (hT:∀b,w.heap.size≤b→T b) {Sx Sy:Nat→Prop} (hx:Hv Sx wr x ⟨p,st,c⟩) (hy:Hv Sy wr y ⟨GF p,st,c⟩) (ax:∀b,Sx b→T b∧b<wr.heap.size∧¬Sy b) (ay:∀b,Sy b→T b∧b<wr.heap.size) (hk:Af T w wr)
  (Bi:Af (fun b=>b=x∨wr.heap.size≤b) wr w1) (h1:Hv (fun b=>Sx b∨wr.heap.size≤b) w1 x ⟨p,st',c'⟩) (A4:Af (fun b=>b=y∨w1.heap.size≤b) w1 w2) (h2:Hv (fun b=>Sy b∨w1.heap.size≤b) w2 y ⟨GF p,st',c'⟩) (hc:Sf c' (k+1)):WE T w w2 x y p (k+1) st' c':=by
 have s0:=hk.size
 have s1:=Bi.size
 have s2:=A4.size
 have hyl:y<wr.heap.size:=hy.lt
 have hym:Sy y:=hy.mine
 have hxm:Sx x:=hx.mine
 refine⟨fun b=>(Sx b∨wr.heap.size≤b)∧b<w1.heap.size,fun b=>(Sy b∨w1.heap.size≤b)∧b<w2.heap.size,?_,h2.shrink,fun b hb=>?_,fun b hb=>?_,hc,?_⟩
 ·refine h1.shrink.kept A4 (fun b hb Cy ht=>?_)
  rcases ht with ht|ht
  ·subst ht
   rcases hb.1 with h|h
   ·exact(ax _ h).2.2 hym
   ·omega
  ·have:=hb.2;omega
 ·obtain⟨h,hl⟩:=hb
  refine⟨h.elim (fun h=>(ax b h).1) (fun h=>hT b (Ai s0 h)),by omega,fun hn=>?_⟩
  obtain⟨h3,_⟩:=hn
  rcases h3 with h3|h3
  ·rcases h with h|h
   ·exact(ax b h).2.2 h3
   ·have:=(ay b h3).2;omega
  ·omega
 ·obtain⟨h,hl⟩:=hb
  exact⟨h.elim (fun h=>(ay b h).1) (fun h=>hT b (by omega)),hl⟩
 ·refine(hk.trans (Bi.mono fun b hb=>?_)).trans (A4.mono fun b hb=>?_)
  ·exact hb.elim (fun e=>e▸(ax x hxm).1) (fun h=>hT b (Ai s0 h))
  ·exact hb.elim (fun e=>e▸(ay y hym).1) (fun h=>hT b (by omega))
end
theorem jj (w:World) {s:Ae} (hs:s.length≤140737488351232):Nb (w.alloc (.cells #[.int .i64 0,.int .i64 0,.int .u64 0,vs s] 57)) (.slice (some ⟨w.heap.size,0,none⟩) 1 1) [⟨0,0,0,s⟩]:=by
 have hr:=AM.new w 57 [.int .i64 0,.int .i64 0,.int .u64 0,vs s]
 refine⟨some ⟨w.heap.size,0,none⟩,1,rfl,by simp,fun x hx=>?_,fun k x hx=>?_⟩
 ·simp at hx
  subst hx
  exact⟨by simp,by simp,by simp,by simp,hs⟩
 ·cases k with
  |zero=>
   simp at hx
   subst hx
   refine⟨_,0,rfl,hr.lt,fun j hj=>?_⟩
   have:=hr.cell j
   simp only[Nat.zero_mul,FA]
   exact this
  |succ k=>simp at hx
section
variable {B:Nat} {ea:Nat→Addr} {gx:Nat×Nat} {w:World} {s:Ae} {v:Value} {l:List Int}
theorem cZ (hE:rE B ea gx w) (hT:S8 w) (hs:s.length≤140737488351232) (hk:WI w v l):Calls Tryz.prog 11 #[vs s,v] w fun e W'=>e= .returned (.bool true)∧Af (fun b=>w.heap.size≤b) w W':=by
 have _6:=Aa (gu (jj w hs))
 have HL:=Aa (fun(q:Ae) W (hk:Af (fun b=>w.heap.size≤b) w W)=>lG (hE.later hk).env (hE.later hk).obj q)
 have HR:=Aa (fun W (hk:Af (fun b=>w.heap.size≤b) w W)=>gJ (hE.later hk).words s)
 have dH:=Aa (fun W (hk:Af (fun b=>w.heap.size≤b) w W)=>hT.kept hk (fun b hb=>by have:=hT.lt;omega))
 have wZ:=Aa (fun W (hk:Af (fun b=>w.heap.size≤b) w W)=>hE.later hk)
 have k0:Af (fun b=>w.heap.size≤b) w (w.alloc (.cells #[.int .i64 0,.int .i64 0,.int .u64 0,vs s] 57)):=(Af.refl _ w).alloc (Ab _) _
 have K0:=Aa k0
 have HK:=Aa hk
 obtain⟨av,cv,rfl⟩:=hk.shape
 clear hE hT hs hk k0
 go_enter jV,Tryz.ntmps11
 go_wp2_with fail
 refine _6.out.mono ?_
 rintro y w1 ⟨b,rfl,_,Bi⟩
 have k1:=K0.out.trans (Bi.mono (fun b hb=>Ai K0.out.size hb))
 have K1:=Aa k1
 clear Bi k1
 cases b with
 |false=>
  go_wp2
  go_ret
  exact⟨rfl,K1.out⟩
 |true=>
  by_cases hlen:l.length>1048576
  ·have e1:decide ((l.length:Int)>1048576)=true:=by simp;omega
   go_wp2
   go_ret
   exact⟨rfl,K1.out⟩
  have e1:decide ((l.length:Int)>1048576)=false:=by simp;omega
  go_wp2_with fail
  refine(HL.out s _ K1.out).mono ?_
  rintro y w2 ⟨A4,LV⟩
  have k2:=K1.out.trans (A4.mono (fun b hb=>Ai K1.out.size hb))
  have K2:=Aa k2
  have L2:=Aa A4
  clear A4 k2
  cases hr:read s with
  |error x=>
   obtain⟨k,pos⟩:=x
   have Gh:¬((k:Int)=0):=by have:=YQ hr;omega
   have HX:=Aa hr
   rw[hr]at LV
   simp only at LV
   subst LV
   clear hr
   go_wp2_with fail
   refine(HR.out _ K2.out).mono ?_
   rintro y w3 ⟨BY,Pz⟩
   rw[HX.out]at Pz
   subst Pz
   have k3:=K2.out.trans (BY.mono (fun b hb=>Ai K2.out.size hb))
   have K3:=Aa k3
   clear BY k3
   go_wp2
   go_ret
   exact⟨rfl,K3.out⟩
  |ok p=>
   have HX:=Aa hr
   have HP:=Aa (bp hr)
   rw[hr]at LV
   obtain⟨ge,rfl,her⟩:=LV
   have HER:=Aa her
   clear hr her
   go_wp2_with fail
   refine(HR.out _ K2.out).mono ?_
   rintro y w3 ⟨BY,Pz⟩
   rw[HX.out]at Pz
   obtain⟨gp,rfl,hrp⟩:=Pz
   have k3:=K2.out.trans (BY.mono (fun b hb=>Ai K2.out.size hb))
   have K3:=Aa k3
   have L3:=Aa BY
   have HRP:=Aa (fun W (hk:Af (fun b=>(w1.heap.size≤b∧b<w2.heap.size)∨w3.heap.size≤b) w3 W)=>fM (hrp.kept hk (fun b hb Cy ht=>by omega)) HP.out)
   have zO:=HER.out.kept BY (fun b hb Cy ht=>by omega)
   have ol:=Aa (Wz zO (dH.out _ k3))
   clear BY k3 hrp zO
   go_wp2_with fail
   refine ol.out.mono ?_
   rintro y w4 ⟨rfl,CU⟩
   have SD:(text p).length≤700→read (text p)= .ok (GF p):=gP HP.out
   have sO:700<(text p).length→read (text p)= .error (eX,0):=T5
   have qj:text (LN.new (GF p)).p=text p:=fU HP.out
   have htp:text (LN.new p).p=text p:=rfl
   rw[htp]
   have yc:=Aa SD
   have HLG:=Aa sO
   have HTN:=Aa qj
   have Fw:=At (text p)
   have yi:=Aa (HL.out (text p))
   generalize hT:text p=T at*
   clear hT SD sO qj htp
   have k4:=K3.out.trans (CU.mono (fun b hb=>Ai K3.out.size hb))
   have K4:=Aa k4
   have L4:=Aa CU
   clear CU k4
   go_wp2_with fail
   refine(yi.out _ K4.out).mono ?_
   rintro y w5 ⟨He,zu⟩
   have k5:=K4.out.trans (He.mono (fun b hb=>Ai K4.out.size hb))
   have K5:=Aa k5
   have L5:=Aa He
   clear He k5
   by_cases h7:T.length≤700
   ·have e2:decide ((T.length:Int)>700)=false:=by simp;omega
    rw[yc.out h7]at zu
    obtain⟨gy,rfl,hey⟩:=zu
    have HEY:=Aa hey
    have vk:=Wz hey (dH.out _ K5.out)
    rw[HTN.out]at vk
    have HTY:=Aa vk
    clear hey vk
    unfold vs at*
    go_wp2_with fail
    refine HTY.out.mono ?_
    rintro y w6 ⟨rfl,Nv⟩
    have k6:=K5.out.trans (Nv.mono (fun b hb=>Ai K5.out.size hb))
    have htw:WE (fun b=>(w1.heap.size≤b∧b<w2.heap.size)∨w3.heap.size≤b) w6 w6 ge gy p 0 (LN.new p).s (LN.new p).n:=by
     refine⟨_,_,((((HER.out.kept L3.out (fun b hb Cy ht=>by omega)).kept L4.out (fun b hb Cy ht=>by omega)).kept L5.out (fun b hb Cy ht=>by omega)).kept Nv (fun b hb Cy ht=>by omega)).shrink,HEY.out.kept Nv (fun b hb Cy ht=>by omega),fun b hb=>?_,fun b hb=>?_,?_,Af.refl _ _⟩
     ·have:=L2.out.size;have:=K1.out.size;have:=L3.out.size;have:=L4.out.size
      exact⟨.inl ⟨hb.1.1,hb.1.2⟩,hb.2,fun h=>by have:=h.1;omega⟩
     ·have:=L4.out.size;have:=Nv.size
      exact⟨.inr (by omega),by omega⟩
     ·simp[LN.new,Sf]
    have HTW:=Aa htw
    have t6:∀b,w6.heap.size≤b→((w1.heap.size≤b∧b<w2.heap.size)∨w3.heap.size≤b):=fun b hb=>.inr (by have:=L4.out.size;have:=L5.out.size;have:=Nv.size;omega)
    have w6t:∀b,((w1.heap.size≤b∧b<w2.heap.size)∨w3.heap.size≤b)→w.heap.size≤b:=fun b hb=>by have:=K1.out.size;have:=K3.out.size;omega
    have w36:Af (fun b=>(w1.heap.size≤b∧b<w2.heap.size)∨w3.heap.size≤b) w3 w6:=((L4.out.mono (fun b hb=>.inr hb)).trans (L5.out.mono (fun b hb=>.inr (Ai L4.out.size hb)))).trans (Nv.mono (fun b hb=>.inr (by have:=L4.out.size;have:=L5.out.size;omega)))
    have T6:=Aa t6
    have W6T:=Aa w6t
    have W36:=Aa w36
    have K6:=Aa k6
    clear Nv k6 htw t6 w6t w36
    go_wp2_with fail
    go_loopg [99] l.length (fun gg s99 wr=>∃(k:Nat) (st:St) (c:jy),k≤l.length∧l.length-k≤gg∧s99= .int .i64 k∧WE (fun b=>(w1.heap.size≤b∧b<w2.heap.size)∨w3.heap.size≤b) w6 wr ge gy p k st c)
    case atStart=>exact⟨0,_,_,Bn _,by omega,rfl,HTW.out⟩
    case round=>
     obtain⟨k,st,c,hk,hg,rfl,htw⟩:=hrel
     obtain⟨Sx,Sy,hx,hy,ax,ay,hc,mv⟩:=htw
     have OD:=K6.out.trans (mv.mono W6T.out)
     have HKT:=Aa mv
     clear mv
     by_cases Cy:k<l.length
     ·obtain⟨key,Uz⟩:∃key,l[k]?=some key:=⟨_,Ah Cy⟩
      obtain⟨gk,ok,rfl,z0,z1,z2⟩:=HK.out.at_ Uz
      have z0:=(OD.cell (p:=⟨gk,ok+k,none⟩) (by simp only;omega)).trans z0
      have hac:=Z2 HP.out st c key
      have hcb:=fun hit gone e1=>Sf.access (e:=⟨p,st,c⟩) (m:=k) (e1:=e1) (hit:=hit) (gone:=gone) (key:=key) HP.out hc
      have hA:=SH (wZ.out _ OD).env (wZ.out _ OD).obj hx (fun b hb=>(ax b hb).2.1) (m:=k) (by omega) hc key
      have hB:=fun W (hk:Af (fun b=>b=ge∨wr.heap.size≤b) wr W)=>SH (wZ.out W (OD.trans (hk.mono (fun b hb=>hb.elim (fun e=>by exact W6T.out b (ax b (e▸hx.mine)).1) (fun h=>Ai OD.size h))))).env (wZ.out W (OD.trans (hk.mono (fun b hb=>hb.elim (fun e=>by exact W6T.out b (ax b (e▸hx.mine)).1) (fun h=>Ai OD.size h))))).obj (hy.kept hk (fun b hb Cy ht=>by
       rcases ht with ht|ht
       ·subst ht;exact(ax _ hx.mine).2.2 hb
       ·omega)) (fun b hb=>AD (ay b hb).2 hk.size) (m:=k) (by omega) hc key
      rw[hac]at hB
      generalize hr:(⟨p,st,c⟩:LN).access key=r at*
      have gkl:=AD z1 OD.size
      unfold maxLen at z2
      have AX:=Aa ax
      have AY:=Aa ay
      have KR:=Aa OD
      have xY:=Aa hx
      have HYE:=Aa hy
      have HCC:=Aa hc
      have HA:=Aa hA
      have HB:=Aa hB
      have HCB:=Aa hcb
      clear ax ay OD hx hy hc hA hB hcb hac hr Uz
      cases r with
      |err e=>
       go_wp2_with fail
       refine HA.out.mono ?_
       rintro y w7 ⟨Rk,rfl,yJ⟩
       have rS:=Aa Rk
       have HX7:=Aa yJ
       clear Rk yJ
       go_wp2_with fail
       refine(HB.out _ rS.out).mono ?_
       rintro y w8 ⟨qv,rfl,yI⟩
       have wU:=Aa qv
       have HY8:=Aa yI
       have _6:=Aa (Wm (w:=w8) (u:=.slice none 0 0) (v:=.slice none 0 0) (a:=[]) (b:=[]) (.inl ⟨rfl,rfl⟩) (.inl ⟨rfl,rfl⟩) (by simp) (by simp))
       clear qv yI
       go_wp2_with fail
       refine _6.out.mono ?_
       rintro y w9 ⟨rfl,n9,rfl⟩
       go_wp2
       go_roundg (l.length-(k+1))
       case measure=>omega
       case rel=>exact⟨k+1,st,c,by omega,by omega,by go_num,WE.next T6.out xY.out HYE.out AX.out AY.out HKT.out rS.out (HX7.out.mono (fun b hb=>.inl hb)) (wU.out.drewN n9) ((HY8.out.mono (fun b hb=>.inl hb)).of_heap rfl rfl rfl rfl) (by obtain⟨c1,c2,c3,c4,c5,c6⟩:=HCC.out;exact⟨c1,by omega,c3,by omega,c5,by omega⟩)⟩
      |ok hit gone e1=>
       obtain⟨Nk,SX,hp1⟩:=HCB.out _ _ _ rfl
       have Td:=Aa Nk
       obtain⟨pe,se,ne⟩:=e1
       simp only at hp1
       subst hp1
       clear Nk
       go_wp2_with fail
       refine HA.out.mono ?_
       rintro y w7 ⟨Rk,v7,rfl,mo,yJ⟩
       obtain⟨a7,c7,rfl⟩:=mo.any_
       have rS:=Aa Rk
       have HX7:=Aa yJ
       have rM:=Aa mo
       clear Rk yJ mo
       go_wp2_with fail
       refine(HB.out _ rS.out).mono ?_
       rintro y w8 ⟨qv,v8,rfl,hs8,yI⟩
       obtain⟨a8,c8,rfl⟩:=hs8.any_
       have hs9:=rM.out.kept qv (fun b hb ht=>by
        have h1:=rM.out.2 b hb
        have h2:=rM.out.lt hb
        rcases ht with ht|ht
        ·have h3:=(AY.out gy HYE.out.mine).2;omega
        ·omega)
       have wU:=Aa qv
       have HY8:=Aa yI
       have _6:=Aa (Wm hs9.ls hs8.ls (by omega) (by omega))
       clear qv yI hs8 hs9
       go_wp2_with fail
       refine _6.out.mono ?_
       rintro y w9 ⟨rfl,n9,rfl⟩
       go_wp2
       go_roundg (l.length-(k+1))
       case measure=>omega
       case rel=>exact⟨k+1,se,ne,by omega,by omega,by go_num,WE.next T6.out xY.out HYE.out AX.out AY.out HKT.out rS.out (HX7.out.mono (fun b hb=>hb.1)) (wU.out.drewN n9) ((HY8.out.mono (fun b hb=>hb.1)).of_heap rfl rfl rfl rfl) Td.out⟩
     ·have ex:=fun W (hk:Af (fun b=>wr.heap.size≤b) wr W)=>SG (hx.kept hk (fun b hb Cy ht=>by omega))
      have ey:=fun W (hk:Af (fun b=>wr.heap.size≤b) wr W)=>SG (hy.kept hk (fun b hb Cy ht=>by omega))
      have et:=fun W (hk:Af (fun b=>wr.heap.size≤b) wr W)=>HRP.out W ((W36.out.trans HKT.out).trans (hk.mono (fun b hb=>T6.out b (Ai HKT.out.size hb))))
      have EX:=Aa ex
      have EY:=Aa ey
      have ET:=Aa et
      have KR:=Aa OD
      unfold nT m8 at EX EY
      clear ex ey et hx hy ax ay OD hc
      go_wp2_with fail
      refine(EX.out _ (Af.refl _ _)).mono ?_
      rintro y w7 ⟨rfl,Rk⟩
      have rS:=Aa Rk
      clear Rk
      go_wp2_with fail
      refine(EY.out _ rS.out).mono ?_
      rintro y w8 ⟨rfl,qv⟩
      have wU:=Aa (rS.out.trans (qv.mono (fun b hb=>Ai rS.out.size hb)))
      clear qv
      go_wp2_with fail
      refine(ET.out _ wU.out).mono ?_
      rintro y w9 ⟨rfl,iH⟩
      go_wp2
      go_ret
      exact⟨by simp,KR.out.trans ((wU.out.trans (iH.mono (fun b hb=>Ai wU.out.size hb))).mono (fun b hb=>Ai KR.out.size hb))⟩
   ·have e2:decide ((T.length:Int)>700)=true:=by simp;omega
    rw[HLG.out (by omega)]at zu
    simp only at zu
    subst zu
    have oU:=Aa (HRP.out _ ((L4.out.trans (L5.out.mono (fun b hb=>Ai L4.out.size hb))).mono (fun b hb=>.inr hb)))
    unfold vs at*
    go_wp2_with fail
    refine oU.out.mono ?_
    rintro y w6 ⟨rfl,Nv⟩
    go_wp2
    go_ret
    exact⟨by simp,K5.out.trans (Nv.mono (fun b hb=>Ai K5.out.size hb))⟩
end
end Go.Proofs.YtemppijblfflgaaGreatDoor.Ev
namespace Go.Proofs.YtemppijblfflgaaGreatDoor.Ev
open Go Go.ChangeShapes Go.WideShapes Go.ChangeAt Go.RowKit
theorem iZ:Tryz.prog.cellsOf 9=1:=by kernel_rfl
theorem iY:Tryz.prog.cellsOf 27=1:=by kernel_rfl
theorem Aew:Tryz.prog.globalNamed "evictor/evictorref.words" =some 3:=by kernel_rfl
theorem Aeq:(Tryz.prog.globals[3]?).map (·.type)=some 63:=by kernel_rfl
theorem VY:(Rows.laid_evictor_evictorref_words:DataW Unit)= .slice (AQ.map fun s=>.lit (.string s)) []:=rfl
theorem kc {l:List (String×DataW Unit)} {W:World} (h:laidMetH Tryz.prog l W) (b:fv l) (hm:("evictor/evictorref.words",Rows.laid_evictor_evictorref_words)∈l):∃gx,PH W gx:=by
 obtain⟨h1,_⟩:=KU h b.et rfl
 obtain⟨ps,hv,IZ,Zo⟩:=h1
 obtain⟨g',t',cs,fuel,p,e1,e2,e3,e4,e5,e6⟩:=IW hv (DW.2 ⟨hm,rfl⟩)
 obtain rfl:=Ds (Aew.symm.trans e1)
 obtain rfl:=Ds (Aeq.symm.trans e2)
 rcases open_strings Tryz.underlying63 JB iZ e4 with⟨_,hx⟩|⟨a,len,cap,ss,aE,_,hl,LV,hz,hx,GH,Fw⟩
 ·have hd:=AL Prod.fst hx
  simp only at hd
  rw[VY]at hd
  cases hd
 ·have hd:=AL Prod.fst hx
  simp only at hd
  rw[VY]at hd
  injection hd with ha hb
  simp only[A0]at hz
  have hk:AQ.length=24:=rfl
  have VC:=AL List.length ha
  have Hy:=AL List.length hb
  simp only[strs,J7,JF,jr,Aj,hk]at VC Hy
  have Adw:len=24:=by omega
  have Aec:cap=24:=by omega
  subst Adw Aec
  obtain⟨bk,off,spot⟩:=a
  have yT:spot=none:=by simpa[Addr.add]using World.cell?_spot (GH 0 (by omega))
  subst yT
  have hh:W.cell? ⟨3,0,none⟩=some (.slice (some ⟨bk,off,none⟩) 24 24):=by
   have:=Nt e1 e3 0
   rw[show cs=#[Value.slice (some ⟨bk,off,none⟩) 24 24]from by rw[←Array.toArray_toList (xs:=cs),aE]]at this
   simpa using this
  have tm:∀j,j<24→W.cell? ⟨bk,off+j,none⟩=some (vs (AQ.getD j [])):=by
   intro j hj
   have h3:=GH j (by omega)
   rw[Go.WideShapes.add_plain]at h3
   rw[h3]
   have h4:(AQ.map fun s=>(DataW.lit (.string s):DataW Unit))[j]?=(strs (ss.take 24))[j]?:=by rw[ha]
   unfold strs at h4
   have hj2:j<(ss.take 24).length:=by rw[JF];omega
   rw[Az,Az,Ah (by rw[hk];exact hj),Ah hj2]at h4
   simp only[CZ,De,DataW.lit.injEq,Lit.string.injEq,List.getElem_take]at h4
   have e7:AQ.getD j []=AQ[j]'(by rw[hk];exact hj):=by rw[List.getD,Ah (by rw[hk];exact hj)];rfl
   have e8:ss.getD j ByteArray.empty=ss[j]'(by omega):=by rw[List.getD,Ah (by omega)];rfl
   rw[e7,e8,h4]
  exact⟨(bk,off),hh,tm,CL W _ hh,CL W _ (tm 0 (by omega))⟩
end Go.Proofs.YtemppijblfflgaaGreatDoor.Ev
namespace Go.Proofs.YtemppijblfflgaaGreatDoor.Ev
open Go Go.RowKit
theorem Aex:Tryz.prog.globalNamed "internal/strconv.uint64pow10" =some 16:=by kernel_rfl
theorem Aer:(Tryz.prog.globals[16]?).map (·.type)=some 302:=by kernel_rfl
theorem qV:Tryz.prog.cellsOf 302=20:=by kernel_rfl
theorem po:(Rows.laid_internal_strconv_uint64pow10:DataW Unit)=Lib.tabData .u64 Lib.pow10Tab:=rfl
theorem uo {l:List (String×DataW Unit)} {W:World} (h:laidMetH Tryz.prog l W) (b:fv l) (hm:("internal/strconv.uint64pow10",Rows.laid_internal_strconv_uint64pow10)∈l):S8 W:=by
 obtain⟨h1,_⟩:=KU h b.et rfl
 obtain⟨ps,hv,IZ,Zo⟩:=h1
 obtain⟨g',t',cs,fuel,p,e1,e2,e3,e4,e5,e6⟩:=IW hv (DW.2 ⟨hm,rfl⟩)
 obtain rfl:=Ds (Aex.symm.trans e1)
 obtain rfl:=Ds (Aer.symm.trans e2)
 rw[po]at e4
 have hc:=Lib.cells_of_tab Tryz.underlying302 IP iY qV e4
 unfold S8 Lib.TabIs
 rw[e3,←hc]
end Go.Proofs.YtemppijblfflgaaGreatDoor.Ev
