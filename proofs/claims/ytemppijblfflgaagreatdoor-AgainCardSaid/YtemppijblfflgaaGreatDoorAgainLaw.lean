/- Again: for every input the law returns true. Conditions: none. -/
import Derived.Test.YtemppijblfflgaaGreatDoorZa00
import Derived.Test.YtemppijblfflgaaGreatDoorZa26
set_option linter.all false
set_option maxRecDepth 100000
set_option maxHeartbeats 8000000
namespace Go.Proofs.YtemppijblfflgaaGreatDoor.Ev
open Go Go.ChangeShapes Go.WideShapes Go.ChangeAt Go.RowKit
open Go.ChangeMaps (open_string shut_string)
namespace againLaw
theorem bears:fv Rows.againRow.laid:=by
 refine⟨?_,?_,?_,?_,?_,?_,?_,?_,?_,?_,?_,?_,?_,?_⟩<;>(unfold Rows.againRow;simp only[Bt,true_or,or_true])
theorem contract (H:Type) (enc:TypeId×Value→H) (W:World) (base:Nat) (args:Array Value) (ds gs:List (DataW H)) (before:List MemPlace)
  (mi:∀(j:Nat) t v,Tryz.f11.params[j]?=some t→args[j]?=some v→Value.okWide Tryz.prog W .any base t v)
  (hW:DataW.Whole enc Tryz.prog Tryz.f11.params.toList Rows.againSpec.vars false W args.toList ds gs before) (hL:laidMetH Tryz.prog Rows.againRow.laid W) (Fw:(DataW.weightsEach Tryz.prog (Tryz.f11.params.toList++(OpenSpec.ofChange Rows.againSpec).bare.plain.varTypes Tryz.prog) (ds++gs)).all (·≤reachBytes)=true):
  Calls Tryz.prog 11 args W fun e W'=>∃v,e= .returned v∧Rows.againSpec.post enc Tryz.prog Tryz.f11 false true false false W args v W':=by
 have hW':=hW
 obtain⟨p,q,Ny,hV,rfl,hfz,IZ⟩:=hW
 have hA:DataW.TrodAll enc Tryz.prog W 0 (fun _=>true) true Tryz.f11.params.toList args.toList ds p:=Ny
 rw[Tryz.params11]at hA mi Fw
 obtain⟨v0,v1,d0,d1,p0,p1,rfl,rfl,rfl,h0,h1⟩:=trodAll_two hA
 obtain⟨x0,rfl,rfl,rfl,tj⟩:=open_string JB (mi 0 9 v0 rfl rfl) h0
 obtain⟨Ahe,Bi⟩:=lQ Lx IP (by kernel_rfl) (mi 1 22 v1 rfl rfl) h1
 obtain⟨ea,he,ho⟩:=wm hL bears
 obtain⟨gx,hwd⟩:=kc hL bears (by unfold Rows.againRow;simp only[Bt,true_or,or_true])
 have htb:=uo hL bears (by unfold Rows.againRow;simp only[Bt,true_or,or_true])
 refine(cZ ⟨he,ho,hwd⟩ htb (s:=x0.data.toList) (by have:=sized_string Fw (j:=0) (t:=9) rfl rfl;unfold reachBytes at this;exact this) Bi).mono fun e W' ⟨h8,h9⟩=>?_
 subst h8
 exact⟨_,rfl,gY lN rfl hW' (fun xU hd=>by
  obtain⟨a0,a1,rfl⟩:∃a0 a1,xU=[a0,a1]:=by
   match xU,hd with
   | [a0,a1],_=>exact⟨a0,a1,rfl⟩
  rfl) rfl Tryz.underlying4 (by
   intro t ht
   rw[Tryz.params11]at ht
   have ht:t∈([9,22]:List TypeId):=ht
   rcases Bt.1 ht with rfl|ht
   ·exact⟨by kernel_rfl,GA (by kernel_rfl)⟩
   rcases Bt.1 ht with rfl|ht
   ·exact⟨by kernel_rfl,GA (by kernel_rfl)⟩
   cases ht) h9⟩
theorem laid_met (os:Os):laidMetH Tryz.prog Rows.againRow.laid ((OB os).forCall (fun _ _=>0) ⟨#[],#[.string ⟨#[]⟩,.slice none 0 0],[]⟩).memory:=
 laidMetH_of_parts (LaidIn.of_run (List.range 1000) 8 (by kernel_rfl) (by kernel_rfl) (by kernel_rfl) (by kernel_rfl)).met (by kernel_rfl)
theorem witness_row (os:Os) {H:Type} (enc:TypeId×Value→H):
  (OpenSpec.ofChange Rows.againSpec).preRow enc Tryz.prog Tryz.f11 Rows.againRow.domain false Rows.againRow.laid ((OB os).forCall (fun _ _=>0) ⟨#[],#[.string ⟨#[]⟩,.slice none 0 0],[]⟩).memory #[.string ⟨#[]⟩,.slice none 0 0]:=by
 have hw:(DataW.whole enc Tryz.prog ((OB os).forCall (fun _ _=>0) ⟨#[],#[.string ⟨#[]⟩,.slice none 0 0],[]⟩).memory Tryz.f11.params.toList (OpenSpec.ofChange Rows.againSpec).vars false (#[.string ⟨#[]⟩,.slice none 0 0]:Array Value).toList 8).map (fun x=>(x.1,x.2.1))=
   some ([.lit (.string []),.nil],[]):=by kernel_rfl
 obtain⟨⟨x1,x2,x3⟩,hx,RE⟩:=Bj.1 hw
 simp only[Yc]at RE
 obtain⟨rfl,rfl⟩:=RE
 exact OpenSpec.preRow_of_cond 8 hx (by kernel_rfl) (fun k hk=>by cases hk) (by kernel_rfl) (laid_met os)
theorem lifted (os:Os) (WU:os.Started) (H:Type) (enc:TypeId×Value→H) (F:Stop.Interp):
  ReturnsInHanded {} Tryz.checked os 11 .any ((OpenSpec.ofChange Rows.againSpec).preRow enc Tryz.prog Tryz.f11 Rows.againRow.domain false Rows.againRow.laid) (((OpenSpec.ofChange Rows.againSpec).at F).post enc Tryz.prog Tryz.f11 false true false false):=by
 refine returnsInHanded_of_row (C:=Tryz.checked) (s:=OpenSpec.ofChange Rows.againSpec) lu WU (by kernel_rfl) jV
  (witness_row_atRef (enc:=enc) (C:=Tryz.checked) false (OB os) #[.string ⟨#[]⟩,.slice none 0 0] rfl (by kernel_rfl) (by kernel_rfl) (by kernel_rfl) (witness_row os enc)) ?_
 intro W base args ds gs before mi hW _ _ Fw hL _ _
 exact contract H enc W base args ds gs before mi hW hL Fw
theorem said:Rows.AgainSaid:=
 OpenClaim.holds_of_cond 11 Tryz.f11 rfl rfl rfl rfl rfl rfl rfl ⟨rfl,rfl,rfl,rfl,rfl⟩ rfl rfl rfl rfl rfl (by kernel_rfl) jV (by kernel_rfl)
  (GA (by kernel_rfl)) (by unfold Func.isWrapper;first|(rw[Ak (by decide+kernel)];kernel_rfl)|(rw[Ad (by decide+kernel)];exact⟨rfl,rfl⟩))
  (fun os WU H enc _ F=>by rw[OpenClaim.pre_eq_preRow];exact lifted os WU H enc F)
theorem plain (f:FuncId) (fn:Func) (hf:Tryz.pinned.checked.prog.funcNamed "evictor/evictorlaw.Again" =some f) (hfn:Tryz.pinned.checked.prog.funcs[f]?=some fn):
  true=Tryz.pinned.checked.prog.looks []∧∀(j:Nat) t,fn.params[j]?=some t→Tryz.pinned.checked.prog.wantsStandIn t=false:=by
 obtain rfl:f=11:=Ds ((show Tryz.prog.funcNamed "evictor/evictorlaw.Again" =some 11 by kernel_rfl).symm.trans hf) |>.symm
 obtain rfl:fn=Tryz.f11:=(Ds (jV.symm.trans hfn)).symm
 refine⟨by kernel_rfl,fun j t ht=>?_⟩
 rw[Tryz.params11]at ht
 have ht:t∈([9,22]:List TypeId):=(Array.mem_of_getElem? ht).1
 rcases Bt.1 ht with rfl|ht
 ·exact(show Tryz.prog.wantsStandIn 9=false by kernel_rfl)
 rcases Bt.1 ht with rfl|ht
 ·exact(show Tryz.prog.wantsStandIn 22=false by kernel_rfl)
 cases ht
theorem proved:Rows.AgainCardSaid:=
 Claim7.holds_tied_plain_at .later [] _ _ _ _ said (fun _ h=>by cases h) (by kernel_rfl) (fun _ h=>by cases h) again_row_tie rfl ⟨rfl,rfl⟩ (by kernel_rfl) rfl plain (by kernel_rfl)
end againLaw
end Go.Proofs.YtemppijblfflgaaGreatDoor.Ev
