/- Accesses: for every input the law returns true. Conditions: none. -/
import Derived.Test.YtepoejiigmhlbaaGreatDoorZa29
set_option linter.all false
set_option maxRecDepth 100000
set_option maxHeartbeats 8000000
namespace Go.Proofs.YtepoejiigmhlbaaGreatDoor.Ev
open _root_.Go.Proofs.Tryz
open Go Go.ChangeShapes Go.WideShapes Go.ChangeAt Go.RowKit
open Go.ChangeMaps (open_string shut_string)
namespace accessesLaw
theorem bears:de Rows.accessesRow.laid:=by
 refine⟨?_,?_,?_,?_,?_,?_,?_,?_,?_,?_,?_,?_,?_,?_⟩<;>(unfold Rows.accessesRow;simp only[A3,sU,sV])
theorem contract (H:Type) (enc:TypeId×Value→H) (W:World) (base:Nat) (args:Array Value) (ds gs:List (DataW H)) (before:List MemPlace)
  (hval:∀(j:Nat) t v,Tryz.f4.params[j]?=some t→args[j]?=some v→Value.okWide Tryz.prog W .any base t v)
  (hW:DataW.Whole enc Tryz.prog Tryz.f4.params.toList Rows.accessesSpec.vars false W args.toList ds gs before) (hL:laidMetH Tryz.prog Rows.accessesRow.laid W) (hsz:(DataW.weightsEach Tryz.prog (Tryz.f4.params.toList++(OpenSpec.ofChange Rows.accessesSpec).bare.plain.varTypes Tryz.prog) (ds++gs)).all (·≤reachBytes)=true):
  Calls Tryz.prog 4 args W fun e W'=>∃v,e= .returned v∧Rows.accessesSpec.post enc Tryz.prog Tryz.f4 false true false false W args v W':=by
 have hW':=hW
 obtain⟨p,q,hA0,hV,rfl,hfz,hnd⟩:=hW
 have hA:DataW.TrodAll enc Tryz.prog W 0 (fun _=>true) true Tryz.f4.params.toList args.toList ds p:=hA0
 rw[Tryz.params4]at hA hval hsz
 obtain⟨v0,d0,rfl,rfl,h0⟩:=trodAll_one hA
 obtain⟨l0,hs0⟩:=Xs (hval 0 44 v0 rfl rfl) h0 (fun n hn=>by have:=List.all_eq_true.1 hsz _ (DataW.weights_mem_each (j:=0) (t:=44) rfl rfl n hn);simpa using this)
 obtain⟨ea,he,ho⟩:=qI hL bears
 obtain⟨gx,hwd⟩:=ZH hL bears (by unfold Rows.accessesRow;simp only[A3,sU,sV])
 have htb:=oe hL bears (by unfold Rows.accessesRow;simp only[A3,sU,sV])
 refine(WY ⟨he,ho,hwd⟩ htb hs0).mono fun e W' ⟨h8,h9⟩=>?_
 subst h8
 exact⟨_,rfl,Xz aS rfl hW' (fun ds' hd=>by
  obtain⟨a0,rfl⟩:∃a0,ds'=[a0]:=by
   match ds',hd with
   | [a0],_=>exact⟨a0,rfl⟩
  rfl) rfl Tryz.underlying4 (by
   intro t ht
   rw[Tryz.params4]at ht
   have ht:t∈([44]:List TypeId):=ht
   rcases A3.1 ht with rfl|ht
   ·exact⟨by kernel_rfl,E9 (by kernel_rfl)⟩
   cases ht) h9⟩
theorem laid_met (os:Os):laidMetH Tryz.prog Rows.accessesRow.laid ((IU os).forCall (fun _ _=>0) ⟨#[],#[.slice none 0 0],[]⟩).memory:=
 laidMetH_of_parts (LaidIn.of_run (List.range 1000) 8 (by kernel_rfl) (by kernel_rfl) (by kernel_rfl) (by kernel_rfl)).met (by kernel_rfl)
theorem witness_row (os:Os) {H:Type} (enc:TypeId×Value→H):
  (OpenSpec.ofChange Rows.accessesSpec).preRow enc Tryz.prog Tryz.f4 Rows.accessesRow.domain false Rows.accessesRow.laid ((IU os).forCall (fun _ _=>0) ⟨#[],#[.slice none 0 0],[]⟩).memory #[.slice none 0 0]:=by
 have hw:(DataW.whole enc Tryz.prog ((IU os).forCall (fun _ _=>0) ⟨#[],#[.slice none 0 0],[]⟩).memory Tryz.f4.params.toList (OpenSpec.ofChange Rows.accessesSpec).vars false (#[.slice none 0 0]:Array Value).toList 8).map (fun x=>(x.1,x.2.1))=
   some ([.nil],[]):=by kernel_rfl
 obtain⟨⟨x1,x2,x3⟩,hx,hx1⟩:=A7.1 hw
 simp only[Sv]at hx1
 obtain⟨rfl,rfl⟩:=hx1
 exact OpenSpec.preRow_of_cond 8 hx (by kernel_rfl) (fun k hk=>by cases hk) (by kernel_rfl) (laid_met os)
theorem lifted (os:Os) (started:os.Started) (H:Type) (enc:TypeId×Value→H) (F:Stop.Interp):
  ReturnsInHanded {} Tryz.checked os 4 .any ((OpenSpec.ofChange Rows.accessesSpec).preRow enc Tryz.prog Tryz.f4 Rows.accessesRow.domain false Rows.accessesRow.laid) (((OpenSpec.ofChange Rows.accessesSpec).at F).post enc Tryz.prog Tryz.f4 false true false false):=by
 refine returnsInHanded_of_row (C:=Tryz.checked) (s:=OpenSpec.ofChange Rows.accessesSpec) aF started (by kernel_rfl) wN
  (witness_row_atRef (enc:=enc) (C:=Tryz.checked) false (IU os) #[.slice none 0 0] rfl (by kernel_rfl) (by kernel_rfl) (by kernel_rfl) (witness_row os enc)) ?_
 intro W base args ds gs before hval hW _ _ hsz hL _ _
 exact contract H enc W base args ds gs before hval hW hL hsz
theorem said:Rows.AccessesSaid:=
 OpenClaim.holds_of_cond 4 Tryz.f4 rfl rfl rfl rfl rfl rfl rfl ⟨rfl,rfl,rfl,rfl,rfl⟩ rfl rfl rfl rfl rfl (by kernel_rfl) wN (by kernel_rfl)
  (E9 (by kernel_rfl)) (by unfold Func.isWrapper;first|(rw[Al (by decide+kernel)];kernel_rfl)|(rw[Ai (by decide+kernel)];exact⟨rfl,rfl⟩))
  (fun os started H enc _ F=>by rw[OpenClaim.pre_eq_preRow];exact lifted os started H enc F)
theorem plain (f:FuncId) (fn:Func) (hf:Tryz.pinned.checked.prog.funcNamed "evictor/evictorlaw.Accesses" =some f) (hfn:Tryz.pinned.checked.prog.funcs[f]?=some fn):
  true=Tryz.pinned.checked.prog.looks []∧∀(j:Nat) t,fn.params[j]?=some t→Tryz.pinned.checked.prog.wantsStandIn t=false:=by
 obtain rfl:f=4:=Cn ((show Tryz.prog.funcNamed "evictor/evictorlaw.Accesses" =some 4 by kernel_rfl).symm.trans hf)|>.symm
 obtain rfl:fn=Tryz.f4:=(Cn (wN.symm.trans hfn)).symm
 refine⟨by kernel_rfl,fun j t ht=>?_⟩
 rw[Tryz.params4]at ht
 have ht:t∈([44]:List TypeId):=(Array.mem_of_getElem? ht).1
 rcases A3.1 ht with rfl|ht
 ·exact(show Tryz.prog.wantsStandIn 44=false by kernel_rfl)
 cases ht
theorem proved:Rows.AccessesCardSaid:=
 xt .later [] _ _ _ _ said (fun _ h=>by cases h) (by kernel_rfl) (fun _ h=>by cases h) accesses_row_tie rfl ⟨rfl,rfl⟩ (by kernel_rfl) rfl plain (by kernel_rfl)
end accessesLaw
end Go.Proofs.YtepoejiigmhlbaaGreatDoor.Ev
