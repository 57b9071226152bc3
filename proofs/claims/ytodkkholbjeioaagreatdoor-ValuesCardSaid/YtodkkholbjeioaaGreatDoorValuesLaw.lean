/- Values: for every input the law returns true. Conditions: none. -/
import Derived.Test.YtodkkholbjeioaaGreatDoorZu29
import Derived.Test.YtodkkholbjeioaaGreatDoorZu30
set_option linter.all false
set_option maxRecDepth 100000
set_option maxHeartbeats 8000000
namespace Go.Proofs.YtodkkholbjeioaaGreatDoor.Ev
open _root_.Go.Proofs.Tryz
open Go Go.ChangeShapes Go.WideShapes Go.ChangeAt Go.RowKit
open Go.ChangeMaps (open_string shut_string)
namespace valuesLaw
theorem bears:Ur Rows.valuesRow.laid:=by
 refine⟨?_,?_,?_,?_,?_,?_,?_,?_,?_,?_,?_,?_,?_,?_⟩<;>(unfold Rows.valuesRow;simp only[AA,J2,J4])
theorem contract (H:Type) (enc:TypeId×Value→H) (W:World) (base:Nat) (args:Array Value) (ds gs:List (DataW H)) (before:List MemPlace)
  (hval:∀(j:Nat) t v,Tryz.f6.params[j]?=some t→args[j]?=some v→Value.okWide Tryz.prog W .any base t v)
  (hW:DataW.Whole enc Tryz.prog Tryz.f6.params.toList Rows.valuesSpec.vars false W args.toList ds gs before) (hL:laidMetH Tryz.prog Rows.valuesRow.laid W) (hsz:(DataW.weightsEach Tryz.prog (Tryz.f6.params.toList++(OpenSpec.ofChange Rows.valuesSpec).bare.plain.varTypes Tryz.prog) (ds++gs)).all (·≤reachBytes)=true):
  Calls Tryz.prog 6 args W fun e W'=>∃v,e= .returned v∧Rows.valuesSpec.post enc Tryz.prog Tryz.f6 false true false false W args v W':=by
 have hW':=hW
 obtain⟨p,q,hA0,hV,rfl,hfz,hnd⟩:=hW
 have hA:DataW.TrodAll enc Tryz.prog W 0 (fun _=>true) true Tryz.f6.params.toList args.toList ds p:=hA0
 rw[Tryz.params6]at hA hval hsz
 obtain⟨v0,d0,rfl,rfl,h0⟩:=WX hA
 obtain⟨l0,hs0⟩:=No (hval 0 22 v0 rfl rfl) h0 (fun n hn=>by have:=NE.1 hsz _ (IM (j:=0) (t:=22) rfl rfl n hn);simpa using this)
 obtain⟨ea,he,ho⟩:=Wn hL bears
 obtain⟨gx,hwd⟩:=OU hL bears (by unfold Rows.valuesRow;simp only[AA,J2,J4])
 have htb:=Vm hL bears (by unfold Rows.valuesRow;simp only[AA,J2,J4])
 refine(ab ⟨he,ho,hwd⟩ htb hs0).mono fun e W' ⟨h8,h9⟩=>?_
 subst h8
 exact⟨_,rfl,Ns Pk rfl hW' (fun ds' hd=>by
  obtain⟨a0,rfl⟩:∃a0,ds'=[a0]:=by
   match ds',hd with
   | [a0],_=>exact⟨a0,rfl⟩
  rfl) rfl ND (by
   intro t ht
   rw[Tryz.params6]at ht
   have ht:t∈([22]:List TypeId):=ht
   rcases AA.1 ht with rfl|ht
   ·exact⟨by kernel_rfl,Cm (by kernel_rfl)⟩
   cases ht) h9⟩
theorem laid_met (os:Os):laidMetH Tryz.prog Rows.valuesRow.laid ((C1 os).forCall (fun _ _=>0) ⟨#[],#[.slice none 0 0],[]⟩).memory:=
 Mn (S6 (List.range 1000) 8 (by kernel_rfl) (by kernel_rfl) (by kernel_rfl) (by kernel_rfl)).met (by kernel_rfl)
theorem witness_row (os:Os) {H:Type} (enc:TypeId×Value→H):
  (OpenSpec.ofChange Rows.valuesSpec).preRow enc Tryz.prog Tryz.f6 Rows.valuesRow.domain false Rows.valuesRow.laid ((C1 os).forCall (fun _ _=>0) ⟨#[],#[.slice none 0 0],[]⟩).memory #[.slice none 0 0]:=by
 have hw:(DataW.whole enc Tryz.prog ((C1 os).forCall (fun _ _=>0) ⟨#[],#[.slice none 0 0],[]⟩).memory Tryz.f6.params.toList (OpenSpec.ofChange Rows.valuesSpec).vars false (#[.slice none 0 0]:Array Value).toList 8).map (fun x=>(x.1,x.2.1))=
   some ([.nil],[]):=by kernel_rfl
 obtain⟨⟨x1,x2,x3⟩,hx,hx1⟩:=AU.1 hw
 simp only[Jf]at hx1
 obtain⟨rfl,rfl⟩:=hx1
 exact Ii 8 hx (by kernel_rfl) (fun k hk=>by cases hk) (by kernel_rfl) (laid_met os)
theorem lifted (os:Os) (started:os.Started) (H:Type) (enc:TypeId×Value→H) (F:Stop.Interp):
  ReturnsInHanded {} Tryz.checked os 6 .any ((OpenSpec.ofChange Rows.valuesSpec).preRow enc Tryz.prog Tryz.f6 Rows.valuesRow.domain false Rows.valuesRow.laid) (((OpenSpec.ofChange Rows.valuesSpec).at F).post enc Tryz.prog Tryz.f6 false true false false):=by
 refine IA (C:=Tryz.checked) (s:=OpenSpec.ofChange Rows.valuesSpec) Pa started (by kernel_rfl) xx
  (Mm (enc:=enc) (C:=Tryz.checked) false (C1 os) #[.slice none 0 0] rfl (by kernel_rfl) (by kernel_rfl) (by kernel_rfl) (witness_row os enc)) ?_
 intro W base args ds gs before hval hW _ _ hsz hL _ _
 exact contract H enc W base args ds gs before hval hW hL hsz
theorem said:Rows.ValuesSaid:=
 Ik 6 Tryz.f6 rfl rfl rfl rfl rfl rfl rfl ⟨rfl,rfl,rfl,rfl,rfl⟩ rfl rfl rfl rfl rfl (by kernel_rfl) xx (by kernel_rfl)
  (Cm (by kernel_rfl)) (by unfold Func.isWrapper;first|(rw[Al (by decide+kernel)];kernel_rfl)|(rw[Ai (by decide+kernel)];exact⟨rfl,rfl⟩))
  (fun os started H enc _ F=>by rw[Ij];exact lifted os started H enc F)
theorem plain (f:FuncId) (fn:Func) (hf:Tryz.pinned.checked.prog.funcNamed "evictor/evictorlaw.Values" =some f) (hfn:Tryz.pinned.checked.prog.funcs[f]?=some fn):
  true=Tryz.pinned.checked.prog.looks []∧∀(j:Nat) t,fn.params[j]?=some t→Tryz.pinned.checked.prog.wantsStandIn t=false:=by
 obtain rfl:f=6:=Bq ((show Tryz.prog.funcNamed "evictor/evictorlaw.Values" =some 6 by kernel_rfl).symm.trans hf)|>.symm
 obtain rfl:fn=Tryz.f6:=(Bq (xx.symm.trans hfn)).symm
 refine⟨by kernel_rfl,fun j t ht=>?_⟩
 rw[Tryz.params6]at ht
 have ht:t∈([22]:List TypeId):=(Jj ht).1
 rcases AA.1 ht with rfl|ht
 ·exact(show Tryz.prog.wantsStandIn 22=false by kernel_rfl)
 cases ht
theorem proved:Rows.ValuesCardSaid:=
 F0 .later [] _ _ _ _ said (fun _ h=>by cases h) (by kernel_rfl) (fun _ h=>by cases h) values_row_tie rfl ⟨rfl,rfl⟩ (by kernel_rfl) rfl plain (by kernel_rfl)
end valuesLaw
end Go.Proofs.YtodkkholbjeioaaGreatDoor.Ev
