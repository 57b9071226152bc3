/- Conserved: for every input the law returns true. Conditions: none. -/
import Derived.SevenTiedAt
import Derived.Test.YtepoejiigmhlbaaGreatDoorZc19
set_option linter.all false
namespace Go.Proofs.YtepoejiigmhlbaaGreatDoor.Ev
open Go Go.ChangeShapes Go.WideShapes Go.ChangeAt Go.RowKit
open Go.ChangeMaps (open_string shut_string)
namespace conservedLaw
theorem bears:Bears Rows.conservedRow.laid:=by
 refine⟨?_,?_,?_,?_,?_,?_,?_,?_,?_,?_,?_,?_,?_,?_⟩<;>(unfold Rows.conservedRow;simp only[List.mem_cons,true_or,or_true])
set_option maxRecDepth 100000 in
theorem contract (H:Type) (enc:TypeId×Value→H) (W:World) (base:Nat) (args:Array Value) (ds gs:List (DataW H)) (before:List MemPlace)
  (hval:∀(j:Nat) t v,Tryz.f3.params[j]?=some t→args[j]?=some v→Value.okWide Tryz.prog W .any base t v)
  (hW:DataW.Whole enc Tryz.prog Tryz.f3.params.toList Rows.conservedSpec.vars false W args.toList ds gs before) (hL:laidMetH Tryz.prog Rows.conservedRow.laid W):
  Calls Tryz.prog 3 args W fun e W'=>∃v,e= .returned v∧Rows.conservedSpec.post enc Tryz.prog Tryz.f3 false true false false W args v W':=by
 have hW':=hW
 obtain⟨p,q,hA0,hV,rfl,hfz,hnd⟩:=hW
 have hA:DataW.TrodAll enc Tryz.prog W 0 (fun _=>true) true Tryz.f3.params.toList args.toList ds p:=hA0
 rw[Tryz.params3]at hA hval
 obtain⟨v0,v1,d0,d1,p0,p1,rfl,rfl,rfl,h0,h1⟩:=trodAll_two hA
 obtain⟨x0,rfl,rfl,rfl,hb0⟩:=open_string Tryz.underlying9 (hval 0 9 v0 rfl rfl) h0
 obtain⟨keys1,hk1⟩:=keysR_of Tryz.underlying22 Tryz.underlying32 (by kernel_rfl) (hval 1 22 v1 rfl rfl) h1
 obtain⟨ea,he,ho⟩:=env_of hL bears
 have htb:=tab_of hL bears (by unfold Rows.conservedRow;simp only[List.mem_cons,true_or,or_true])
 refine(cons_walk he ho htb (s:=x0.data.toList) hk1).mono fun e W' ⟨h8,h9⟩=>?_
 subst h8
 exact⟨_,rfl,post_true laidOut_ rfl hW' (fun ds' hd=>by
  obtain⟨a0,a1,rfl⟩:∃a0 a1,ds'=[a0,a1]:=by
   match ds',hd with
   | [a0,a1],_=>exact⟨a0,a1,rfl⟩
  rfl) rfl Tryz.underlying4 (by
   intro t ht
   rw[Tryz.params3]at ht
   have ht:t∈([9,22]:List TypeId):=ht
   rcases List.mem_cons.1 ht with rfl|ht
   ·exact⟨by kernel_rfl,of_decide_eq_true (by kernel_rfl)⟩
   rcases List.mem_cons.1 ht with rfl|ht
   ·exact⟨by kernel_rfl,of_decide_eq_true (by kernel_rfl)⟩
   cases ht) h9⟩
theorem laid_met (os:Os):laidMetH Tryz.prog Rows.conservedRow.laid ((laidWorld os).forCall (fun _ _=>0) ⟨#[],#[.string ⟨#[]⟩,.slice none 0 0],[]⟩).memory:=
 laidMetH_of_parts (LaidIn.of_run (List.range 1000) 8 (by kernel_rfl) (by kernel_rfl) (by kernel_rfl) (by kernel_rfl)).met (by kernel_rfl)
theorem witness_row (os:Os) {H:Type} (enc:TypeId×Value→H):
  (OpenSpec.ofChange Rows.conservedSpec).preRow enc Tryz.prog Tryz.f3 Rows.conservedRow.domain false Rows.conservedRow.laid ((laidWorld os).forCall (fun _ _=>0) ⟨#[],#[.string ⟨#[]⟩,.slice none 0 0],[]⟩).memory #[.string ⟨#[]⟩,.slice none 0 0]:=by
 have hw:(DataW.whole enc Tryz.prog ((laidWorld os).forCall (fun _ _=>0) ⟨#[],#[.string ⟨#[]⟩,.slice none 0 0],[]⟩).memory Tryz.f3.params.toList (OpenSpec.ofChange Rows.conservedSpec).vars false (#[.string ⟨#[]⟩,.slice none 0 0]:Array Value).toList 8).map (fun x=>(x.1,x.2.1))=
   some ([.lit (.string []),.nil],[]):=by kernel_rfl
 obtain⟨⟨x1,x2,x3⟩,hx,hx1⟩:=Option.map_eq_some_iff.1 hw
 simp only[Prod.mk.injEq]at hx1
 obtain⟨rfl,rfl⟩:=hx1
 exact OpenSpec.preRow_of_cond 8 hx (by kernel_rfl) (fun k hk=>by cases hk) (by kernel_rfl) (laid_met os)
set_option maxRecDepth 100000 in
theorem lifted (os:Os) (started:os.Started) (H:Type) (enc:TypeId×Value→H) (F:Stop.Interp):
  ReturnsInHanded {} Tryz.checked os 3 .any ((OpenSpec.ofChange Rows.conservedSpec).preRow enc Tryz.prog Tryz.f3 Rows.conservedRow.domain false Rows.conservedRow.laid) (((OpenSpec.ofChange Rows.conservedSpec).at F).post enc Tryz.prog Tryz.f3 false true false false):=by
 refine returnsInHanded_of_row (C:=Tryz.checked) (s:=OpenSpec.ofChange Rows.conservedSpec) ownKnob_ started (by kernel_rfl) Tryz.func3
  (witness_row_atRef (enc:=enc) (C:=Tryz.checked) false (laidWorld os) #[.string ⟨#[]⟩,.slice none 0 0] rfl (by kernel_rfl) (by kernel_rfl) (by kernel_rfl) (witness_row os enc)) ?_
 intro W base args ds gs before hval hW _ _ _ hL _ _
 exact contract H enc W base args ds gs before hval hW hL
theorem said:Rows.ConservedSaid:=
 OpenClaim.holds_of_cond 3 Tryz.f3 rfl rfl rfl rfl rfl rfl rfl ⟨rfl,rfl,rfl,rfl,rfl⟩ rfl rfl rfl rfl rfl (by kernel_rfl) Tryz.func3 (by kernel_rfl)
  (of_decide_eq_true (by kernel_rfl)) (by unfold Func.isWrapper;first|(rw[if_pos (by decide+kernel)];kernel_rfl)|(rw[if_neg (by decide+kernel)];exact⟨rfl,rfl⟩))
  (fun os started H enc _ F=>by rw[OpenClaim.pre_eq_preRow];exact lifted os started H enc F)
theorem plain (f:FuncId) (fn:Func) (hf:Tryz.pinned.checked.prog.funcNamed "evictor/evictorkeep.Conserved" =some f) (hfn:Tryz.pinned.checked.prog.funcs[f]?=some fn):
  true=Tryz.pinned.checked.prog.looks []∧∀(j:Nat) t,fn.params[j]?=some t→Tryz.pinned.checked.prog.wantsStandIn t=false:=by
 obtain rfl:f=3:=Option.some.inj ((show Tryz.prog.funcNamed "evictor/evictorkeep.Conserved" =some 3 by kernel_rfl).symm.trans hf)|>.symm
 obtain rfl:fn=Tryz.f3:=(Option.some.inj (Tryz.func3.symm.trans hfn)).symm
 refine⟨by kernel_rfl,fun j t ht=>?_⟩
 rw[Tryz.params3]at ht
 have ht:t∈([9,22]:List TypeId):=(Array.mem_of_getElem? ht).1
 rcases List.mem_cons.1 ht with rfl|ht
 ·exact(show Tryz.prog.wantsStandIn 9=false by kernel_rfl)
 rcases List.mem_cons.1 ht with rfl|ht
 ·exact(show Tryz.prog.wantsStandIn 22=false by kernel_rfl)
 cases ht
theorem proved:Rows.ConservedCardSaid:=
 Claim7.holds_tied_plain_at .later [] _ _ _ _ said (fun _ h=>by cases h) (by kernel_rfl) (fun _ h=>by cases h) conserved_row_tie rfl ⟨rfl,rfl⟩ (by kernel_rfl) rfl plain (by kernel_rfl)
end conservedLaw
end Go.Proofs.YtepoejiigmhlbaaGreatDoor.Ev
