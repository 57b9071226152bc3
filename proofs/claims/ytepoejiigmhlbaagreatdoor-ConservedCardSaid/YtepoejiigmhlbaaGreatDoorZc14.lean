/- Lemmas for a law's walk. Conditions: none. -/
import Derived.Laws.AppendOwnNone
import Derived.Deep.DrawnRows
import Derived.Deep.DeepCutAuto
import Derived.Deep.CutBlock
import Derived.Test.YtepoejiigmhlbaaGreatDoorZc01
import Derived.Test.YtepoejiigmhlbaaGreatDoorZc02
import Derived.Test.YtepoejiigmhlbaaGreatDoorZc03
import Derived.Test.YtepoejiigmhlbaaGreatDoorZc04
import Derived.Test.YtepoejiigmhlbaaGreatDoorZc13
set_option linter.all false
namespace Go.Proofs.YtepoejiigmhlbaaGreatDoor.Ev
open Go Go.RowKit Go.Extern.Stop Go.Stop Go.Extern
theorem as_valueOf27 (t:Addr) (w:World):(ReflectliteValue.unpack (.iface 56 (.pointer (some t)))).run Tryz.prog w
  = .ok (.agg #[.pointer (some ⟨21,56,none⟩),.pointer (some ⟨w.heap.size,0,none⟩),.int .u64 150]) (w.alloc (.cells #[.pointer (some t)] 56)):=by kernel_rfl
theorem as_type27 (a:Addr) (w:World):(ReflectliteValue.methodAny (ReflectliteValue.valueError "reflectlite.Value.Type" 0) (fun t _ _ _=>ReflectliteType.toType t) #[.agg #[.pointer (some ⟨21,56,none⟩),.pointer (some a),.int .u64 150]]).run Tryz.prog w
  = .ok (.iface 184 (.agg #[.pointer (some ⟨21,56,none⟩)])) w:=by kernel_rfl
theorem as_methodKind (h:Value) (w:World):(Go.method 439 184 (.agg #[h]) "Kind").run Tryz.prog w= .ok (184,h) w:=by kernel_rfl
theorem as_kind27 (w:World):((ReflectliteType.abiMethod fun t=>Functor.map (fun a:Nat=>Value.int IntKind.u8 (a:Int)) (Rtype.kind t)) #[.pointer (some ⟨21,56,none⟩)]).run Tryz.prog w= .ok (.int .u8 22) w:=by kernel_rfl
theorem as_kind25 (w:World):((ReflectliteType.abiMethod fun t=>Functor.map (fun a:Nat=>Value.int IntKind.u8 (a:Int)) (Rtype.kind t)) #[.pointer (some ⟨21,54,none⟩)]).run Tryz.prog w= .ok (.int .u8 22) w:=by kernel_rfl
theorem rlm (z:Sem Value) (f:TypeId→Addr→Nat→Nat→Sem Value) (v:Value):
  ReflectliteValue.method z f #[v]=(do match←ReflectliteValue.parts v with|none=>z|some (t,a,fl)=>f t a fl (fl%32)):=rfl
theorem as_parts27 (a:Addr) (w:World):(ReflectliteValue.parts (.agg #[.pointer (some ⟨21,56,none⟩),.pointer (some a),.int .u64 150])).run Tryz.prog w= .ok (some (56,a,150)) w:=by kernel_rfl
theorem as_isNil27 (a p:Addr) (W:World) (ha:W.cell? a=some (.pointer (some p))):
  (ReflectliteValue.method (ReflectliteValue.valueError "reflectlite.Value.IsNil" 0) ReflectliteValue.isNil #[.agg #[.pointer (some ⟨21,56,none⟩),.pointer (some a),.int .u64 150]]).run Tryz.prog W= .ok (.bool false) W:=by
 rw[rlm]
 simp only[Sem.run_bind,as_parts27,Result.andThen]
 simp[ReflectliteValue.isNil,loadVar,isAgg,underlying,Tryz.underlying56,ha,Result.andThen]
theorem as_methodElem (h:Value) (w:World):(Go.method 439 184 (.agg #[h]) "Elem").run Tryz.prog w= .ok (196,.agg #[h]) w:=by kernel_rfl
theorem as_methodImplements (h:Value) (w:World):(Go.method 439 184 (.agg #[h]) "Implements").run Tryz.prog w= .ok (197,.agg #[h]) w:=by kernel_rfl
theorem as_methodAssignableTo (h:Value) (w:World):(Go.method 439 184 (.agg #[h]) "AssignableTo").run Tryz.prog w= .ok (194,.agg #[h]) w:=by kernel_rfl
theorem as_elem27 (w:World):(ReflectliteType.method ReflectliteType.elem #[.agg #[.pointer (some ⟨21,56,none⟩)]]).run Tryz.prog w= .ok (.iface 184 (.agg #[.pointer (some ⟨21,54,none⟩)])) w:=by kernel_rfl
theorem as_implements25 (w:World):(ReflectliteType.relation "Implements" ReflectliteType.implements_ #[.agg #[.pointer (some ⟨21,54,none⟩)],.iface 184 (.agg #[.pointer (some ⟨21,51,none⟩)])]).run Tryz.prog w= .ok (.bool true) w:=by kernel_rfl
theorem as_typeOf25 (v:Value) (w:World):(ReflectliteType.typeOf #[.iface 54 v]).run Tryz.prog w= .ok (.iface 184 (.agg #[.pointer (some ⟨21,54,none⟩)])) w:=by kernel_rfl
theorem as_assignable25 (w:World):(ReflectliteType.relation "AssignableTo" ReflectliteType.assignableTo #[.agg #[.pointer (some ⟨21,54,none⟩)],.iface 184 (.agg #[.pointer (some ⟨21,54,none⟩)])]).run Tryz.prog w= .ok (.bool true) w:=by kernel_rfl
theorem as_valueOf25 (e:Addr) (w:World):(ReflectliteValue.unpack (.iface 54 (.pointer (some e)))).run Tryz.prog w
  = .ok (.agg #[.pointer (some ⟨21,54,none⟩),.pointer (some ⟨w.heap.size,0,none⟩),.int .u64 150]) (w.alloc (.cells #[.pointer (some e)] 54)):=by kernel_rfl
theorem as_elemOf27 (w:World):(Rtype.elem? 56).run Tryz.prog w= .ok (some 54) w:=by kernel_rfl
theorem as_mk25 (p:Addr) (w:World):(ReflectliteValue.mk 54 p ReflectliteValue.flagAddr).run Tryz.prog w= .ok (.agg #[.pointer (some ⟨21,54,none⟩),.pointer (some p),.int .u64 406]) w:=by kernel_rfl
theorem as_elemV27 (a p:Addr) (W:World) (ha:W.cell? a=some (.pointer (some p))):
  (ReflectliteValue.method (ReflectliteValue.valueError "reflectlite.Value.Elem" 0) ReflectliteValue.elem #[.agg #[.pointer (some ⟨21,56,none⟩),.pointer (some a),.int .u64 150]]).run Tryz.prog W
   = .ok (.agg #[.pointer (some ⟨21,54,none⟩),.pointer (some p),.int .u64 406]) W:=by
 rw[rlm]
 simp only[Sem.run_bind,as_parts27,Result.andThen]
 simp[ReflectliteValue.elem,loadVar,isAgg,underlying,Tryz.underlying56,ha,Result.andThen,as_elemOf27,as_mk25]
theorem rls (v x:Value):ReflectliteValue.set #[v,x]=(do
  let (some (dst,a,fl),some (src,b,_)):=(←ReflectliteValue.parts v,←ReflectliteValue.parts x)
   |unsupported (.noEntry "extern/(internal/reflectlite.Value).Set.zeroValue")
  if fl/ReflectliteValue.flagAddr%2==0 then unsupported (.noEntry "extern/(internal/reflectlite.Value).Set.unaddressable")
  let val←loadVar src b
  if←Rtype.directlyAssignable dst src then storeVar dst a val
  else if←Rtype.implements dst src then
   if(←Rtype.kind src)==20 then
    match val with
    | .nilIface=>unsupported (.noEntry "extern/reflectlite: a nil value of one interface type handed on as a value of another")
    |_=>storeVar dst a val
   else storeVar dst a (.iface src val)
  else panicString ("reflectlite.Set: value of type " ++(←Rtype.spelt src)++ " is not assignable to type " ++(←Rtype.spelt dst))
  pure (.tuple #[])):=rfl
theorem as_parts25a (a:Addr) (w:World):(ReflectliteValue.parts (.agg #[.pointer (some ⟨21,54,none⟩),.pointer (some a),.int .u64 406])).run Tryz.prog w= .ok (some (54,a,406)) w:=by kernel_rfl
theorem as_parts25 (a:Addr) (w:World):(ReflectliteValue.parts (.agg #[.pointer (some ⟨21,54,none⟩),.pointer (some a),.int .u64 150])).run Tryz.prog w= .ok (some (54,a,150)) w:=by kernel_rfl
theorem as_direct25 (w:World):(Rtype.directlyAssignable 54 54).run Tryz.prog w= .ok true w:=by kernel_rfl
theorem as_set25 (ta b e:Addr) (old:Value) (W:World) (hb:W.cell? b=some (.pointer (some e))) (ht:W.cell? ta=some old) (hf:W.frozen? ta=false):
  (ReflectliteValue.set #[.agg #[.pointer (some ⟨21,54,none⟩),.pointer (some ta),.int .u64 406],.agg #[.pointer (some ⟨21,54,none⟩),.pointer (some b),.int .u64 150]]).run Tryz.prog W
   = .ok (.tuple #[]) (W.setCell ta (.pointer (some e))):=by
 rw[rls]
 simp only[Sem.run_bind,as_parts25a,as_parts25,Result.andThen]
 simp[ReflectliteValue.flagAddr,loadVar,isAgg,underlying,Tryz.underlying54,hb,Result.andThen,as_direct25,storeVar,Value.cells,storeCells,Addr.add]
 rw[run_store Tryz.prog W ta _ _ (by rfl)]
 simp[ht,hf]
set_option maxHeartbeats 4000000 in
theorem as_hit (e t:Addr) (old:Value) (w:World) (hg:w.cell? ⟨2,0,none⟩=some (.iface 184 (.agg #[.pointer (some ⟨21,51,none⟩)]))) (ht0:w.cell? t=some old) (hf0:w.frozen? t=false):
  Calls Tryz.prog 20 #[.iface 54 (.pointer (some e)),.iface 56 (.pointer (some t))] w fun ev w'=>ev= .returned (.bool true)∧w'=((((w.alloc (.cells #[.pointer (some t)] 56)).alloc (.cells #[.pointer (some ⟨21,56,none⟩),.pointer (some ⟨w.heap.size,0,none⟩),.int .u64 150] 109)).alloc (.cells #[.pointer (some ⟨21,56,none⟩),.pointer (some ⟨w.heap.size,0,none⟩),.int .u64 150] 109)).alloc (.cells #[.pointer (some e)] 54)).setCell t (.pointer (some e)):=by
 have h6:=@run_callFunc_extern Tryz.prog 40 _ (fun args=>ReflectliteValue.unpack (args.getD 0 (.tuple #[]))) Tryz.func40 (by kernel_rfl) (by kernel_rfl) (by kernel_rfl) (by kernel_rfl)
 have h7:=@run_callFunc_extern Tryz.prog 41 _ (ReflectliteValue.methodAny (ReflectliteValue.valueError "reflectlite.Value.Type" 0) (fun t _ _ _=>ReflectliteType.toType t)) Tryz.func41 (by kernel_rfl) (by kernel_rfl) (by kernel_rfl) (by kernel_rfl)
 have h8:=@run_callFunc_extern Tryz.prog 42 _ (ReflectliteValue.method (ReflectliteValue.valueError "reflectlite.Value.IsNil" 0) ReflectliteValue.isNil) Tryz.func42 (by kernel_rfl) (by kernel_rfl) (by kernel_rfl) (by kernel_rfl)
 have h27:=@run_callFunc_extern Tryz.prog 184 _ (ReflectliteType.abiMethod fun t=>do pure (.int .u8 (←Rtype.kind t))) Tryz.func184 (by kernel_rfl) (by kernel_rfl) (by kernel_rfl) (by kernel_rfl)
 have h37:=@run_callFunc_extern Tryz.prog 196 _ (ReflectliteType.method ReflectliteType.elem) Tryz.func196 (by kernel_rfl) (by kernel_rfl) (by kernel_rfl) (by kernel_rfl)
 have h38:=@run_callFunc_extern Tryz.prog 197 _ (ReflectliteType.relation "Implements" ReflectliteType.implements_) Tryz.func197 (by kernel_rfl) (by kernel_rfl) (by kernel_rfl) (by kernel_rfl)
 have h10:=@run_callFunc_extern Tryz.prog 77 _ ReflectliteType.typeOf Tryz.func77 (by kernel_rfl) (by kernel_rfl) (by kernel_rfl) (by kernel_rfl)
 have h35:=@run_callFunc_extern Tryz.prog 194 _ (ReflectliteType.relation "AssignableTo" ReflectliteType.assignableTo) Tryz.func194 (by kernel_rfl) (by kernel_rfl) (by kernel_rfl) (by kernel_rfl)
 have h11:=@run_callFunc_extern Tryz.prog 78 _ (ReflectliteValue.method (ReflectliteValue.valueError "reflectlite.Value.Elem" 0) ReflectliteValue.elem) Tryz.func78 (by kernel_rfl) (by kernel_rfl) (by kernel_rfl) (by kernel_rfl)
 have h12:=@run_callFunc_extern Tryz.prog 79 _ ReflectliteValue.set Tryz.func79 (by kernel_rfl) (by kernel_rfl) (by kernel_rfl) (by kernel_rfl)
 have tO:=as_typeOf25
 have mA:=as_methodAssignableTo
 have a25:=as_assignable25
 have v25:=as_valueOf25
 have f6:=as_valueOf27
 have f7:=as_type27
 have mK:=as_methodKind
 have mE:=as_methodElem
 have mI:=as_methodImplements
 have k27:=as_kind27
 have k25:=as_kind25
 have e27:=as_elem27
 have i25:=as_implements25
 have n8:=as_isNil27 ⟨w.heap.size,0,none⟩ t ((w.alloc (.cells #[.pointer (some t)] 56)).alloc (.cells #[.pointer (some ⟨21,56,none⟩),.pointer (some ⟨w.heap.size,0,none⟩),.int .u64 150] 109)) (by simp)
 have hlt:2<w.heap.size:=World.block_lt_of_cell? w _ hg
 have hg2:((w.alloc (.cells #[.pointer (some t)] 56)).alloc (.cells #[.pointer (some ⟨21,56,none⟩),.pointer (some ⟨w.heap.size,0,none⟩),.int .u64 150] 109)).cell? ⟨2,0,none⟩=some (.iface 184 (.agg #[.pointer (some ⟨21,51,none⟩)])):=by
  rw[World.cell?_alloc_lt _ _ ⟨2,0,none⟩ (by simp;omega),World.cell?_alloc_lt _ _ ⟨2,0,none⟩ hlt];exact hg
 have htl:t.block<w.heap.size:=by
  rcases Nat.lt_or_ge t.block w.heap.size with h|h
  ·exact h
  ·simp[World.cell?,Array.getElem?_eq_none h]at ht0
 have el:=as_elemV27 ⟨w.heap.size,0,none⟩ t (((w.alloc (.cells #[.pointer (some t)] 56)).alloc (.cells #[.pointer (some ⟨21,56,none⟩),.pointer (some ⟨w.heap.size,0,none⟩),.int .u64 150] 109)).alloc (.cells #[.pointer (some ⟨21,56,none⟩),.pointer (some ⟨w.heap.size,0,none⟩),.int .u64 150] 109)) (by rw[World.cell?_alloc_lt _ _ ⟨w.heap.size,0,none⟩ (by simp;omega)];simp)
 have st:=as_set25 t ⟨w.heap.size+1+1+1,0,none⟩ e old ((((w.alloc (.cells #[.pointer (some t)] 56)).alloc (.cells #[.pointer (some ⟨21,56,none⟩),.pointer (some ⟨w.heap.size,0,none⟩),.int .u64 150] 109)).alloc (.cells #[.pointer (some ⟨21,56,none⟩),.pointer (some ⟨w.heap.size,0,none⟩),.int .u64 150] 109)).alloc (.cells #[.pointer (some e)] 54))
  (by rw[World.cell?_alloc_at _ _ _ _ (by simp)];rfl)
  (by rw[World.cell?_alloc_lt _ _ t (by simp;omega),World.cell?_alloc_lt _ _ t (by simp;omega),World.cell?_alloc_lt _ _ t (by simp;omega),World.cell?_alloc_lt _ _ t htl];exact ht0)
  (by rw[World.frozen?_alloc_old _ _ t (by simp;omega),World.frozen?_alloc_old _ _ t (by simp;omega),World.frozen?_alloc_old _ _ t (by simp;omega),World.frozen?_alloc_old _ _ t (Nat.ne_of_lt htl)];exact hf0)
 go_enter Tryz.func20,Tryz.ntmps20
 go_wp2
 refine wp_loop_rounds 1 ?_
 rw[rounds_succ]
 go_wp2
 go_ret
 exact⟨rfl,rfl⟩
end Go.Proofs.YtepoejiigmhlbaaGreatDoor.Ev
namespace Go.Proofs.YtepoejiigmhlbaaGreatDoor.Ev
open Go Go.RowKit
def Src (w:World) (size:Nat) (u:Value) (m:Nat) (news:List Value):Prop:=
 news.length=m*size∧((u= .slice none 0 0∧m=0)∨∃ad c,u= .slice (some ad) m c∧∀j x,news[j]?=some x→w.cell? (ad.add j)=some x)
section
variable {S:Nat→Prop} {w w':World} {e:TypeId} {size n m:Nat} {u v:Value} {xs news:List Value}
theorem Sl.src (h:Sl S w e size v n xs):Src w size v n xs:=by
 refine⟨h.1.1,?_⟩
 rcases h.1.2 with⟨h1,h0⟩|⟨g,cap,cur,rfl,_⟩
 ·exact .inl ⟨h1,h0⟩
 ·refine .inr ⟨_,_,rfl,fun j x hj=>?_⟩
  exact h.1.cells (g:=g) rfl j x hj
theorem Src.kept {T:Nat→Prop} (h:Src w size u m news) (hk:Kept T w w') (hT:∀ad n c,u= .slice (some ad) n c→¬T ad.block):Src w' size u m news:=by
 refine⟨h.1,?_⟩
 rcases h.2 with h2|⟨ad,c,rfl,h3⟩
 ·exact .inl h2
 ·refine .inr ⟨ad,c,rfl,fun j x hj=>?_⟩
  have hb:(ad.add j).block=ad.block:=by unfold Addr.add;split<;>rfl
  exact(hk.cell (p:=ad.add j) (by rw[hb];exact hT ad m c rfl)).trans (h3 j x hj)
theorem wp_appendS {P:Program} {ops:Array Oper} {rest:List Oper} {o:Oper} {a:Act} {Q:Exit→Act→World→Prop} {i:TypeInfo} {z:Value} {bytes:Nat} {t:TypeId} (ht:P.underlying t=some (.slice e)) (hi:P.info? e=some i) (hz:i.zero=some z)
  (hsize:i.size=size) (hby:i.bytes=bytes) (hzs:z.cells.size=size) (hsz:0<size) (h:Sl S w e size v n xs) (hS:S w.heap.size)
  (hgd:o.guard=none) (s x:Operand) (ho:o.op= .call {callee:=.builtin .append,args:=#[s,x],argTypes:=#[t,t]}) (hs:a.eval s=v)
  (hx:a.eval x=u) (hsrc:Src w size u m news) (h1:∀u∈news,u.oneCell'=true)
  (h63:n+m≤maxLen) (hbytes:(n+m)*bytes≤140737488355328)
  (hK:∀v' w',Sl S w' e size v' (n+m) (xs++news)→Kept (fun b=>v.ownBlock=some b∨w.heap.size≤b) w w'→(v'.ownBlock=v.ownBlock∨v'.ownBlock=some w.heap.size)→
   wpList P ops Q rest (a.put o.dst v') w'):wpList P ops Q (o::rest) a w:=by
 rcases hsrc.2 with⟨rfl,rfl⟩|⟨ad,c,rfl,hc⟩
 ·have hn:news=[]:=List.eq_nil_of_length_eq_zero (by simpa using hsrc.1)
  subst hn
  refine wpList_append_own_none hgd s x t ho 0 e i size ht hi v n xs hs h.1 hx ?_
  refine hK v w ?_ (Kept.refl _ _) (.inl rfl)
  rw[List.append_nil]
  exact h
 ·exact wp_append ht hi hz hsize hby hzs hsz h hS hgd s x ho hs ad m c news hx hsrc.1 hc h1 h63 hbytes (fun v' w' h2 h3 h4 _=>hK v' w' h2 h3 h4)
theorem Sl.later {T:Nat→Prop} (h:Sl S w e size v n xs) (hk:Kept T w w') (hT:∀b,T b→w.heap.size≤b):Sl S w' e size v n xs:=h.kept hk (fun g hg ht=>by have:=h.lt hg;have:=hT g ht;omega)
theorem Sl.src_lt (h:Sl S w e size v n xs):∀ad n c,v= .slice (some ad) n c→ad.block<w.heap.size:=fun ad n c e=>h.lt (by rw[e];rfl)
theorem Sl.nil_ (S:Nat→Prop) (w:World) (e:TypeId) (size:Nat):Sl S w e size (.slice none 0 0) 0 []:=⟨World.ownsRow_nil _ _ _ _,fun g hg=>by cases hg⟩
theorem run_copy {P:Program} {w0:World} {N:Nat} {i:TypeInfo} {z:Value} {bytes:Nat} {t ty:TypeId} (hk:Kept (fun b=>N≤b) w0 w) (hN:N≤w.heap.size) (hsrc:Src w0 size u m news) (hb:∀ad n c,u= .slice (some ad) n c→ad.block<N)
  (ht:P.underlying t=some (.slice e)) (hi:P.info? e=some i) (hz:i.zero=some z) (hsize:i.size=size) (hby:i.bytes=bytes) (hzs:z.cells.size=size) (hsz:0<size) (h1:∀u∈news,u.oneCell'=true)
  (h63:m≤maxLen) (hbytes:m*bytes≤140737488355328):
  ∃v' w',(Builtin.append_ #[t,t] ty #[.slice none 0 0,u]).run P w= .ok v' w'∧Sl (fun b=>w.heap.size≤b) w' e size v' m news∧Kept (fun b=>w.heap.size≤b) w w'∧Kept (fun b=>N≤b) w0 w':=by
 have hsrc':=hsrc.kept hk (fun ad n c hu hn=>by have:=hb ad n c hu;omega)
 rcases hsrc'.2 with⟨rfl,rfl⟩|⟨ad,c,rfl,hc⟩
 ·have hn:news=[]:=List.eq_nil_of_length_eq_zero (by simpa using hsrc.1)
  subst hn
  exact⟨_,_,run_append_owned_none (P:=P) (w:=w) 0 t ty e i size ht hi (.slice none 0 0) 0 [] (World.ownsRow_nil _ _ _ _),Sl.nil_ _ _ _ _,Kept.refl _ _,hk⟩
 ·obtain⟨v',w',hr,h2,h3,_,h5⟩:=run_append_own_at (P:=P) w 0 t ty e i z size bytes ht hi hz hsize hby hzs hsz (.slice none 0 0) 0 [] (World.ownsRow_nil _ _ _ _) ad m c news hsrc'.1 hc h1 (by omega) (by rw[Nat.zero_add];exact hbytes) (Nat.zero_le _)
  have hk2:Kept (fun b=>w.heap.size≤b) w w':=⟨h3.os,h3.tape,h3.output,h3.size,fun k hk=>h3.block k (by omega) (by simp[Value.ownBlock])⟩
  refine⟨v',w',hr,⟨by simpa using h2,fun g hg=>?_⟩,hk2,hk.trans (hk2.mono (fun b hb=>Nat.le_trans hN hb))⟩
  rcases h5 with h5|h5
  ·rw[h5]at hg;cases hg
  ·rw[h5]at hg
   injection hg with hg
   exact hg▸Nat.le_refl _
theorem step_copy {P:Program} {ops:Array Oper} {o:Oper} {a:Act} {K:Act→World→Prop} {Q:Exit→Act→World→Prop} {E:Prop} {w0:World} {N:Nat} {i:TypeInfo} {z:Value} {bytes:Nat} {t:TypeId}
  (hk:Kept (fun b=>N≤b) w0 w) (hN:N≤w0.heap.size) (hsrc:Src w0 size u m news) (hb:∀ad n c,u= .slice (some ad) n c→ad.block<N)
  (ht:P.underlying t=some (.slice e)) (hi:P.info? e=some i) (hz:i.zero=some z) (hsize:i.size=size) (hby:i.bytes=bytes) (hzs:z.cells.size=size) (hsz:0<size) (h1:∀u∈news,u.oneCell'=true)
  (h63:m≤maxLen) (hbytes:m*bytes≤140737488355328) (hgd:o.guard=none) (s x:Operand) (ho:o.op= .call {callee:=.builtin .append,args:=#[s,x],argTypes:=#[t,t]}) (hs:a.eval s= .slice none 0 0) (hx:a.eval x=u)
  (hK:∀a' c' w',Sl (fun b=>w.heap.size≤b) w' e size (.slice a' m c') m news→Kept (fun b=>w.heap.size≤b) w w'→Kept (fun b=>N≤b) w0 w'→K (a.put o.dst (.slice a' m c')) w'):if Region.wanted o (yielded ops a.tmps)=true then Oper.wp P o a w K Q else E:=by
 have hw:Region.wanted o (yielded ops a.tmps)=true:=by simp[Region.wanted,hgd]
 rw[if_pos hw]
 obtain⟨v',w',hr,h2,h3,h4⟩:=run_copy (P:=P) (ty:=o.type) hk (Nat.le_trans hN hk.size) hsrc hb ht hi hz hsize hby hzs hsz h1 h63 hbytes
 unfold Oper.wp execOp
 simp only[ho,resolve,invoke,builtin,Sem.run_bind,Sem.run_pure,Result.andThen_ok,List.map_toArray,List.map_cons,List.map_nil,hs,hx,hr]
 obtain⟨a',c',rfl⟩:∃a' c',v'= .slice a' m c':=by
  rcases h2.1.2 with⟨e1,e2⟩|⟨g,cap,cur,e1,_⟩
  ·exact⟨none,0,by rw[e1,e2]⟩
  ·exact⟨_,_,e1⟩
 exact hK a' c' w' h2 h3 h4
end
end Go.Proofs.YtepoejiigmhlbaaGreatDoor.Ev
namespace Go.Proofs.YtepoejiigmhlbaaGreatDoor.Ev
open Go Go.RowKit
structure ErrObj (B:Nat) (ea:Nat→Addr) (w:World):Prop where
 obj:∀k,1≤k→k≤12→∃(cs:Array Value) (t:TypeId),w.heap[(ea k).block]?=some (.cells cs t (0,0))
 lt:∀k,1≤k→k≤12→(ea k).block<B
 inj:∀j k,1≤j→j≤12→1≤k→k≤12→ea j=ea k→j=k
 typ:w.cell? ⟨2,0,none⟩=some (.iface 184 (.agg #[.pointer (some ⟨21,51,none⟩)]))
 typlt:2<B
theorem ErrObj.kept {B:Nat} {ea:Nat→Addr} {w w':World} (h:ErrObj B ea w) {S:Nat→Prop} (hk:Kept S w w') (hS:∀b,S b→B≤b):ErrObj B ea w':=by
 refine⟨fun k h1 h2=>?_,h.lt,h.inj,?_,h.typlt⟩
 ·obtain⟨cs,t,hc⟩:=h.obj k h1 h2
  exact⟨cs,t,(hk.block _ (fun hs=>by have:=hS _ hs;have:=h.lt k h1 h2;omega)).trans hc⟩
 ·exact(hk.cell (p:=⟨2,0,none⟩) (fun hs=>by have:=hS _ hs;have:=h.typlt;simp only at*;omega)).trans h.typ
def encPair (ea:Nat→Addr) (k:Nat):List Value:=[errV ea k,.int .i64 k]
def numKeys:List Nat:=[1,2,3,4,5,6,7,8,9,10,11,12]
section
variable {B:Nat} {ea:Nat→Addr} {w:World}
set_option maxRecDepth 100000 in
set_option maxHeartbeats 4000000 in
theorem numbers_any (he:Env B ea w):Calls Tryz.prog 44 #[] w fun e w'=>
  e= .returned (.slice (some ⟨w.heap.size,0,none⟩) 12 12)∧w'=w.alloc (.cells (numKeys.flatMap (encPair ea)).toArray 121):=by
 have e1:w.cell? ⟨0,0,none⟩=some (errV ea 1):=he.err 1 (by omega) (by omega)
 have e2:w.cell? ⟨7,0,none⟩=some (errV ea 2):=he.err 2 (by omega) (by omega)
 have e3:w.cell? ⟨8,0,none⟩=some (errV ea 3):=he.err 3 (by omega) (by omega)
 have e4:w.cell? ⟨4,0,none⟩=some (errV ea 4):=he.err 4 (by omega) (by omega)
 have e5:w.cell? ⟨9,0,none⟩=some (errV ea 5):=he.err 5 (by omega) (by omega)
 have e6:w.cell? ⟨10,0,none⟩=some (errV ea 6):=he.err 6 (by omega) (by omega)
 have e7:w.cell? ⟨11,0,none⟩=some (errV ea 7):=he.err 7 (by omega) (by omega)
 have e8:w.cell? ⟨6,0,none⟩=some (errV ea 8):=he.err 8 (by omega) (by omega)
 have e9:w.cell? ⟨5,0,none⟩=some (errV ea 9):=he.err 9 (by omega) (by omega)
 have e10:w.cell? ⟨1,0,none⟩=some (errV ea 10):=he.err 10 (by omega) (by omega)
 have e11:w.cell? ⟨12,0,none⟩=some (errV ea 11):=he.err 11 (by omega) (by omega)
 have e12:w.cell? ⟨13,0,none⟩=some (errV ea 12):=he.err 12 (by omega) (by omega)
 clear he
 have ef:numKeys.flatMap (encPair ea)=[errV ea 1,.int .i64 1,errV ea 2,.int .i64 2,errV ea 3,.int .i64 3,errV ea 4,.int .i64 4,errV ea 5,.int .i64 5,errV ea 6,.int .i64 6,errV ea 7,.int .i64 7,errV ea 8,.int .i64 8,errV ea 9,.int .i64 9,errV ea 10,.int .i64 10,errV ea 11,.int .i64 11,errV ea 12,.int .i64 12]:=rfl
 rw[ef]
 clear ef
 unfold errV at*
 go_enter Tryz.func44,Tryz.ntmps44
 go_wp2
 go_ret
 exact⟨rfl,rfl⟩
theorem pair_at (k:Nat) (hk:k<12):numKeys[k]?=some (k+1):=by
 match k,hk with
 |0,_|1,_|2,_|3,_|4,_|5,_|6,_|7,_|8,_|9,_|10,_|11,_=>rfl
def IsNum (B:Nat) (ea:Nat→Addr) (w:World) (v:Value) (k:Nat):Prop:=
 ∀(j:Nat) (W:World),1≤j→j≤12→Kept (fun b=>w.heap.size≤b) w W→Calls Tryz.prog 45 #[v,errV ea j] W fun e w'=>e= .returned (.bool (j==k))∧w'=W
theorem isNum_err (ho:ErrObj B ea w) (hB:B≤w.heap.size) {k:Nat} (h1:1≤k) (h2:k≤12):IsNum B ea w (errV ea k) k:=by
 intro j W j1 j2 hk
 have ho':=ho.kept hk (fun b hb=>Nat.le_trans hB hb)
 by_cases e:j=k
 ·subst e
  rw[beq_self_eq_true]
  exact is_same (ea j) W
 ·have e':(j==k)=false:=by simpa using e
  rw[e']
  obtain⟨ca,ta,ha⟩:=ho'.obj k h1 h2
  obtain⟨cb,tb,hb⟩:=ho'.obj j j1 j2
  exact is_other (ea k) (ea j) ca cb ta tb W (fun hh=>e (ho.inj k j h1 h2 j1 j2 hh).symm) ha hb
theorem isNum_fault (ho:ErrObj B ea w) (hB:B≤w.heap.size) {k gf:Nat} {x:Value} (h1:1≤k) (h2:k≤12) (hr:Row w gf 59 [errV ea k,x]):IsNum B ea w (.iface 54 (.pointer (some ⟨gf,0,none⟩))) k:=by
 intro j W j1 j2 hk
 have ho':=ho.kept hk (fun b hb=>Nat.le_trans hB hb)
 have hr':=hr.kept hk (by have:=hr.lt;omega)
 by_cases e:j=k
 ·subst e
  rw[beq_self_eq_true]
  exact is_fault_same gf x (ea j) W hr'
 ·have e':(j==k)=false:=by simpa using e
  rw[e']
  obtain⟨ca,ta,ha⟩:=ho'.obj k h1 h2
  obtain⟨cb,tb,hb⟩:=ho'.obj j j1 j2
  exact is_fault_other gf x (ea k) (ea j) ca cb ta tb W hr' (fun hh=>e (ho.inj k j h1 h2 j1 j2 hh).symm) ha hb
def NumOut (w:World) (k:Nat) (e:Ending) (w':World):Prop:=e= .returned (.int .i64 k)∧Kept (fun b=>w.heap.size≤b) w w'
set_option maxRecDepth 100000 in
set_option maxHeartbeats 4000000 in
theorem number_err (he:Env B ea w) {v:Value} {k:Nat} (h1:1≤k) (h2:k≤12) (hi:IsNum B ea w v k):
  Calls Tryz.prog 21 #[v] w (NumOut w k):=by
 have hn:=numbers_any he
 have hrow:Row (w.alloc (.cells (numKeys.flatMap (encPair ea)).toArray 121)) w.heap.size 121 (numKeys.flatMap (encPair ea)):=Row.new w _ _
 have hsl:=Sl.of_row (S:=fun _=>True) hrow trivial (size:=2) (n:=12) rfl (by unfold maxLen;omega)
 have hk0:Kept (fun b=>w.heap.size≤b) w (w.alloc (.cells (numKeys.flatMap (encPair ea)).toArray 121)):=(Kept.refl _ w).alloc (Nat.le_refl _) _
 have hs0:(w.alloc (.cells (numKeys.flatMap (encPair ea)).toArray 121)).heap.size=w.heap.size+1:=by simp
 generalize hw1:w.alloc (.cells (numKeys.flatMap (encPair ea)).toArray 121)=w1 at*
 have HN:=Lib.hid hn
 have HS:=Lib.hid hsl
 have HK:=Lib.hid hk0
 have HI:=Lib.hid hi
 have HZ:=Lib.hid hs0
 clear hn hsl hk0 hi he hrow hw1 hs0
 go_enter Tryz.func21,Tryz.ntmps21
 go_wp2_with fail
 refine HN.out.mono ?_
 rintro e w' ⟨rfl,rfl⟩
 go_wp2_with fail
 go_loopg [7] 12 (fun gg s7 wr=>∃i:Nat,i<k∧12-i≤gg∧s7= .int .i64 i∧Kept (fun b=>w'.heap.size≤b) w' wr)
 case atStart=>exact⟨0,by omega,by omega,rfl,Kept.refl _ _⟩
 case round=>
  obtain⟨i,hik,hgi,rfl,hkr⟩:=hrel
  have hi12:i<12:=by omega
  have hs:=HS.out.later hkr (fun b hb=>hb)
  have hx:=pair_at i hi12
  have c0:=hs.at_ (l:=numKeys) (f:=encPair ea) (fun _=>rfl) hx (j:=0) (by omega)
  have c1:=hs.at_ (l:=numKeys) (f:=encPair ea) (fun _=>rfl) hx (j:=1) (by omega)
  have c0':wr.cell? ⟨w.heap.size,i*2,none⟩=some (.iface 307 (.pointer (some (ea (i+1))))):=c0
  have c1':wr.cell? ⟨w.heap.size,i*2+1,none⟩=some (.int .i64 ((i:Int)+1)):=c1
  have hsz:w.heap.size<wr.heap.size:=by have:=HZ.out;have:=hkr.size;omega
  have hkk:Kept (fun b=>w.heap.size≤b) w (wr.alloc (.cells #[.iface 307 (.pointer (some (ea (i+1)))),.int .i64 ((i:Int)+1)] 121)):=(HK.out.trans (hkr.mono (fun b hb=>by have:=HZ.out;omega))).alloc (by omega) _
  have hcall:=HI.out (i+1) _ (by omega) (by omega) hkk
  have hkr':Kept (fun b=>w'.heap.size≤b) w' (wr.alloc (.cells #[.iface 307 (.pointer (some (ea (i+1)))),.int .i64 ((i:Int)+1)] 121)):=hkr.alloc hkr.size _
  have HC:=Lib.hid hcall
  have HKR:=Lib.hid hkr'
  have HKK:=Lib.hid hkk
  clear hcall hkr hs hx c0 c1 hkr' hkk
  have q:¬w.heap.size=wr.heap.size:=by omega
  unfold errV at HC
  by_cases e:i+1=k
  ·have e1:(i+1==k)=true:=by simpa using e
   rw[e1]at HC
   have E:=Lib.hid e
   clear e1 e
   go_wp2_with (go_at_call 45;((with_reducible refine HC.out.mono ?_);rintro e w2 ⟨rfl,rfl⟩))
   go_ret
   exact⟨by rw[←E.out];go_num,HKK.out⟩
  ·have e1:(i+1==k)=false:=by simpa using e
   rw[e1]at HC
   have E:=Lib.hid e
   clear e1 e
   go_wp2_with (go_at_call 45;((with_reducible refine HC.out.mono ?_);rintro e w2 ⟨rfl,rfl⟩))
   go_roundg (12-(i+1))
   case measure=>omega
   case rel=>exact⟨i+1,by have:=E.out;omega,by omega,by go_num,HKR.out⟩
end
end Go.Proofs.YtepoejiigmhlbaaGreatDoor.Ev
namespace Go.Proofs.YtepoejiigmhlbaaGreatDoor.Ev
def EOk (e:Nat):Prop:=1≤e∧e≤12
def WOk (st:PS):Prop:=∀y,st.wrong=some y→EOk y.1
def OOk {α:Type} (o:Out α):Prop:=
 match o with
 | .ok _ st=>WOk st
 | .bad e _=>EOk e
section
variable {α β:Type} {s:Bytes} {st:PS}
theorem OOk.bind {x:Out α} {f:α→PS→Out β} (h:OOk x) (hf:∀a st,WOk st→OOk (f a st)):OOk (x.bind f):=by
 cases x with
 |ok a st=>exact hf a st h
 |bad e p=>exact h
theorem OOk.map {x:Out α} {f:α→β} (h:OOk x):OOk (x.map f):=by
 cases x with
 |ok a st=>exact h
 |bad e p=>exact h
theorem WOk.next (h:WOk st):WOk (next s st):=h
theorem WOk.note {e pos:Nat} (h:WOk st) (he:EOk e):WOk (note e pos st):=by
 intro y hy
 unfold Ev.note at hy
 cases hw:st.wrong with
 |none=>
  rw[hw]at hy
  simp only[Option.some.injEq]at hy
  subst hy
  exact he
 |some z=>
  rw[hw]at hy
  exact h y hy
theorem want_e {k:Bytes} (h:WOk st):OOk (want s k st):=by
 unfold want
 split
 ·exact h
 ·exact(⟨by decide,by decide⟩:EOk eSyntax)
theorem take_e {k:Bytes} (h:WOk st):WOk (take s k st).2:=by
 unfold take
 split<;>exact h
theorem number_e {a b:Int} (h:WOk st):OOk (number s a b st):=by
 unfold number
 refine(want_e h).bind fun t st h=>?_
 show WOk _
 split
 ·exact h.note ⟨by decide,by decide⟩
 ·exact h
theorem name_e {v:Bool} (h:WOk st):OOk (name s v st):=by
 unfold name
 refine(want_e h).bind fun t st h=>?_
 show WOk _
 unfold nameNote
 split
 ·exact h.note ⟨by decide,by decide⟩
 ·split
  ·exact h.note ⟨by decide,by decide⟩
  ·exact h
theorem value_e (h:WOk st):OOk (value s st):=by
 unfold value
 split
 ·exact(number_e h).map
 ·split
  ·exact(name_e h.next).map
  ·split
   ·exact h
   ·exact(name_e h).map
theorem condBase_e (h:WOk st):OOk (condBase s st):=by
 unfold condBase
 split
 ·exact(name_e h.next).map
 ·split
  ·exact(name_e h.next).map
  ·split
   ·exact(name_e h.next).map
   ·exact(value_e h).bind fun a st h=>(want_e h).bind fun _ st h=>(value_e h).map
theorem eSyn:EOk eSyntax:=⟨by decide,by decide⟩
theorem eDp:EOk eDeep:=⟨by decide,by decide⟩
theorem cond_e:∀(n:Nat) {st:PS},WOk st→OOk (cond s n st)
 |0,st,h=>eSyn
 |n+1,st,h=>by
  unfold cond
  split
  ·exact(cond_e n h.next).map
  ·exact condBase_e h
theorem semi_e {x:Prim} (h:WOk st):OOk ((want s kSemi st).bind fun _ st=>Out.ok (Blk.prim x .nil) st):=(want_e h).bind fun _ _ h=>h
theorem block_e:∀(n:Nat),(∀{st:PS},WOk st→OOk (block s n st))∧(∀{st:PS},WOk st→OOk (stmts s n st))∧(∀{st:PS},WOk st→OOk (stmt s n st))
 |0=>⟨fun _=>by unfold block;exact eSyn,fun _=>by unfold stmts;exact eSyn,fun _=>by unfold stmt;exact eSyn⟩
 |n+1=>by
  obtain⟨ib,il,is⟩:=block_e n
  refine⟨fun {st} h=>?_,fun {st} h=>?_,fun {st} h=>?_⟩
  ·unfold block
   split
   ·exact eDp
   ·refine(want_e h).bind fun _ st h=>?_
    refine OOk.bind (il (st:={st with depth:=st.depth+1}) h) fun b st h=>?_
    exact h
  ·unfold stmts
   split
   ·exact h
   ·exact(is h).bind fun x st h=>(il h).map
  ·rw[stmt]
   by_cases k1:st.t.kind=kPut
   ·rw[if_pos k1];exact(name_e h.next).bind fun q st h=>semi_e (take_e h)
   rw[if_neg k1]
   by_cases k2:st.t.kind=kEvict
   ·rw[if_pos k2];exact(name_e h.next).bind fun q st h=>semi_e h
   rw[if_neg k2]
   by_cases k3:st.t.kind=kCool
   ·rw[if_pos k3];exact(name_e h.next).bind fun q st h=>semi_e h
   rw[if_neg k3]
   by_cases k4:st.t.kind=kShift
   ·rw[if_pos k4];exact(name_e h.next).bind fun q st h=>(name_e h).bind fun p st h=>semi_e (take_e h)
   rw[if_neg k4]
   by_cases k5:st.t.kind=kInc
   ·rw[if_pos k5];exact(name_e h.next).bind fun q st h=>semi_e h
   rw[if_neg k5]
   by_cases k6:st.t.kind=kDec
   ·rw[if_pos k6];exact(name_e h.next).bind fun q st h=>semi_e h
   rw[if_neg k6]
   by_cases k7:st.t.kind=kDrop
   ·rw[if_pos k7];exact semi_e h.next
   rw[if_neg k7]
   by_cases k8:st.t.kind=kBump
   ·rw[if_pos k8];exact semi_e h.next
   rw[if_neg k8]
   by_cases k9:st.t.kind=kIf
   ·rw[if_pos k9]
    refine(cond_e _ h.next).bind fun c st h=>(ib h).bind fun t st h=>?_
    split
    ·exact(ib h.next).bind fun e st h=>h
    ·exact h
   rw[if_neg k9]
   by_cases ka:st.t.kind=kRepeat
   ·rw[if_pos ka]
    by_cases kb:st.loops=2
    ·rw[if_pos kb];exact eDp
    rw[if_neg kb]
    refine(number_e h.next).bind fun k st h=>(want_e h).bind fun _ st h=>(cond_e _ h).bind fun c st h=>?_
    exact OOk.bind (ib (st:={st with loops:=st.loops+1}) h) fun b st h=>h
   rw[if_neg ka]
   exact eSyn
theorem decl_e (h:WOk st):OOk (decl s st):=by
 unfold decl
 simp only
 split
 ·have h1:WOk (if(next s st).fseen then note eTwice st.t.pos (next s st)else next s st):=by
   split
   ·exact h.next.note ⟨by decide,by decide⟩
   ·exact h.next
  refine OOk.bind (number_e (st:={(if(next s st).fseen then note eTwice st.t.pos (next s st)else next s st)with fseen:=true}) h1) fun n st h=>?_
  exact OOk.bind (want_e (st:={st with freq:=n}) h) fun _ st h=>h
 ·refine(want_e h.next).bind fun n st h=>?_
  have h1:WOk (declNote n st):=by
   have h2:WOk (if 0≤find st.decls n.text then note eTwice n.pos st else st):=by
    split
    ·exact h.note ⟨by decide,by decide⟩
    ·exact h
   show WOk (if(if 0≤find st.decls n.text then note eTwice n.pos st else st).decls.length=8 then note eMany n.pos (if 0≤find st.decls n.text then note eTwice n.pos st else st)else(if 0≤find st.decls n.text then note eTwice n.pos st else st))
   generalize (if 0≤find st.decls n.text then note eTwice n.pos st else st)=st2 at h2 ⊢
   by_cases h8:st2.decls.length=8
   ·rw[if_pos h8];exact h2.note ⟨by decide,by decide⟩
   ·rw[if_neg h8];exact h2
  exact(number_e h1).bind fun m st h=>(want_e h).bind fun _ st h=>h
theorem rule_e {n:Nat} (h:WOk st):OOk (rule s n st):=by
 unfold rule
 refine OOk.bind ?_ fun k st h=>((block_e n).1 h).bind fun b st h=>?_
 ·unfold ruleHead
  simp only
  refine OOk.bind ?_ fun k st h=>?_
  ·split
   ·exact h
   ·exact name_e h.next
  ·show WOk _
   split
   ·exact h.note ⟨by decide,by decide⟩
   ·exact h
 ·show WOk _
  split<;>exact h
theorem decls_e:∀(n:Nat) {st:PS},WOk st→OOk (declsR s n st)
 |0,st,h=>eSyn
 |n+1,st,h=>by
  unfold declsR
  split
  ·exact(decl_e h).bind fun _ st h=>decls_e n h
  ·exact h
theorem rules_e {m:Nat}:∀(n:Nat) {st:PS},WOk st→OOk (rulesR s m n st)
 |0,st,h=>eSyn
 |n+1,st,h=>by
  unfold rulesR
  split
  ·exact(rule_e h).bind fun _ st h=>rules_e n h
  ·exact h
theorem readAll_e:OOk (readAll s):=by
 unfold readAll
 refine(decls_e _ (fun y hy=>by cases hy)).bind fun _ st h=>(rules_e _ h).bind fun _ st h=>want_e h
theorem read_err {k pos:Nat} (h:read s= .error (k,pos)):1≤k∧k≤12:=by
 unfold read at h
 split at h
 ·injection h with h;injection h with h1 h2;subst h1;exact⟨by decide,by decide⟩
 ·have he:=readAll_e (s:=s)
  cases hr:readAll s with
  |bad e p=>
   rw[hr]at h he
   injection h with h;injection h with h1 h2;subst h1
   exact he
  |ok a st=>
   rw[hr]at h he
   simp only at h
   cases hw:st.wrong with
   |some x=>
    rw[hw]at h
    simp only at h
    injection h with h
    have:=he x hw
    rw[h]at this
    exact this
   |none=>
    rw[hw]at h
    simp only at h
    split at h
    ·injection h with h;injection h with h1 h2;subst h1;exact⟨by decide,by decide⟩
    ·cases h
end
end Go.Proofs.YtepoejiigmhlbaaGreatDoor.Ev
namespace Go.Proofs.YtepoejiigmhlbaaGreatDoor.Ev
theorem compCond_nocount (k:Cond) {c:Nat} {n:Int}:Ins.count c n∉compCond k:=by
 intro h
 unfold compCond at h
 rcases List.mem_append.1 h with h|h
 ·cases hk:k.k with
  |less a b=>
   rw[hk]at h
   cases a<;>cases b<;>simp[compCK,compVal]at h
  |_=>rw[hk]at h;simp[compCK]at h
 ·split at h<;>simp at h
theorem comp_count {l:List Decl}:∀(b:Blk) (c o:Nat),BlkW l b→∀(c':Nat) (n:Int),Ins.count c' n∈comp c o b→0≤n∧n≤50
 | .nil,_,_,_,_,_,h=>by simp[comp]at h
 | .prim p r,c,o,hw,c',n,h=>by
  simp only[comp,List.mem_cons]at h
  rcases h with h|h
  ·cases h
  ·exact comp_count r _ _ hw.2 c' n h
 | .ite k t other e r,c,o,hw,c',n,h=>by
  obtain⟨_,w1,w2,w3⟩:=hw
  simp only[comp]at h
  split at h
  ·simp only[List.mem_append,List.mem_cons]at h
   rcases h with h|h|h|h|h|h
   ·exact absurd h (compCond_nocount k)
   ·cases h
   ·exact comp_count t _ _ w1 c' n h
   ·cases h
   ·exact comp_count e _ _ w2 c' n h
   ·exact comp_count r _ _ w3 c' n h
  ·simp only[List.mem_append,List.mem_cons]at h
   rcases h with h|h|h|h
   ·exact absurd h (compCond_nocount k)
   ·cases h
   ·exact comp_count t _ _ w1 c' n h
   ·exact comp_count r _ _ w3 c' n h
 | .rep m k b r,c,o,hw,c',n,h=>by
  obtain⟨_,w1,w2,w3⟩:=hw
  simp only[comp,List.mem_append,List.mem_cons]at h
  rcases h with h|h|h|h|h|h|h
  ·injection h with _ h
   subst h
   omega
  ·cases h
  ·exact absurd h (compCond_nocount k)
  ·cases h
  ·exact comp_count b _ _ w1 c' n h
  ·cases h
  ·exact comp_count r _ _ w2 c' n h
theorem rule_count {l:List Decl} {b:Blk} {c:Nat} (h:BlkW l b):∀(c':Nat) (n:Int),Ins.count c' n∈comp c 0 b++[.fin]→0≤n∧n≤50:=by
 intro c' n hm
 rcases List.mem_append.1 hm with hm|hm
 ·exact comp_count b c 0 h c' n hm
 ·simp at hm
end Go.Proofs.YtepoejiigmhlbaaGreatDoor.Ev
namespace Go.Proofs.YtepoejiigmhlbaaGreatDoor.Ev
open Go Go.RowKit
theorem madeCells_one (x:Value) (n:Nat):madeCells #[x] n=(List.replicate n x).toArray:=by
 apply Array.toList_inj.1
 apply List.ext_getElem?
 intro i
 unfold madeCells
 simp only[Array.toList_map,Array.toList_range,List.getElem?_map]
 by_cases hi:i<n
 ·rw[List.getElem?_range hi];simp[List.getElem?_replicate,hi,Nat.mod_one]
 ·rw[List.getElem?_eq_none (by simp;omega),List.getElem?_eq_none (by simp;omega)];rfl
theorem RunR.first {B:Nat} {w0:World} {gg gp gs ga lp bc:Nat} {vd bmv vva:Value} {SA:Nat→Prop} {A:Arena} {p:Policy} {key:Int} {s:St} (hro:RoR B w0 gg gp vd bmv (.map (some bc)) lp p) (hst:StB B w0 gs ga vva SA A s.vars) (hB:B≤w0.heap.size) (hlp:lp≤490000):
  RunR B ((w0.alloc (.cells (List.replicate lp (Value.int .i64 0)).toArray 3)).alloc (.cells #[.pointer (some ⟨gg,0,none⟩),.pointer (some ⟨gs,0,none⟩),.int .u64 key,.slice none 0 0,.bool false,.slice (some ⟨w0.heap.size,0,none⟩) lp lp,.slice none 0 0] 153))
   ⟨w0.heap.size+1,gg,gp,gs,ga,vd,bmv,.map (some bc),lp,.slice none 0 0,.slice (some ⟨w0.heap.size,0,none⟩) lp lp,.slice none 0 0,vva⟩ SA p key A ⟨0,[],false,List.replicate lp 0,⟨s,[]⟩⟩:=by
 have k1:Kept (fun b=>w0.heap.size≤b) w0 ((w0.alloc (.cells (List.replicate lp (Value.int .i64 0)).toArray 3)).alloc (.cells #[.pointer (some ⟨gg,0,none⟩),.pointer (some ⟨gs,0,none⟩),.int .u64 key,.slice none 0 0,.bool false,.slice (some ⟨w0.heap.size,0,none⟩) lp lp,.slice none 0 0] 153)):=
  ((Kept.refl _ w0).alloc (Nat.le_refl _) _).alloc (by simp) _
 obtain⟨vl,vf,vq,bm,ha⟩:=hst.ar
 have hl:Sl (fun b=>B≤b) (w0.alloc (.cells (List.replicate lp (Value.int .i64 0)).toArray 3)) 3 1 (.slice (some ⟨w0.heap.size,0,none⟩) lp lp) lp (List.replicate lp (Value.int .i64 0)):=
  Sl.of_row (Row.new w0 _ _) hB (by simp) (by unfold maxLen;omega)
 have e:(List.replicate lp (0:Int)).map encI=List.replicate lp (Value.int .i64 0):=by rw[List.map_replicate];rfl
 have el:(List.replicate lp (0:Int)).length=lp:=List.length_replicate
 refine⟨hro.kept k1 (fun b hb=>Nat.le_trans hB hb),?_,hst.srow.kept k1 (by have:=hst.srow.lt;omega),⟨World.ownsRow_nil _ _ _ _,fun g hg=>by cases hg⟩,?_,⟨World.ownsRow_nil _ _ _ _,fun g hg=>by cases hg⟩,
  hst.vars.kept k1 (fun b hb=>by have:=hst.vars.lt hb;omega),⟨vl,vf,vq,bm,(ha.shrink.kept k1 (fun b hb=>by have:=hb.2;omega)).mono (fun b hb=>hb.1)⟩,?_,hst.gs0,fun b hb=>⟨(hst.sa b hb).1,Nat.lt_of_lt_of_le (hst.sa b hb).2 k1.size⟩,fun hb=>?_,hst.ss,(fun b hb=>by cases hb),fun b hb hs=>?_,(fun b hb=>by cases hb),hst.s4,(fun b hb=>by cases hb),(fun b hb=>by cases hb),fun b hb hv=>?_⟩
 ·have h:=Row.new (w0.alloc (.cells (List.replicate lp (Value.int .i64 0)).toArray 3)) 153 [.pointer (some ⟨gg,0,none⟩),.pointer (some ⟨gs,0,none⟩),.int .u64 key,.slice none 0 0,.bool false,.slice (some ⟨w0.heap.size,0,none⟩) lp lp,.slice none 0 0]
  simpa using h
 ·show Sl _ _ _ 1 _ (List.replicate lp (0:Int)).length ((List.replicate lp (0:Int)).map encI)
  rw[e,el]
  exact hl.alloc _
 ·show B≤w0.heap.size+1
  omega
 ·have:=(hst.sa _ hb).2;simp only at this;omega
 ·injection hb with hb
  simp only at hb
  subst hb
  have:=(hst.sa _ hs).2;omega
 ·injection hb with hb
  simp only at hb
  subst hb
  have:=hst.vars.lt hv;omega
end Go.Proofs.YtepoejiigmhlbaaGreatDoor.Ev
namespace Go.Proofs.YtepoejiigmhlbaaGreatDoor.Ev
open Go Go.RowKit
def OutLoad (w:World) (s:Bytes) (e:Ending) (w':World):Prop:=
 Kept (fun b=>w.heap.size≤b) w w'∧match read s with
  | .error (k,pos)=>e= .returned (.tuple #[.pointer none,.int .i64 k,.int .i64 pos])
  | .ok p=>∃ge,e= .returned (.tuple #[.pointer (some ⟨ge,0,none⟩),.int .i64 0,.int .i64 0])∧EngR (fun b=>w.heap.size≤b∧b<w'.heap.size) w' ge (Eng.new p)
theorem PolR.later {B:Nat} {w w':World} {gp bm:Nat} {vd:Value} {p:Policy} (h:PolR B w gp bm vd p) {T:Nat→Prop} (hk:Kept T w w') (hT:∀b,T b→w.heap.size≤b):PolR B w' gp bm vd p:=by
 have ht:∀b,b<w.heap.size→¬T b:=fun b hb hs=>by have:=hT b hs;omega
 obtain⟨M,h1,_⟩:=h.rules
 exact⟨h.row.kept hk (ht _ h.row.lt),h.decls.later hk hT,h.rules.kept (hk.block bm (ht _ h1.lt)) (fun k cs hN hr=>hk.block k (ht k hr.lt)),h.gp0,h.bm0⟩
theorem ProgR.later {S T:Nat→Prop} {w w':World} {gg gp bm bc loops:Nat} {vd:Value} {p:Policy} (h:ProgR S w gg p gp bm bc loops vd) (hk:Kept T w w') (hT:∀b,T b→w.heap.size≤b):ProgR S w' gg p gp bm bc loops vd:=
 h.kept hk (fun b _ hb hs=>by have:=hT b hs;omega)
theorem ProgR.alloc {S:Nat→Prop} {w:World} {gg gp bm bc loops:Nat} {vd:Value} {p:Policy} (h:ProgR S w gg p gp bm bc loops vd) (o:Obj):ProgR S (w.alloc o) gg p gp bm bc loops vd:=
 h.later ((Kept.refl (fun b=>w.heap.size≤b) w).alloc (Nat.le_refl _) o) (fun b hb=>hb)
theorem sinv_new {p:Policy} (hp:PolW p):SInv p (Eng.new p).s:=by
 refine⟨List.length_replicate,List.length_replicate,fun k l hl e he=>?_,fun k x hx=>?_⟩
 ·have hl':(List.replicate p.decls.length ([]:List Ent))[k]?=some l:=hl
  rw[List.getElem?_replicate]at hl'
  split at hl'
  ·injection hl' with hl';subst hl';cases he
  ·cases hl'
 ·have hx':(List.replicate p.decls.length (0:Int))[k]?=some x:=hx
  rw[List.getElem?_replicate]at hx'
  split at hx'
  ·rename_i hk
   injection hx' with hx';subst hx'
   refine⟨Int.le_refl _,?_⟩
   have h1:=declAt_get (l:=p.decls) (q:=(k:Int)) ⟨by omega,by omega⟩
   rw[Int.toNat_natCast]at h1
   have:=(hp.decls.each _ (List.mem_of_getElem? h1)).lo
   omega
  ·cases hx'
theorem atq_new {p:Policy} (j:Nat) (x:Int):¬AtQ (Eng.new p).s j x:=by
 rintro⟨l,hl,hx⟩
 have hl':(List.replicate p.decls.length ([]:List Ent))[j]?=some l:=hl
 rw[List.getElem?_replicate]at hl'
 split at hl'
 ·injection hl' with hl';subst hl';cases hx
 ·cases hl'
theorem eng_first {w W:World} {p:Policy} {n1 n2 n3 gg gs ga gp bm bc loops xm:Nat} {vd vva xl xf xq:Value} (hp:PolW p) (P:ProgR (fun b=>w.heap.size≤b∧b<n1) W gg p gp bm bc loops vd)
  (srow:Row W gs 71 [.pointer (some ⟨ga,0,none⟩),vva]) (V:Sl (fun b=>w.heap.size≤b∧(b<n2∨n3≤b)) W 3 1 vva p.decls.length (List.replicate p.decls.length (.int .i64 0)))
  (ar:ARep (fun b=>n2≤b∧b<n3) W ga (Arena.new p.decls.length) xl xf xq xm) (h12:n1≤n2) (h2:w.heap.size≤n2) (h23:n2≤n3) (hgs:n3≤gs):
  EngR (fun b=>w.heap.size≤b∧b<W.heap.size+1) (W.alloc (.cells #[.pointer (some ⟨gg,0,none⟩),.pointer (some ⟨gs,0,none⟩),.int .i64 0,.int .i64 0,.int .i64 0] 73)) W.heap.size (Eng.new p):=by
 have hw:w.heap.size≤gs:=by omega
 have hgl:=srow.lt
 have e1:(Eng.new p).s.vars.length=p.decls.length:=List.length_replicate
 have e2:(Eng.new p).s.vars.map encI=List.replicate p.decls.length (.int .i64 0):=by
  show(List.replicate p.decls.length (0:Int)).map encI=_
  rw[List.map_replicate];rfl
 refine⟨gg,gs,ga,gp,bm,bc,loops,vd,vva,(fun b=>n2≤b∧b<n3),Arena.new p.decls.length,List.replicate p.decls.length [],Row.new W _ _,(P.alloc _).mono (fun b hb hs=>⟨⟨hs.1,?_⟩,fun h=>by have:=hs.2;have:=h.1;omega⟩),srow.alloc _,?_,
  ⟨xl,xf,xq,xm,ar.alloc _⟩,AInv.new _ hp.decls.len,sinv_new hp,hp,fun j x hx=>absurd hx (atq_new j x),fun b hb=>⟨by have:=hb.1;omega,by have:=hb.2;omega⟩,⟨⟨?_,by omega⟩,fun h=>?_⟩,⟨⟨hw,by omega⟩,fun h=>by have:=h.2;omega⟩⟩
 ·simp at hb;omega
 ·rw[e1,e2]
  have V':=V.shrink.alloc (.cells #[.pointer (some ⟨gg,0,none⟩),.pointer (some ⟨gs,0,none⟩),.int .i64 0,.int .i64 0,.int .i64 0] 73)
  exact V'.mono (fun b hb=>⟨⟨hb.1.1,by have:=hb.2;omega⟩,fun h=>by have:=hb.1.2;have:=h.1;have:=h.2;omega⟩)
 ·omega
 ·have:=h.2;omega
theorem load_fin {w w1 W:World} {s:Bytes} {p:Policy} {n1 n2 n3 gg gs ga gp bm bc loops xm ge:Nat} {vd vva xl xf xq:Value} {E:List Value} (hr:read s= .ok p) (hE:E=List.replicate p.decls.length (.int .i64 0)) (K1:Kept (fun b=>w.heap.size≤b) w w1) (KW:Kept (fun b=>w1.heap.size≤b) w1 W)
  (P:ProgR (fun b=>w.heap.size≤b∧b<n1) W gg p gp bm bc loops vd)
  (srow:Row W gs 71 [.pointer (some ⟨ga,0,none⟩),vva]) (V:Sl (fun b=>w.heap.size≤b∧(b<n2∨n3≤b)) W 3 1 vva p.decls.length E)
  (ar:ARep (fun b=>n2≤b∧b<n3) W ga (Arena.new p.decls.length) xl xf xq xm) (h12:n1≤n2) (h2:w.heap.size≤n2) (h23:n2≤n3) (hgs:n3≤gs) (hge:ge=W.heap.size):
  OutLoad w s (.returned (.tuple #[.pointer (some ⟨ge,0,none⟩),.int .i64 0,.int .i64 0])) (W.alloc (.cells #[.pointer (some ⟨gg,0,none⟩),.pointer (some ⟨gs,0,none⟩),.int .i64 0,.int .i64 0,.int .i64 0] 73)):=by
 subst hE hge
 refine⟨K1.trans ((KW.alloc KW.size _).mono (fun b hb=>Nat.le_trans K1.size hb)),?_⟩
 rw[hr]
 refine⟨_,rfl,?_⟩
 have h:=eng_first (read_W hr) P srow V ar h12 h2 h23 hgs
 exact h.mono (fun b hb=>⟨hb.1,by simp;exact hb.2⟩)
section
variable {B:Nat} {ea:Nat→Addr} {w:World} {s:Bytes}
attribute [local go_sem ↓] Go.wp_at_zero Go.wp_at_succ
set_option maxRecDepth 100000 in
set_option maxHeartbeats 4000000 in
theorem load_err (he:Env B ea w) (ho:ErrObj B ea w) {k pos:Nat} (hr:read s= .error (k,pos)):Calls Tryz.prog 7 #[vs s] w (OutLoad w s):=by
 obtain⟨h1,h2⟩:=read_err hr
 have hread:=read_any he s
 have HR:=Lib.hid hread
 have HE:=Lib.hid he
 have HO:=Lib.hid ho
 have HX:=Lib.hid hr
 clear hread he ho hr
 go_enter Tryz.func7,Tryz.ntmps7
 go_wp2_with fail
 refine HR.out.mono ?_
 rintro e w1 ⟨hk1,hm⟩
 rw[HX.out]at hm
 obtain⟨gf,rfl,hrow,hgf⟩:=hm
 have hB:=HE.out.size
 have hE1:=HE.out.kept hk1 (fun b hb=>Nat.le_trans hB hb)
 have hO1:=HO.out.kept hk1 (fun b hb=>Nat.le_trans hB hb)
 have hglt:=hrow.lt
 have as1:=as_hit ⟨gf,0,none⟩ ⟨w1.heap.size,0,none⟩ (.pointer none) (w1.alloc (.cells #[.pointer none] 54))
  ((((Kept.refl (fun b=>w1.heap.size≤b) w1).alloc (Nat.le_refl _) (.cells #[.pointer none] 54)).cell (p:=⟨2,0,none⟩) (by have:=hO1.typlt;have:=hE1.size;simp only;omega)).trans hO1.typ) (by simp) (by simp)
 have AS:=Lib.hid as1
 have K1:=Lib.hid hk1
 have ROW:=Lib.hid hrow
 have E1:=Lib.hid hE1
 have O1:=Lib.hid hO1
 clear as1 hk1 hrow hE1 hO1
 go_wp2_with fail
 refine AS.out.mono ?_
 rintro e w2 ⟨rfl,hw2⟩
 have k2:Kept (fun b=>w1.heap.size≤b) w1 w2:=by
  rw[hw2]
  repeat' first|with_reducible exact Kept.refl _ _|with_reducible refine Kept.setCell ?_ (by simp) _|with_reducible refine Kept.alloc ?_ (by simp<;>omega) _
 have cf:w2.cell? ⟨w1.heap.size,0,none⟩=some (.pointer (some ⟨gf,0,none⟩)):=by
  rw[hw2]
  rw[World.cell?_setCell_same]
  case h=>exact(((((Row.new w1 54 [.pointer none]).alloc _).alloc _).alloc _).alloc _).cell 0
 have cg:w2.cell? ⟨gf,1,none⟩=some (.int .i64 pos):=(k2.cell (p:=⟨gf,1,none⟩) (by simp only;omega)).trans (ROW.out.cell 1)
 have hnum:∀W,Kept (fun b=>w2.heap.size≤b) w2 W→Calls Tryz.prog 21 #[.iface 54 (.pointer (some ⟨gf,0,none⟩))] W (NumOut W k):=fun W hk=>by
  have kk:Kept (fun b=>w1.heap.size≤b) w1 W:=k2.trans (hk.mono (fun b hb=>Nat.le_trans k2.size hb))
  have e1:=E1.out.kept kk (fun b hb=>Nat.le_trans E1.out.size hb)
  exact number_err e1 h1 h2 (isNum_fault (O1.out.kept kk (fun b hb=>Nat.le_trans E1.out.size hb)) e1.size h1 h2 (ROW.out.kept kk (by omega)))
 have HN:=Lib.hid hnum
 have K2:=Lib.hid k2
 have r3:w1.heap.size<w2.heap.size:=World.block_lt_of_cell? w2 _ cf
 have r4:=k2.size
 clear hw2 hnum k2
 go_wp2_with fail
 go_region_held3 (fun w'=>w'.cell? ⟨w1.heap.size,0,none⟩=some (.pointer (some ⟨gf,0,none⟩))∧w'.cell? ⟨gf,1,none⟩=some (.int .i64 pos)∧Kept (fun b=>w2.heap.size≤b) w2 w')
  ((repeat' apply And.intro)<;>(first
   |assumption
   |exact(Kept.cell hl1 (by simp only;omega)).trans cf
   |exact(Kept.cell hl1 (by simp only;omega)).trans cg
   |(with_reducible exact(Kept.refl _ _).drew)
   |go_keep
   ))
  (first
   |(go_at_call 21;refine(HN.out _ ?_).mono ?_;(first|exact(Kept.refl _ _).drew);rintro e w3 ⟨rfl,hk3⟩;have hl1:Kept (fun b=>w2.heap.size≤b) w2 w3:=((Kept.refl _ _).drew).trans (hk3.mono (fun b hb=>hb));clear hk3))
 all_goals
  go_wp2
  refine bodyPost_ret (v:=.tuple #[.pointer none,.int .i64 k,.int .i64 pos]) (by simp[results,Tryz.results7,go_sem]) rfl ?_
  refine⟨?_,?_⟩
  ·have h3:=hl1.mono (fun b hb=>Nat.le_trans K2.out.size hb)
   exact K1.out.trans ((K2.out.trans h3).mono (fun b hb=>Nat.le_trans K1.out.size hb))
  ·rw[HX.out]
set_option maxRecDepth 100000 in
set_option maxHeartbeats 4000000 in
theorem load_ok (he:Env B ea w) {p:Policy} (hr:read s= .ok p):Calls Tryz.prog 7 #[vs s] w (OutLoad w s):=by
 have hp:=read_W hr
 have h8:=hp.decls.len
 have hread:=read_any he s
 obtain⟨i0,hi0,hz0,hz1,hz2⟩:=info_parts infoInt_
 have hmk:∀W:World,(Instr.makeSlice 69 (.int .i64 (p.decls.length:Int)) (.int .i64 (p.decls.length:Int))).run Tryz.prog W=
   .ok (.slice (some ⟨W.heap.size,0,none⟩) p.decls.length p.decls.length) (W.alloc (.cells (List.replicate p.decls.length (Value.int .i64 0)).toArray 3)):=by
  intro W
  have h:=run_make (P:=Tryz.prog) W 69 3 i0 _ Tryz.underlying69 hi0 hz0 .i64 .i64 (p.decls.length:Int) (p.decls.length:Int) (by omega) (by omega) (by rw[hz2];omega) (by omega)
  rw[hz1,Int.toNat_natCast]at h
  have e:(Value.int .i64 0).cells=#[Value.int .i64 0]:=rfl
  rw[e,Nat.mul_one,madeCells_one]at h
  exact h
 have HR:=Lib.hid hread
 have HX:=Lib.hid hr
 have HP:=Lib.hid hp
 clear hread he hr hp hi0 hz0 hz1 hz2
 generalize hE:(List.replicate p.decls.length (Value.int .i64 0))=E at hmk
 have HE:=Lib.hid hE
 clear hE
 go_enter Tryz.func7,Tryz.ntmps7
 go_wp2_with fail
 refine HR.out.mono ?_
 rintro e w1 ⟨hk1,hm⟩
 rw[HX.out]at hm
 obtain⟨gp,bm,vd,rfl,hpol⟩:=hm
 obtain⟨ad,cd,rfl⟩:∃a c,vd= .slice a p.decls.length c:=hpol.decls.shape
 have p0:=hpol.row.cell 0
 simp at p0
 have hof:∀W,Kept (fun b=>w1.heap.size≤b) w1 W→Calls Tryz.prog 22 #[.pointer (some ⟨gp,0,none⟩)] W fun e w'=>
   ∃gg bc loops,e= .returned (.pointer (some ⟨gg,0,none⟩))∧Kept (fun b=>W.heap.size≤b) W w'∧ProgR (fun b=>w.heap.size≤b∧b<w'.heap.size) w' gg p gp bm bc loops (.slice ad p.decls.length cd):=fun W hk=>by
  have hW:=hpol.later hk (fun b hb=>hb)
  have hwW:w.heap.size≤W.heap.size:=Nat.le_trans hk1.size hk.size
  refine(of_any hW HP.out).mono ?_
  rintro e w' ⟨gg,bc,loops,h1,h2,h3⟩
  have hW2:=hW.later h2 (fun b hb=>hb)
  obtain⟨M,m1,_⟩:=hW2.rules
  exact⟨gg,bc,loops,h1,h2,h3.mono_ (fun b h4 h5=>⟨Nat.le_trans hwW h5,h4⟩),hW2.row,hW2.decls.shrink.mono (fun b hb=>⟨hb.1,hb.2⟩),RulesR.mono_ hW2.rules (fun k h4 h5=>⟨h5,h4⟩),⟨hW2.gp0,hW2.row.lt⟩,⟨hW2.bm0,m1.lt⟩⟩
 have hnew:∀W:World,Calls Tryz.prog 23 #[.int .i64 (p.decls.length:Int)] W fun e w'=>
   ∃ga,e= .returned (.pointer (some ⟨ga,0,none⟩))∧Kept (fun b=>W.heap.size≤b) W w'∧∃xl xf xq xm,ARep (fun b=>W.heap.size≤b∧b<w'.heap.size) w' ga (Arena.new p.decls.length) xl xf xq xm:=fun W=>by
  refine(new_any (S:=fun b=>W.heap.size≤b) (fun k hk=>hk) p.decls.length (by omega)).mono ?_
  rintro e w' ⟨ga,h1,h2,xl,xf,xq,xm,h3⟩
  exact⟨ga,h1,h2,xl,xf,xq,xm,h3.shrink⟩
 have HOF:=Lib.hid hof
 have HNEW:=Lib.hid hnew
 have K1:=Lib.hid hk1
 have hgl:=hpol.row.lt
 clear hof hnew hk1 hpol
 go_wp2_with fail
 go_region_held3 (fun w'=>Kept (fun b=>w1.heap.size≤b) w1 w')
  (first
   |assumption
   |(with_reducible exact(Kept.refl _ _).drew)
   |exact((Kept.refl _ _).drew).alloc (Nat.le_refl _) _
   |exact hl2.alloc z2 _
   |exact hl3.alloc z3 _
   |exact(hl3.alloc z3 _).alloc (by simp;omega) _
   |exact((hl3.alloc z3 _).alloc (by simp;omega) _).alloc (by simp;omega) _)
  (first
   |(go_at_call 22;refine(HOF.out _ ?_).mono ?_;(first|exact(Kept.refl _ _).drew|exact((Kept.refl _ _).drew).alloc (Nat.le_refl _) _);rintro e w2 ⟨gg,bc,loops,rfl,hk2,hp2⟩;have hl2:Kept (fun b=>w1.heap.size≤b) w1 w2:=(by first|exact((Kept.refl _ _).drew).trans (hk2.mono (fun b hb=>hb))|exact(((Kept.refl (fun b=>w1.heap.size≤b) w1).drew).alloc (Nat.le_refl _) _).trans (hk2.mono (fun b hb=>by simp at hb;omega)));have z2:=hl2.size;have HK2:=Lib.hid hk2;have HP2:=Lib.hid hp2;clear hk2 hp2)
   |(go_at_call 23;refine(HNEW.out _).mono ?_;rintro e w3 ⟨ga,rfl,hk3,ha3⟩;have hl3:Kept (fun b=>w1.heap.size≤b) w1 w3:=(by first|exact hl2.trans (hk3.mono (fun b hb=>Nat.le_trans z2 hb))|exact(hl2.alloc z2 _).trans (hk3.mono (fun b hb=>by simp at hb;omega)));have z3:=hl3.size;have HK3:=Lib.hid hk3;have HA3:=Lib.hid ha3;clear hk3 ha3))
 all_goals go_wp2
 ·obtain⟨xl,xf,xq,xm,ha⟩:=HA3.out
  have s1:=K1.out.size
  have s2:=HK2.out.size
  have s3:=HK3.out.size
  have hEl:E.length=p.decls.length*1:=by rw[←HE.out];simp
  simp at s2 s3
  refine bodyPost_ret (v:=.tuple #[.pointer (some ⟨w3.heap.size+1+1,0,none⟩),.int .i64 0,.int .i64 0]) (by simp[results,Tryz.results7,go_sem]) rfl ?_
  exact load_fin HX.out HE.out.symm K1.out ((hl3.alloc z3 _).alloc (by simp;omega) _) (((HP2.out.later HK3.out (fun b hb=>by simpa using hb)).alloc _).alloc _) (Row.at_new _ _ (by simp))
   ((Sl.of_row (Row.new _ _ _) ⟨by omega,.inr (Nat.le_refl _)⟩ hEl (by unfold maxLen;omega)).alloc _) ((ha.alloc _).alloc _) (by simp) (by first|omega|(simp;omega)) (by first|omega|(simp;omega)) (by simp) (by simp)
 ·obtain⟨xl,xf,xq,xm,ha⟩:=HA3.out
  have s1:=K1.out.size
  have s2:=HK2.out.size
  have s3:=HK3.out.size
  have hEl:E.length=p.decls.length*1:=by rw[←HE.out];simp
  simp at s2 s3
  refine bodyPost_ret (v:=.tuple #[.pointer (some ⟨w3.heap.size+1,0,none⟩),.int .i64 0,.int .i64 0]) (by simp[results,Tryz.results7,go_sem]) rfl ?_
  exact load_fin HX.out HE.out.symm K1.out (hl3.alloc z3 _) (((HP2.out.alloc _).later HK3.out (fun b hb=>by simpa using hb)).alloc _) (Row.at_new _ _ (by simp))
   (((Sl.of_row (Row.new _ _ _) ⟨by omega,.inl (by simp)⟩ hEl (by unfold maxLen;omega)).later HK3.out (fun b hb=>hb)).alloc _) (ha.alloc _) (by simp) (by first|omega|(simp;omega)) (by first|omega|(simp;omega)) (by simp) (by simp)
 ·obtain⟨xl,xf,xq,xm,ha⟩:=HA3.out
  have s1:=K1.out.size
  have s2:=HK2.out.size
  have s3:=HK3.out.size
  have hEl:E.length=p.decls.length*1:=by rw[←HE.out];simp
  simp at s2 s3
  refine bodyPost_ret (v:=.tuple #[.pointer (some ⟨w3.heap.size+1,0,none⟩),.int .i64 0,.int .i64 0]) (by simp[results,Tryz.results7,go_sem]) rfl ?_
  exact load_fin HX.out HE.out.symm K1.out (hl3.alloc z3 _) ((HP2.out.later HK3.out (fun b hb=>by simpa using hb)).alloc _) (Row.at_new _ _ (by simp))
   (((((Sl.of_row (Row.new _ _ _) ⟨by first|omega|(simp;omega),.inl (by first|omega|(simp;omega))⟩ hEl (by unfold maxLen;omega)).of_heap (w':=(w1.alloc (.cells E.toArray 3)).drew) rfl).later HK2.out (fun b hb=>hb)).later HK3.out (fun b hb=>hb)).alloc _) (ha.alloc _) (by simp) (by first|omega|(simp;omega)) (by first|omega|(simp;omega)) (by simp) (by simp)
theorem load_any (he:Env B ea w) (ho:ErrObj B ea w) (s:Bytes):Calls Tryz.prog 7 #[vs s] w (OutLoad w s):=by
 cases hr:read s with
 |error x=>exact load_err he ho (k:=x.1) (pos:=x.2) hr
 |ok p=>exact load_ok he hr
end
end Go.Proofs.YtepoejiigmhlbaaGreatDoor.Ev
namespace Go.Proofs.YtepoejiigmhlbaaGreatDoor.Ev
open Go Go.RowKit
theorem ask_no_end {p:Policy} {key:Int} {v:VS} {i:Ins} (hi:isAsk i=true) (r:Except Nat Run):vstep p key v i≠some (.inr r):=by
 intro h
 cases i<;>simp only[isAsk]at hi<;>first|cases hi|skip
 all_goals
  simp only[vstep]at h
  first
   |(split at h<;>simp at h)
   |simp at h
theorem ask_op {i:Ins} (hi:isAsk i=true):9≤i.op∧i.op≤16:=by
 cases i<;>first|(simp[Ins.op];done)|(simp[isAsk]at hi;done)
theorem mem_set_bd {l:List Int} {c:Nat} {n:Int} (h:∀m∈l,0≤m∧m≤50) (hn:0≤n∧n≤50):∀m∈l.set c n,0≤m∧m≤50:=by
 intro m hm
 rcases List.mem_or_eq_of_mem_set hm with h1|h1
 ·exact h m h1
 ·exact h1▸hn
theorem prim_op (y:Prim):y.op≤8:=by
 cases y with
 |put q t=>cases t<;>simp[Prim.op]
 |shift a b t=>cases t<;>simp[Prim.op]
 |_=>simp[Prim.op]
section
variable {B:Nat} {ea:Nat→Addr} {w0 w:World} {x:RV} {p:Policy} {key ev:Int} {code:List Ins} {gl cap:Nat} {res:Except Nat Run}
theorem step_cells (hc:Sl (fun b=>b<B) w 131 3 (.slice (some ⟨gl,0,none⟩) code.length cap) code.length (code.flatMap encStep)) {pc:Nat} {i:Ins} (hi:code[pc]?=some i):
  w.cell? ⟨gl,pc*3,none⟩=some (.int .u8 i.op)∧w.cell? ⟨gl,pc*3+1,none⟩=some (.int .i64 i.a)∧w.cell? ⟨gl,pc*3+2,none⟩=some (.int .i64 i.b)∧gl<w.heap.size∧pc<code.length∧code.length≤cap∧cap≤maxLen:=by
 have c:=fun j hj=>hc.at_ (f:=encStep) (fun _=>rfl) hi (j:=j) hj
 have hl:=(List.getElem?_eq_some_iff.1 hi).1
 obtain⟨g,cp,e,_,h1,h2,h3⟩:=hc.form (by omega)
 injection e with e1 _ e3
 injection e1 with e1
 injection e1 with e1
 subst e1 e3
 exact⟨c 0 (by omega),c 1 (by omega),c 2 (by omega),h3,hl,h1,h2⟩
set_option maxRecDepth 100000 in
set_option maxHeartbeats 16000000 in
theorem run_loop (hcnt:∀c n,Ins.count c n∈code→0≤n∧n≤50) (hp:PolW p) (he:ErrC B ea w0) (hc:Sl (fun b=>b<B) w0 131 3 (.slice (some ⟨gl,0,none⟩) code.length cap) code.length (code.flatMap encStep))
  {SA:Nat→Prop} {A:Arena} {ns:List (List Nat)} {s:St} {k0 bc:Nat} {M:IMap} (hrun:vrun p key code k0 ⟨0,[],false,List.replicate x.lp 0,⟨s,[]⟩⟩=some res) (hm:IsMap w0 bc .i64 M) (hM:mget M ev=some (.slice (some ⟨gl,0,none⟩) code.length cap))
  (hro:RoR B w0 x.gg x.gp x.vd x.bmv (.map (some bc)) x.lp p) (hst:StB B w0 x.gs x.ga x.vva SA A s.vars) (hA:AInv A ns s.q) (hS:SInv p s) (hB:B≤w0.heap.size) (hlp:x.lp≤490000)
  (x1:x.gr=w0.heap.size+1) (x2:x.vlo= .slice (some ⟨w0.heap.size,0,none⟩) x.lp x.lp) (x3:x.bcv= .map (some bc)):
  Calls Tryz.prog 27 #[.pointer (some ⟨x.gg,0,none⟩),.pointer (some ⟨x.gs,0,none⟩),.int .i64 ev,.int .u64 key] w0 (OutRun B ea w0 x.gs p res):=by
 have hJ:=RunR.first (key:=key) hro hst hB hlp
 have hkw:Kept (fun b=>B≤b) w0 ((w0.alloc (.cells (List.replicate x.lp (Value.int .i64 0)).toArray 3)).alloc (.cells #[.pointer (some ⟨x.gg,0,none⟩),.pointer (some ⟨x.gs,0,none⟩),.int .u64 key,.slice none 0 0,.bool false,.slice (some ⟨w0.heap.size,0,none⟩) x.lp x.lp,.slice none 0 0] 153)):=
  ((Kept.refl _ w0).alloc hB _).alloc (Nat.le_trans hB (by simp)) _
 have ex:(⟨w0.heap.size+1,x.gg,x.gp,x.gs,x.ga,x.vd,x.bmv,.map (some bc),x.lp,.slice none 0 0,.slice (some ⟨w0.heap.size,0,none⟩) x.lp x.lp,.slice none 0 0,x.vva⟩:RV)={x with vst:=.slice none 0 0,vou:=.slice none 0 0}:=by rw[←x1,←x2,←x3]
 rw[ex]at hJ
 have c1:=hro.prog.cell 1
 have c2:=hro.prog.cell 2
 have hz:∀w:World,(zeroValue 124).run Tryz.prog w= .ok (.slice none 0 0) w:=fun w=>by kernel_rfl
 have hl:=hm.lookup (P:=Tryz.prog) Tryz.underlying74 Tryz.underlying3 hz ev true
 rw[hM]at hl
 obtain⟨i0,hi0,hz0,hz1,hz2⟩:=info_parts infoInt_
 have hmk:∀W:World,(Instr.makeSlice 69 (.int .i64 (x.lp:Int)) (.int .i64 (x.lp:Int))).run Tryz.prog W=
   .ok (.slice (some ⟨W.heap.size,0,none⟩) x.lp x.lp) (W.alloc (.cells (List.replicate x.lp (Value.int .i64 0)).toArray 3)):=by
  intro W
  have h:=run_make (P:=Tryz.prog) W 69 3 i0 _ Tryz.underlying69 hi0 hz0 .i64 .i64 (x.lp:Int) (x.lp:Int) (by omega) (by omega) (by rw[hz2];omega) (by omega)
  rw[hz1,Int.toNat_natCast]at h
  have e:(Value.int .i64 0).cells=#[Value.int .i64 0]:=rfl
  rw[e,Nat.mul_one,madeCells_one]at h
  exact h
 generalize hE:List.replicate x.lp (Value.int .i64 0)=E at hmk hJ hkw
 have HJ:=Lib.hid hJ
 have HRUN0:=Lib.hid hrun
 have HA0:=Lib.hid hA
 have HS0:=Lib.hid hS
 have HKW:=Lib.hid hkw
 have HX1:=Lib.hid x1
 clear hJ hrun hA hS hkw ex x1 x2 x3 hE hi0 hz0 hz1 hz2 hM hm hro hst hB
 simp at c1 c2 hl
 go_enter Tryz.func27,Tryz.ntmps27
 go_wp2
 refine wp_scope_ghost 0 (RunJ B ea w0 x p ev key code gl cap res) rfl ?_ ?_
 ·intro hpass
  have HP:=Lib.hid hpass
  clear hpass
  apply wp_seq_k;intro K0 hK0;have HK0:=Lib.hid hK0;clear hK0
  go_wp2
  refine HK0.out _ _ ?_
  apply wp_seq_k;intro K1 hK1;have HK1:=Lib.hid hK1;clear hK1
  go_wp2
  refine HK1.out _ _ ?_
  apply wp_seq_k;intro K2 hK2;have HK2:=Lib.hid hK2;clear hK2
  go_wp2
  refine HK2.out _ _ ?_
  apply wp_seq_k;intro K3 hK3;have HK3:=Lib.hid hK3;clear hK3
  go_wp2
  refine HK3.out _ _ ?_
  refine wp_seq (wp_label ?_)
  refine HP.out k0 _ _ ⟨⟨0,[],false,List.replicate x.lp 0,⟨s,[]⟩⟩,.slice none 0 0,.slice none 0 0,SA,A,ns,frame_u _ (fun u=>runFrame x.gg x.gs x.gr gl code.length cap 0 ev key u) (by rw[HX1.out];rfl),HRUN0.out,HJ.out,HA0.out,HS0.out,Nat.zero_le _,?_,HKW.out⟩
  intro n hn
  have:=List.eq_of_mem_replicate hn
  omega
 ·rintro k a w1 ⟨v,st,ou,SA,A,ns,⟨u,rfl⟩,hrun,hr,hA,hS,hl,hlo,hk⟩
  cases k with
  |zero=>cases hrun
  |succ k=>
   unfold vrun at hrun
   cases hi:code[v.pc]? with
   |none=>rw[hi]at hrun;cases hrun
   |some i=>
    rw[hi]at hrun
    simp only at hrun
    have hc1:=hc.kept hk (fun b hb hb2=>by have h1:=hc.2 b hb;simp only at h1;omega)
    have he1:=he.kept hk (fun b hb=>hb)
    obtain⟨s0,s1,s2,hgl,hpc,hcp,hcm⟩:=step_cells hc1 hi
    have HC:=Lib.hid hc1
    have HE:=Lib.hid he1
    have HR:=Lib.hid hr
    have HA:=Lib.hid hA
    have HS:=Lib.hid hS
    have HK:=Lib.hid hk
    have HLO:=Lib.hid hlo
    have HB:=Lib.hid hr.base
    have r1:x.gr<w1.heap.size:=hr.row.lt
    have q1:¬x.gr=w1.heap.size:=by omega
    have q2:¬gl=w1.heap.size:=by omega
    unfold maxLen at hcm
    clear hc1 he1 hr hA hS hk hlo
    have HI:=Lib.hid hi
    clear hi
    unfold runFrame
    by_cases hask:isAsk i=true
    ·cases hv:vstep p key v i with
     |none=>rw[hv]at hrun;cases hrun
     |some y=>
      cases y with
      |inr r=>exact absurd hv (ask_no_end hask r)
      |inl v'=>
       rw[hv]at hrun
       simp only at hrun
       have hro:=HR.out.grown ((Kept.refl _ w1).alloc (Nat.le_refl _) (.cells (encStep i).toArray 131)) HR.out.base
       obtain⟨hcall,hpc',hr',hlp',hl'⟩:=ask_any hro hp HA.out HS.out hl hask hv
       obtain⟨o9,o16⟩:=ask_op hask
       unfold encStep at hcall hro
       obtain⟨o,ho⟩:∃o:Int,o=i.op:=⟨_,rfl⟩
       rw[←ho]at hcall s0 hro
       have e9:9≤o:=by omega
       have e16:o≤16:=by omega
       have f21:(o==21)=false:=by simp;omega
       have f17:(o==17)=false:=by simp;omega
       have f18:(o==18)=false:=by simp;omega
       have f19:(o==19)=false:=by simp;omega
       have f20:(o==20)=false:=by simp;omega
       have HCALL:=Lib.hid hcall
       have HRUN:=Lib.hid hrun
       have HPC:=Lib.hid hpc'
       have HRR:=Lib.hid hr'
       have HL':=Lib.hid hl'
       have HLP:=Lib.hid hlp'
       clear hcall hrun hpc' hr' hlp' hl' hro ho o9 o16 hv hask hl
       generalize i.a=ia at*
       generalize i.b=ib at*
       go_wp2_with (go_at_call 53;refine HCALL.out.mono ?_;rintro e w2 ⟨rfl,hk2,u2,hr2⟩;have HK2:=Lib.hid hk2;have HR2:=Lib.hid hr2;clear hk2 hr2)
       go_step3
       refine⟨rfl,k,Nat.lt_succ_self k,v',u2,ou,SA,A,ns,?_,HRUN.out,HR2.out,by rw[HRR.out];exact HA.out,by rw[HRR.out];exact HS.out,HL'.out,by rw[HLP.out];exact HLO.out,(HK.out.alloc HB.out _).trans HK2.out⟩
       rw[HPC.out]
       exact frame_u _ _ rfl
    ·cases i with
     |fin=>
      simp only[vstep]at hrun
      injection hrun with hrun
      subst hrun
      have c6:=HR.out.row.cell 6
      simp at c6
      have s0':w1.cell? ⟨gl,v.pc*3,none⟩=some (.int .u8 21):=s0
      have s1':w1.cell? ⟨gl,v.pc*3+1,none⟩=some (.int .i64 0):=s1
      have s2':w1.cell? ⟨gl,v.pc*3+2,none⟩=some (.int .i64 0):=s2
      clear s0 s1 s2 hl hask
      go_wp2
      go_ret2
      obtain⟨vl,vf,vq,bm,har⟩:=HR.out.ar
      have hg:=HR.out.grown ((Kept.refl _ w1).alloc (Nat.le_refl _) (.cells #[.int .u8 21,.int .i64 0,.int .i64 0] 131)) HR.out.base
      exact⟨HK.out.alloc HB.out _,ou,x.ga,x.vva,SA,A,ns,rfl,hg.state,HA.out,HS.out,hg.out,fun b hb=>⟨hg.s3 b hb,fun e=>hg.out.ne_row hg.srow (by decide) (e▸hb),fun e=>hg.vars.apart_ne hg.out (by decide) b e hb⟩⟩
     |jump a=>
      simp only[vstep]at hrun
      have s0':w1.cell? ⟨gl,v.pc*3,none⟩=some (.int .u8 17):=s0
      have s1':w1.cell? ⟨gl,v.pc*3+1,none⟩=some (.int .i64 a):=s1
      have s2':w1.cell? ⟨gl,v.pc*3+2,none⟩=some (.int .i64 0):=s2
      have HRUN:=Lib.hid hrun
      have HL':=Lib.hid hl
      clear s0 s1 s2 hl hask hrun
      go_wp2
      go_step3
      exact⟨rfl,k,Nat.lt_succ_self k,{v with pc:=a},st,ou,SA,A,ns,frame_u _ _ rfl,HRUN.out,(HR.out.grown ((Kept.refl _ w1).alloc (Nat.le_refl _) _) HR.out.base).at_ a,HA.out,HS.out,HL'.out,HLO.out,HK.out.alloc HB.out _⟩
     |skip a=>
      simp only[vstep]at hrun
      have s0':w1.cell? ⟨gl,v.pc*3,none⟩=some (.int .u8 18):=s0
      have s1':w1.cell? ⟨gl,v.pc*3+1,none⟩=some (.int .i64 a):=s1
      have s2':w1.cell? ⟨gl,v.pc*3+2,none⟩=some (.int .i64 0):=s2
      have c4:=HR.out.row.cell 4
      have HL':=Lib.hid hl
      clear s0 s1 s2 hl hask
      cases hy:v.yes with
      |true=>
       rw[if_pos hy]at hrun
       simp at c4
       rw[hy]at c4
       have HRUN:=Lib.hid hrun
       clear hrun hy
       go_wp2
       go_step3
       exact⟨rfl,k,Nat.lt_succ_self k,{v with pc:=v.pc+1},st,ou,SA,A,ns,frame_u _ _ rfl,HRUN.out,(HR.out.grown ((Kept.refl _ w1).alloc (Nat.le_refl _) _) HR.out.base).at_ _,HA.out,HS.out,HL'.out,HLO.out,HK.out.alloc HB.out _⟩
      |false=>
       rw[if_neg (by rw[hy];decide)]at hrun
       simp at c4
       rw[hy]at c4
       have HRUN:=Lib.hid hrun
       clear hrun hy
       go_wp2
       go_step3
       exact⟨rfl,k,Nat.lt_succ_self k,{v with pc:=a},st,ou,SA,A,ns,frame_u _ _ rfl,HRUN.out,(HR.out.grown ((Kept.refl _ w1).alloc (Nat.le_refl _) _) HR.out.base).at_ _,HA.out,HS.out,HL'.out,HLO.out,HK.out.alloc HB.out _⟩
     |count c n=>
      simp only[vstep]at hrun
      by_cases hcl:c<v.loops.length
      ·rw[if_pos hcl]at hrun
       simp only at hrun
       obtain⟨gv,cv,ev2,_,hlc,hlm,hgv⟩:=HR.out.loops.form (by omega)
       have s0':w1.cell? ⟨gl,v.pc*3,none⟩=some (.int .u8 19):=s0
       have s1':w1.cell? ⟨gl,v.pc*3+1,none⟩=some (.int .i64 c):=s1
       have s2':w1.cell? ⟨gl,v.pc*3+2,none⟩=some (.int .i64 n):=s2
       have c5:=HR.out.row.cell 5
       simp at c5
       rw[show x.vlo=_ from ev2]at c5
       have hls:=HR.out.loops
       rw[show({x with vst:=st,vou:=ou}:RV).vlo=_ from ev2]at hls
       have cc:∃y,w1.cell? ⟨gv,c,none⟩=some y:=by
        have h2:=hls.1.cellAt c (by simpa using hcl)
        rw[List.getElem?_map,List.getElem?_eq_getElem hcl]at h2
        exact⟨_,h2⟩
       obtain⟨y,cc⟩:=cc
       have cf:∀j,w1.frozen? ⟨gv,j,none⟩=false:=fun j=>hls.1.frozenAt j
       have q3:¬gv=w1.heap.size:=by omega
       have hset:=fun nq=>(HR.out.grown (w':=(w1.alloc (.cells #[.int .u8 19,.int .i64 c,.int .i64 n] 131)).drewN nq) (((Kept.refl _ w1).alloc (Nat.le_refl _) _).drewN nq) HR.out.base).setLoop ev2 c n
       have hgB:B≤gv:=hls.2 gv rfl
       have HRUN:=Lib.hid hrun
       have HL':=Lib.hid hl
       have HSET:=Lib.hid hset
       have HGB:=Lib.hid hgB
       generalize v.loops.length=LL at*
       unfold maxLen at hlm
       clear s0 s1 s2 hl hask hrun ev2 hls hset hgB
       go_wp2
       refine wp_qtail 9 (by kernel_rfl) (by kernel_rfl) ?_
       simp only[List.take_succ_cons,List.take_zero,List.drop_succ_cons,List.drop_zero]
       repeat (go_big_quiet_step (fail))
       refine wpQuiet_nil ?_
       intro nq
       go_wp2
       go_step3
       exact⟨rfl,k,Nat.lt_succ_self k,{v with pc:=v.pc+1,loops:=v.loops.set c n},st,ou,SA,A,ns,frame_u _ _ rfl,HRUN.out,(HSET.out nq).at_ _,HA.out,HS.out,HL'.out,mem_set_bd HLO.out (hcnt c n (List.mem_of_getElem? HI.out)),((HK.out.alloc HB.out _).drewN nq).setCell (p:=⟨gv,c,none⟩) HGB.out _⟩
      ·rw[if_neg hcl]at hrun;cases hrun
     |again c a=>
      simp only[vstep]at hrun
      cases hcn:v.loops[c]? with
      |none=>rw[hcn]at hrun;cases hrun
      |some n=>
       rw[hcn]at hrun
       simp only at hrun
       have hcl:c<v.loops.length:=(List.getElem?_eq_some_iff.1 hcn).1
       obtain⟨hn0,hn50⟩:=HLO.out n (List.mem_of_getElem? hcn)
       obtain⟨gv,cv,ev2,_,hlc,hlm,hgv⟩:=HR.out.loops.form (by omega)
       have s0':w1.cell? ⟨gl,v.pc*3,none⟩=some (.int .u8 20):=s0
       have s1':w1.cell? ⟨gl,v.pc*3+1,none⟩=some (.int .i64 c):=s1
       have s2':w1.cell? ⟨gl,v.pc*3+2,none⟩=some (.int .i64 a):=s2
       have c5:=HR.out.row.cell 5
       simp at c5
       rw[show x.vlo=_ from ev2]at c5
       have hls:=HR.out.loops
       rw[show({x with vst:=st,vou:=ou}:RV).vlo=_ from ev2]at hls
       have cc:w1.cell? ⟨gv,c,none⟩=some (.int .i64 n):=by
        have h2:=hls.1.cellAt c (by simpa using hcl)
        rw[List.getElem?_map,hcn]at h2
        exact h2
       have cf:∀j,w1.frozen? ⟨gv,j,none⟩=false:=fun j=>hls.1.frozenAt j
       have q3:¬gv=w1.heap.size:=by omega
       have hgr:=fun nq=>HR.out.grown (w':=(w1.alloc (.cells #[.int .u8 20,.int .i64 c,.int .i64 a] 131)).drewN nq) (((Kept.refl _ w1).alloc (Nat.le_refl _) _).drewN nq) HR.out.base
       have hset:=fun nq=>(hgr nq).setLoop ev2 c (n-1)
       have hgB:B≤gv:=hls.2 gv rfl
       have HRUN:=Lib.hid hrun
       have HL':=Lib.hid hl
       have HSET:=Lib.hid hset
       have HGR:=Lib.hid hgr
       have HGB:=Lib.hid hgB
       generalize hLL:v.loops.length=LL at*
       unfold maxLen at hlm
       clear hLL
       clear s0 s1 s2 hl hask hrun ev2 hls hset hgr hgB hcn
       by_cases hz:n=0
       ·subst hz
        have hrun:=HRUN.out
        rw[if_pos rfl]at hrun
        simp only at hrun
        have HRUN2:=Lib.hid hrun
        clear hrun
        go_wp2
        go_quiet (fail)
        go_wp2
        go_step3
        exact⟨rfl,k,Nat.lt_succ_self k,{v with pc:=a},st,ou,SA,A,ns,frame_u _ _ rfl,HRUN2.out,(HGR.out nq).at_ _,HA.out,HS.out,HL'.out,HLO.out,(HK.out.alloc HB.out _).drewN nq⟩
       ·have hrun:=HRUN.out
        rw[if_neg hz]at hrun
        simp only at hrun
        have HRUN2:=Lib.hid hrun
        have z1:(n==0)=false:=by simpa using hz
        have z2:decide (n=0)=false:=by simpa using hz
        have hwr:IntKind.i64.wrap (n-1)=n-1:=IntWalk.i64_in _ (by omega)
        clear hrun
        go_wp2
        go_quiet (fail)
        go_wp2
        refine wp_qtail 10 (by kernel_rfl) (by kernel_rfl) ?_
        simp only[List.take_succ_cons,List.take_zero,List.drop_succ_cons,List.drop_zero]
        repeat (go_big_quiet_step (fail))
        refine wpQuiet_nil ?_
        intro nq2
        go_wp2
        go_step3
        exact⟨rfl,k,Nat.lt_succ_self k,{v with pc:=v.pc+1,loops:=v.loops.set c (n-1)},st,ou,SA,A,ns,frame_u _ _ rfl,HRUN2.out,(HSET.out _).at_ _,HA.out,HS.out,HL'.out,mem_set_bd HLO.out (by omega),((HK.out.alloc HB.out _).drewN _).setCell (p:=⟨gv,c,none⟩) HGB.out _⟩
     |prim y=>
      simp only[vstep]at hrun
      by_cases hok:PrimOk p.decls y∧v.r.gone.length<goneMax
      ·rw[if_pos hok]at hrun
       have hro:=HR.out.grown ((Kept.refl _ w1).alloc (Nat.le_refl _) (.cells (encStep (.prim y)).toArray 131)) HR.out.base
       have heo:=HE.out.kept ((Kept.refl (fun b=>B≤b) w1).alloc HR.out.base (.cells (encStep (.prim y)).toArray 131)) (fun b hb=>hb)
       have hcall:=do_prim hro heo hp HA.out HS.out hok.2 hok.1
       have o8:=prim_op y
       unfold encStep at hcall hro heo
       obtain⟨o,ho⟩:∃o:Int,o=(Ins.prim y).op:=⟨_,rfl⟩
       have e8:o≤8:=by rw[ho];show((y.op:Nat):Int)≤8;omega
       rw[←ho]at hcall s0 hro heo
       have f21:(o==21)=false:=by simp;omega
       have f17:(o==17)=false:=by simp;omega
       have f18:(o==18)=false:=by simp;omega
       have f19:(o==19)=false:=by simp;omega
       have f20:(o==20)=false:=by simp;omega
       have HRUN:=Lib.hid hrun
       have HCALL:=Lib.hid hcall
       have HL':=Lib.hid hl
       have HB1:=Lib.hid ((HK.out.alloc HB.out (.cells #[.int .u8 o,.int .i64 (Ins.prim y).a,.int .i64 (Ins.prim y).b] 131)))
       clear hrun hcall hro heo ho o8 hok hask hl
       generalize (Ins.prim y).a=ia at*
       generalize (Ins.prim y).b=ib at*
       cases hx:prim p key y v.r with
       |error ke=>
        have hrun:=HRUN.out
        rw[hx]at hrun
        simp only at hrun
        injection hrun with hrun
        subst hrun
        have hcall:=HCALL.out
        rw[hx]at hcall
        have HCALL2:=Lib.hid hcall
        clear hcall hx
        go_wp2_with (go_at_call 54;refine HCALL2.out.mono ?_;rintro e w2 ⟨hk2,he2⟩;have he3:e= .returned (.iface 307 (.pointer (some (ea ke)))):=he2;subst he3;have HK2:=Lib.hid hk2;clear hk2 he2)
        go_ret2
        exact⟨HB1.out.trans HK2.out,rfl⟩
       |ok r'=>
        have hrun:=HRUN.out
        rw[hx]at hrun
        simp only at hrun
        have hcall:=HCALL.out
        rw[hx]at hcall
        have HCALL2:=Lib.hid hcall
        have HRUN2:=Lib.hid hrun
        clear hcall hx hrun
        go_wp2_with (go_at_call 54;refine HCALL2.out.mono ?_;rintro e w2 ⟨hk2,rfl,hr2⟩;have HK2:=Lib.hid hk2;have HR2:=Lib.hid hr2;clear hk2 hr2)
        go_step3
        obtain⟨SA',u2,A',ns',r1,r2,r3⟩:=HR2.out
        exact⟨rfl,k,Nat.lt_succ_self k,{v with pc:=v.pc+1,r:=r'},st,u2,SA',A',ns',frame_u _ _ rfl,HRUN2.out,r1.at_ _,r2,r3,HL'.out,HLO.out,HB1.out.trans HK2.out⟩
      ·rw[if_neg hok]at hrun;cases hrun
     |_=>exact absurd rfl hask
def NoRule (w0:World) (e:Ending) (w':World):Prop:=e= .returned (.tuple #[.slice none 0 0,.nilIface])∧w'=w0
set_option maxRecDepth 100000 in
set_option maxHeartbeats 4000000 in
theorem run_none {gg gs bc lp:Nat} {vp:Value} {M:IMap} (hm:IsMap w0 bc .i64 M) (hM:mget M ev=none) (hro:Row w0 gg 76 [vp,.map (some bc),.int .i64 lp]):
  Calls Tryz.prog 27 #[.pointer (some ⟨gg,0,none⟩),.pointer (some ⟨gs,0,none⟩),.int .i64 ev,.int .u64 key] w0 (NoRule w0):=by
 have c1:=hro.cell 1
 have hz:∀w:World,(zeroValue 124).run Tryz.prog w= .ok (.slice none 0 0) w:=fun w=>by kernel_rfl
 have hl:=hm.lookup (P:=Tryz.prog) Tryz.underlying74 Tryz.underlying3 hz ev true
 rw[hM]at hl
 clear hm hM hro
 simp at c1 hl
 go_enter Tryz.func27,Tryz.ntmps27
 go_wp2
 refine wp_scope_ghost 0 (fun _ _ _=>False) rfl ?_ ?_
 ·intro hpass
  clear hpass
  go_wp2
  go_ret2
  exact⟨rfl,rfl⟩
 ·intro k a w h
  exact h.elim
theorem run_any {gg gp gs ga bc lp:Nat} {vd bmv vva:Value} {M:IMap} {SA:Nat→Prop} {A:Arena} {ns:List (List Nat)} {s:St} (hp:PolW p) (he:ErrC B ea w0) (hro:RoR B w0 gg gp vd bmv (.map (some bc)) lp p) (hst:StB B w0 gs ga vva SA A s.vars) (hA:AInv A ns s.q) (hS:SInv p s)
  (hB:B≤w0.heap.size) (hlp:lp≤490000) (hm:IsMap w0 bc .i64 M)
  (hr:match ruleOf p.rules ev with|some _=>∃v,mget M ev=some v∧RuleC (fun b=>b<B) w0 p.rules lp ev v|none=>mget M ev=none):
  Calls Tryz.prog 27 #[.pointer (some ⟨gg,0,none⟩),.pointer (some ⟨gs,0,none⟩),.int .i64 ev,.int .u64 key] w0 (OutRun B ea w0 gs p (exec p key (ruleFor p ev) ⟨s,[]⟩)):=by
 cases hru:ruleOf p.rules ev with
 |none=>
  rw[hru]at hr
  have e:exec p key (ruleFor p ev) ⟨s,[]⟩= .ok ⟨s,[]⟩:=by unfold ruleFor;rw[hru];rfl
  rw[e]
  refine(run_none hm hr hro.prog).mono ?_
  rintro e w' ⟨rfl,rfl⟩
  exact⟨Kept.refl _ _,_,ga,vva,SA,A,ns,rfl,hst,hA,hS,⟨World.ownsRow_nil _ _ _ _,fun g hg=>by cases hg⟩,fun b hb=>by cases hb⟩
 |some b=>
  rw[hru]at hr
  obtain⟨v,hM,b',c,hb',hs,hcl⟩:=hr
  rw[hru]at hb'
  injection hb' with hb'
  subst hb'
  have e:ruleFor p ev=b:=by unfold ruleFor;rw[hru];rfl
  rw[e]
  have hlen:0<(ruleCode c b).length:=by unfold ruleCode;simp
  obtain⟨gl,cap,rfl,_⟩:=hs.form hlen
  obtain⟨k0,hk0⟩:=rule_run (key:=key) b c (rule_ok hp hru) s (List.replicate lp 0) (by simpa using hcl) (Nat.le_trans (rule_most hp hru) (by unfold goneMax;omega))
  have hW:=hp.rules.each _ (ruleOf_memW hru)
  exact run_loop (x:=⟨w0.heap.size+1,gg,gp,gs,ga,vd,bmv,.map (some bc),lp,.slice none 0 0,.slice (some ⟨w0.heap.size,0,none⟩) lp lp,.slice none 0 0,vva⟩) (code:=ruleCode c b) (rule_count hW.w) hp he hs hk0 hm hM hro hst hA hS hB hlp rfl rfl rfl
end
end Go.Proofs.YtepoejiigmhlbaaGreatDoor.Ev
namespace Go.Proofs.YtepoejiigmhlbaaGreatDoor.Ev
open Go Go.RowKit
theorem one_flat {α:Type} {f:α→List Value} (hf:∀x,∀u∈f x,u.oneCell'=true) (l:List α):∀u∈l.flatMap f,u.oneCell'=true:=by
 intro u hu
 obtain⟨x,_,hx⟩:=List.mem_flatMap.1 hu
 exact hf x u hx
structure Clo (w:World) (A:Arena) (wx:World) (gb bm:Nat) (vl vf vq:Value):Prop where
 row:Row wx gb 136 [vl,vf,vq,.map (some bm)]
 l:Sl (fun b=>w.heap.size≤b) wx 148 5 vl A.l.length (A.l.flatMap encNode)
 f:Sl (fun b=>w.heap.size≤b) wx 3 1 vf A.free.length (A.free.map encInt)
 q:Sl (fun b=>w.heap.size≤b) wx 174 3 vq A.qs.length (A.qs.flatMap encEnds)
 m:IsMap wx bm .u64 []
 g0:w.heap.size≤gb
 m0:w.heap.size≤bm
 kept:Kept (fun b=>w.heap.size≤b) w wx
theorem clo_close {w W:World} {A:Arena} {gb bm:Nat} {vl vf vq:Value} (hgb:gb=W.heap.size) (hm:IsMap W bm .u64 []) (hl:Sl (fun b=>w.heap.size≤b) W 148 5 vl A.l.length (A.l.flatMap encNode))
  (hf:Sl (fun b=>w.heap.size≤b) W 3 1 vf A.free.length (A.free.map encInt)) (hq:Sl (fun b=>w.heap.size≤b) W 174 3 vq A.qs.length (A.qs.flatMap encEnds)) (hb:w.heap.size≤bm)
  (hk:Kept (fun b=>w.heap.size≤b) w W):Clo w A (W.alloc (.cells #[vl,vf,vq,.map (some bm)] 136)) gb bm vl vf vq:=by
 subst hgb
 exact⟨Row.new W _ _,hl.alloc _,hf.alloc _,hq.alloc _,hm.alloc _,hk.size,hb,hk.alloc hk.size _⟩
theorem IsMap.later {w w':World} {T:Nat→Prop} {b:Nat} {k:IntKind} {M:IMap} (h:IsMap w b k M) (hk:Kept T w w') (hT:∀b,T b→w.heap.size≤b):IsMap w' b k M:=h.kept hk (fun ht=>by have:=h.lt;have:=hT _ ht;omega)
structure CloL (w:World) (A:Arena) (bm r:Nat) (wr:World) (gb bb:Nat) (vl vf vq:Value) (sk:List Int):Prop where
 rng:RangeAt wr r bm .u64 (encAt A.at_) sk
 nd:sk.Nodup
 sub:∀k∈sk,k∈(encAt A.at_).map (·.1)
 row:Row wr gb 136 [vl,vf,vq,.map (some bb)]
 l:Sl (fun b=>w.heap.size≤b) wr 148 5 vl A.l.length (A.l.flatMap encNode)
 f:Sl (fun b=>w.heap.size≤b) wr 3 1 vf A.free.length (A.free.map encInt)
 q:Sl (fun b=>w.heap.size≤b) wr 174 3 vq A.qs.length (A.qs.flatMap encEnds)
 m:IsMap wr bb .u64 (encAt (sk.reverse.map fun k=>(k,(A.idx k).getD 0)))
 g0:w.heap.size≤gb
 m0:w.heap.size≤bb
 kept:Kept (fun b=>w.heap.size≤b) w wr
theorem encAt_idx {A:Arena} {k:Int} {v:Value} (hn:(A.at_.map (·.1)).Nodup) (h:(k,v)∈encAt A.at_):v= .int .i64 (((A.idx k).getD 0:Nat):Int):=by
 unfold encAt at h
 obtain⟨x,hx,e⟩:=List.mem_map.1 h
 injection e with e1 e2
 subst e1 e2
 have:A.idx x.1=some x.2:=by
  unfold Arena.idx
  generalize A.at_=l at hn hx
  induction l with
  |nil=>cases hx
  |cons y l ih=>
   rw[List.map_cons,List.nodup_cons]at hn
   rcases List.mem_cons.1 hx with rfl|hx
   ·simp
   ·have hne:¬y.1=x.1:=fun e=>hn.1 (e▸List.mem_map.2 ⟨x,hx,rfl⟩)
    rw[List.find?_cons_of_neg (by simpa using hne)]
    exact ih hn.2 hx
 rw[this];rfl
theorem idx_mem {A:Arena} {k:Int}:(A.idx k).isSome=true↔k∈(encAt A.at_).map (·.1):=by
 unfold Arena.idx encAt
 rw[Option.isSome_map,List.find?_isSome,List.map_map]
 constructor
 ·rintro⟨x,hx,h⟩
  exact List.mem_map.2 ⟨x,hx,by simpa using h⟩
 ·intro h
  obtain⟨x,hx,h⟩:=List.mem_map.1 h
  exact⟨x,hx,by simpa using h⟩
theorem nodup_rev {l:List Int} (h:l.Nodup):l.reverse.Nodup:=by
 induction l with
 |nil=>exact List.nodup_nil
 |cons x l ih=>
  rw[List.nodup_cons]at h
  rw[List.reverse_cons,List.nodup_append]
  refine⟨ih h.2,by simp,fun a ha b hb e=>?_⟩
  rw[List.mem_singleton]at hb
  rw[e,hb,List.mem_reverse]at ha
  exact h.1 ha
theorem mget_encAt_none {l:List Int} {f:Int→Nat} {k:Int} (h:k∉l):mget (encAt (l.map fun k=>(k,f k))) k=none:=by
 rw[mget_encAt,find_map_key,if_neg h];rfl
theorem encAt_snoc (l:List Int) (f:Int→Nat) (k:Int):encAt ((l++[k]).map fun k=>(k,f k))=encAt (l.map fun k=>(k,f k))++[(k,.int .i64 (f k:Nat))]:=by
 unfold encAt
 rw[List.map_append,List.map_append];rfl
section
variable {S:Nat→Prop} {w:World} {g bm:Nat} {A:Arena} {vl vf vq:Value}
attribute [local go_sem ↓] Go.wp_at_zero Go.wp_at_succ
set_option maxRecDepth 100000 in
set_option maxHeartbeats 4000000 in
theorem aclone_any (h:ARep S w g A vl vf vq bm) (l1:A.l.length≤1000000) (l2:A.free.length≤1000000) (l3:A.qs.length≤1000000) (hnd:(A.at_.map (·.1)).Nodup):Calls Tryz.prog 52 #[.pointer (some ⟨g,0,none⟩)] w fun e w'=>
  ∃g' sk,e= .returned (.pointer (some ⟨g',0,none⟩))∧Kept (fun b=>w.heap.size≤b) w w'∧(∃vl vf vq bm,ARep (fun b=>w.heap.size≤b) w' g' (A.reord sk) vl vf vq bm)∧sk.Nodup∧∀k,k∈sk↔(A.idx k).isSome=true:=by
 have hmm:=@run_makeMap Tryz.prog
 have c0:=h.row.cell 0
 have c1:=h.row.cell 1
 have c2:=h.row.cell 2
 have c3:=h.row.cell 3
 have r1:=h.row.lt
 obtain⟨al,cl,rfl⟩:∃a c,vl= .slice a A.l.length c:=h.l.shape
 obtain⟨af,cf,rfl⟩:∃a c,vf= .slice a A.free.length c:=h.f.shape
 obtain⟨aq,cq,rfl⟩:∃a c,vq= .slice a A.qs.length c:=h.q.shape
 obtain⟨i0,hi0,hz0,hz1,hz2⟩:=info_parts infoNode
 obtain⟨j0,hj0,hy0,hy1,hy2⟩:=info_parts infoInt_
 obtain⟨k0,hk0,hx0,hx1,hx2⟩:=info_parts infoEnds
 have s1:=h.l.src
 have s2:=h.f.src
 have s3:=h.q.src
 have o1:∀u∈A.l.flatMap encNode,u.oneCell'=true:=one_flat (fun x u hu=>by simp[encNode]at hu;rcases hu with rfl|rfl|rfl|rfl|rfl<;>rfl) _
 have o2:∀u∈A.free.map encInt,u.oneCell'=true:=by intro u hu;obtain⟨x,_,rfl⟩:=List.mem_map.1 hu;rfl
 have o3:∀u∈A.qs.flatMap encEnds,u.oneCell'=true:=one_flat (fun x u hu=>by simp[encEnds]at hu;rcases hu with rfl|rfl|rfl<;>rfl) _
 have b1:=h.l.src_lt
 have b2:=h.f.src_lt
 have b3:=h.q.src_lt
 have HH:=Lib.hid h
 have S1:=Lib.hid s1
 have S2:=Lib.hid s2
 have S3:=Lib.hid s3
 have O1:=Lib.hid o1
 have O2:=Lib.hid o2
 have O3:=Lib.hid o3
 have B1:=Lib.hid b1
 have B2:=Lib.hid b2
 have B3:=Lib.hid b3
 have m1:A.l.length≤maxLen:=by unfold maxLen;omega
 have m2:A.free.length≤maxLen:=by unfold maxLen;omega
 have m3:A.qs.length≤maxLen:=by unfold maxLen;omega
 have n1:A.l.length*40≤140737488355328:=by omega
 have n2:A.free.length*8≤140737488355328:=by omega
 have n3:A.qs.length*24≤140737488355328:=by omega
 clear h s1 s2 s3 o1 o2 o3 b1 b2 b3
 simp at c0 c1 c2 c3
 go_enter Tryz.func52,Tryz.ntmps52
 go_wp2_with fail
 go_upto_region 2 with fail
 go_cut [3] (fun s3 wx=>∃gb bm vl vf vq,s3= .pointer (some ⟨gb,0,none⟩)∧Clo w A wx gb bm vl vf vq)
 case first=>
  as_aux_lemma=>
  go_region_held3 (fun w'=>w'.cell? ⟨g,0,none⟩=some (.slice al A.l.length cl)∧w'.cell? ⟨g,1,none⟩=some (.slice af A.free.length cf)∧w'.cell? ⟨g,2,none⟩=some (.slice aq A.qs.length cq)∧Kept (fun b=>w.heap.size≤b) w w')
   ((repeat' apply And.intro)<;>(first
    |assumption
    |exact(Kept.cell hl1 (by simp only;omega)).trans c0
    |exact(Kept.cell hl1 (by simp only;omega)).trans c1
    |exact(Kept.cell hl1 (by simp only;omega)).trans c2
    |exact(Kept.cell hl2 (by simp only;omega)).trans c0
    |exact(Kept.cell hl2 (by simp only;omega)).trans c1
    |exact(Kept.cell hl2 (by simp only;omega)).trans c2
    |exact(Kept.cell hl3 (by simp only;omega)).trans c0
    |exact(Kept.cell hl3 (by simp only;omega)).trans c1
    |exact(Kept.cell hl3 (by simp only;omega)).trans c2
    |(with_reducible exact(Kept.refl _ _).drew)
    |(refine Kept.drew ?_;assumption)
    |exact(Kept.refl _ _).drew.alloc (Nat.le_refl _) _
    |exact hl1.alloc z1 _
    |exact hl2.alloc z2 _
    |exact hl3.alloc z3 _
    |exact(hl3.alloc z3 _).alloc (by simp;omega) _
    |go_keep
    ))
   (first
    |(refine step_copy (w0:=w) (N:=w.heap.size) ?_ (Nat.le_refl _) S1.out B1.out Tryz.underlying132 hi0 hz0 hz1 hz2 rfl (by decide) O1.out m1 n1 (by rfl) _ _ (by rfl) (by rfl) (by rfl) ?_;(first|exact(Kept.refl _ _).drew|exact hl1|exact hl2|exact(Kept.refl _ _).drew.alloc (Nat.le_refl _) _|exact hl1.alloc hl1.size _|exact hl2.alloc hl2.size _|assumption);intro a1 e1 w1 hs1 hk1 hl1;have z1:=hl1.size;have HS1:=Lib.hid hs1;have HK1:=Lib.hid hk1;clear hs1 hk1)
    |(refine step_copy (w0:=w) (N:=w.heap.size) ?_ (Nat.le_refl _) S2.out B2.out Tryz.underlying69 hj0 hy0 hy1 hy2 rfl (by decide) O2.out m2 n2 (by rfl) _ _ (by rfl) (by rfl) (by rfl) ?_;(first|exact(Kept.refl _ _).drew|exact hl1|exact hl2|exact(Kept.refl _ _).drew.alloc (Nat.le_refl _) _|exact hl1.alloc hl1.size _|exact hl2.alloc hl2.size _|assumption);intro a2 e2 w2 hs2 hk2 hl2;have z2:=hl2.size;have HS2:=Lib.hid hs2;have HK2:=Lib.hid hk2;clear hs2 hk2)
    |(refine step_copy (w0:=w) (N:=w.heap.size) ?_ (Nat.le_refl _) S3.out B3.out Tryz.underlying133 hk0 hx0 hx1 hx2 rfl (by decide) O3.out m3 n3 (by rfl) _ _ (by rfl) (by rfl) (by rfl) ?_;(first|exact(Kept.refl _ _).drew|exact hl1|exact hl2|exact(Kept.refl _ _).drew.alloc (Nat.le_refl _) _|exact hl1.alloc hl1.size _|exact hl2.alloc hl2.size _|assumption);intro a3 e3 w3 hs3 hk3 hl3;have z3:=hl3.size;have HS3:=Lib.hid hs3;have HK3:=Lib.hid hk3;clear hs3 hk3))
  all_goals
   go_wp2
   go_meet
   refine⟨_,_,_,_,_,rfl,clo_close (by simp) ?_ ?_ ?_ ?_ ?_ ?_⟩
   ·repeat' first|with_reducible exact IsMap.at_new _ rfl|with_reducible refine IsMap.later ?_ HK3.out (fun b hb=>by simpa using hb)|with_reducible refine IsMap.later ?_ HK2.out (fun b hb=>by simpa using hb)|with_reducible refine IsMap.later ?_ HK1.out (fun b hb=>by simpa using hb)|with_reducible refine IsMap.drew ?_|with_reducible refine IsMap.alloc ?_ _
   ·repeat' first|exact HS1.out.mono (fun b hb=>(by first|omega|(simp at hb;omega)))|with_reducible refine Sl.later ?_ HK3.out (fun b hb=>hb)|with_reducible refine Sl.later ?_ HK2.out (fun b hb=>hb)|with_reducible refine Sl.alloc ?_ _
   ·repeat' first|exact HS2.out.mono (fun b hb=>(by first|omega|(simp at hb;omega)))|with_reducible refine Sl.later ?_ HK3.out (fun b hb=>hb)|with_reducible refine Sl.alloc ?_ _
   ·repeat' first|exact HS3.out.mono (fun b hb=>(by first|omega|(simp at hb;omega)))|with_reducible refine Sl.alloc ?_ _
   ·first|exact Nat.le_refl _|omega
   ·first|exact hl3|exact hl3.alloc z3 _
 case rest=>
  obtain⟨gb,bm',vl',vf',vq',rfl,hclo⟩:=hcut
  have hm0:IsMap wc bm .u64 (encAt A.at_):=HH.out.m.kept hclo.kept (by have:=HH.out.m.lt;omega)
  obtain⟨clock,hrun,hrng⟩:=hm0.range (P:=Tryz.prog) Tryz.underlying134
  have d3:wc.cell? ⟨g,3,none⟩=some (.map (some bm)):=(hclo.kept.cell (p:=⟨g,3,none⟩) (by simp only;omega)).trans c3
  have HC:=Lib.hid hclo
  have HR:=Lib.hid hrng
  have HND:=Lib.hid hnd
  clear hclo hrng hnd hm0 c0 c1 c2 c3
  go_wp2_with fail
  go_loopg [] A.at_.length (fun kk wr=>∃sk,A.at_.length-sk.length≤kk∧CloL w A bm wc.heap.size wr gb bm' vl' vf' vq' sk)
  case atStart=>
   have C:=HC.out
   have hk:Kept (fun b=>w.heap.size≤b) w (wc.alloc (.mapIter (some bm) clock #[] clock)):=C.kept.alloc C.kept.size _
   exact⟨[],by simp,HR.out,List.nodup_nil,(fun k hk=>absurd hk List.not_mem_nil),C.row.alloc _,C.l.alloc _,C.f.alloc _,C.q.alloc _,C.m.alloc _,C.g0,C.m0,hk⟩
  case round=>
   obtain⟨sk,hkk,hL⟩:=hrel
   have hskl:sk.length≤A.at_.length:=by
    have h1:=nodup_le sk _ hL.nd hL.sub
    unfold encAt at h1
    simpa using h1
   rcases hL.rng.next (P:=Tryz.prog) 0 with⟨hall,hrun⟩|⟨y,hy,hns,w',hrun,hr',hk',hen⟩
   ·have HL:=Lib.hid hL
    have HALL:=Lib.hid hall
    clear hL hall
    go_wp2_with fail
    go_ret
    have L:=HL.out
    refine⟨gb,sk.reverse,rfl,L.kept,⟨vl',vf',vq',bm',L.row,L.l,L.f,L.q,L.m,L.g0,L.m0⟩,nodup_rev L.nd,fun k=>?_⟩
    rw[idx_mem,List.mem_reverse]
    refine⟨L.sub k,fun hk=>?_⟩
    obtain⟨x,hx,e⟩:=List.mem_map.1 hk
    exact e▸HALL.out x hx
   ·obtain⟨k,v⟩:=y
    simp only at hns hrun hr' hen
    have hv:=encAt_idx HND.out hy
    subst hv
    have hin:k∈(encAt A.at_).map (·.1):=List.mem_map.2 ⟨_,hy,rfl⟩
    have hskl':(k::sk).length≤A.at_.length:=by
     have h1:=nodup_le (k::sk) _ (List.nodup_cons.2 ⟨hns,hL.nd⟩) (fun x hx=>(List.mem_cons.1 hx).elim (fun e=>e▸hin) (hL.sub x))
     unfold encAt at h1
     simpa using h1
    have hgr:gb≠wc.heap.size:=hL.rng.ne_row hL.row
    have hbr:bm'≠wc.heap.size:=by
     rintro rfl
     obtain⟨es,c,sb,_,_,_,_,_,h6,_⟩:=hL.rng
     obtain⟨es',c',h7,_⟩:=hL.m
     rw[h6]at h7;cases h7
    have hbb:bm'≠bm:=by
     have:=HH.out.m.lt
     have:=HC.out.m0
     omega
    have ok':∀{e:TypeId} {size n:Nat} {v:Value} {xs:List Value},Sl (fun b=>w.heap.size≤b) wr e size v n xs→Sl (fun b=>w.heap.size≤b) w' e size v n xs:=fun h=>h.kept hk' (fun b hb e=>by
     obtain⟨cs,hrw⟩:=h.row hb
     exact hL.rng.ne_row hrw e)
    have hrow':=hL.row.kept hk' hgr
    have hm':=hL.m.kept hk' hbr
    have d3':=hrow'.cell 3
    have HL:=Lib.hid hL
    have HR':=Lib.hid hr'
    have HK':=Lib.hid hk'
    have HNS:=Lib.hid hns
    have HIN:=Lib.hid hin
    have HROW:=Lib.hid hrow'
    have HM':=Lib.hid hm'
    have HL1:=Lib.hid (ok' hL.l)
    have HL2:=Lib.hid (ok' hL.f)
    have HL3:=Lib.hid (ok' hL.q)
    clear hL hr' hk' hns hin hrow' hm' ok' hy
    simp at d3'
    go_wp2_with (at_mapUpdate;go_must (refine wp_mapUpdate Tryz.underlying134 Tryz.underlying32 HM'.out rfl _ _ _ rfl rfl k rfl _ rfl ?_;intro w6 hm6 hk6;have Hm6:=Lib.hid hm6;have Hk6:=Lib.hid hk6;clear hm6 hk6))
    have hsk:mget (encAt (sk.reverse.map fun k=>(k,(A.idx k).getD 0))) k=none:=mget_encAt_none (fun h=>HNS.out (List.mem_reverse.1 h))
    have hm6:=Hm6.out
    rw[mput_fresh _ hsk]at hm6
    go_roundg (A.at_.length-(sk.length+1))
    case measure=>have:(k::sk).length=sk.length+1:=rfl;omega
    case rel=>
     have hne:∀x t cs,Row w' x t cs→¬x=bm':=fun x t cs hr e=>HM'.out.ne_row hr e.symm
     have ok6:∀{e:TypeId} {size n:Nat} {v:Value} {xs:List Value},Sl (fun b=>w.heap.size≤b) w' e size v n xs→Sl (fun b=>w.heap.size≤b) w6 e size v n xs:=fun h=>h.kept Hk6.out (fun b hb e=>by
      obtain⟨cs,hrw⟩:=h.row hb
      exact hne _ _ _ hrw e)
     refine⟨k::sk,by simp,HR'.out.kept_ (Hk6.out.block _ (fun e=>hbr e.symm)) (Hk6.out.block _ (fun e=>hbb e.symm)),List.nodup_cons.2 ⟨HNS.out,HL.out.nd⟩,fun x hx=>(List.mem_cons.1 hx).elim (fun e=>e▸HIN.out) (HL.out.sub x),
      HROW.out.kept Hk6.out (hne _ _ _ HROW.out),ok6 HL1.out,ok6 HL2.out,ok6 HL3.out,?_,HL.out.g0,HL.out.m0,?_⟩
     ·rw[List.reverse_cons,encAt_snoc]
      exact hm6
     ·exact(HL.out.kept.trans (HK'.out.mono (fun b hb=>by rw[hb];exact HC.out.kept.size))).trans (Hk6.out.mono (fun b hb=>by rw[hb];exact HL.out.m0))
end
end Go.Proofs.YtepoejiigmhlbaaGreatDoor.Ev
