/- Parts of a proof that a law's walk returns true. Conditions: none. -/
import Derived.Test.YtemppijblfflgaaGreatDoorZa00
import Derived.Test.YtemppijblfflgaaGreatDoorZa01
import Derived.Test.YtemppijblfflgaaGreatDoorZa08
import Derived.Test.YtemppijblfflgaaGreatDoorZa09
import Derived.Test.YtemppijblfflgaaGreatDoorZa10
import Derived.Test.YtemppijblfflgaaGreatDoorZa14
import Derived.Test.YtemppijblfflgaaGreatDoorZa19
import Derived.Test.YtemppijblfflgaaGreatDoorZa21
import Derived.Test.YtemppijblfflgaaGreatDoorZa22
import Derived.Test.YtemppijblfflgaaGreatDoorZa23
set_option linter.all false
set_option maxRecDepth 100000
set_option maxHeartbeats 8000000
namespace Go.Proofs.YtemppijblfflgaaGreatDoor.Ev
open Go Go.RowKit Go.Extern.Stop Go.Stop Go.Extern
theorem XC (t:Addr) (w:World):(ReflectliteValue.unpack (.iface 108 (.pointer (some t)))).run Tryz.prog w
  = .ok (.agg #[.pointer (some ⟨21,108,none⟩),.pointer (some ⟨w.heap.size,0,none⟩),.int .u64 150]) (w.alloc (.cells #[.pointer (some t)] 108)):=by kernel_rfl
theorem je (a:Addr) (w:World):(ReflectliteValue.methodAny (ReflectliteValue.valueError "reflectlite.Value.Type" 0) (fun t _ _ _=>ReflectliteType.toType t) #[.agg #[.pointer (some ⟨21,108,none⟩),.pointer (some a),.int .u64 150]]).run Tryz.prog w
  = .ok (.iface 241 (.agg #[.pointer (some ⟨21,108,none⟩)])) w:=by kernel_rfl
theorem VI (h:Value) (w:World):(Go.method 446 241 (.agg #[h]) "Kind").run Tryz.prog w= .ok (196,h) w:=by kernel_rfl
theorem jf (w:World):((ReflectliteType.abiMethod fun t=>Functor.map (fun a:Nat=>Value.int IntKind.u8 (a:Int)) (Rtype.kind t)) #[.pointer (some ⟨21,108,none⟩)]).run Tryz.prog w= .ok (.int .u8 22) w:=by kernel_rfl
theorem jg (w:World):((ReflectliteType.abiMethod fun t=>Functor.map (fun a:Nat=>Value.int IntKind.u8 (a:Int)) (Rtype.kind t)) #[.pointer (some ⟨21,106,none⟩)]).run Tryz.prog w= .ok (.int .u8 22) w:=by kernel_rfl
theorem rlm (z:Sem Value) (f:TypeId→Addr→Nat→Nat→Sem Value) (v:Value):
  ReflectliteValue.method z f #[v]=(do match←ReflectliteValue.parts v with|none=>z|some (t,a,fl)=>f t a fl (fl%32)):=rfl
theorem UW (a:Addr) (w:World):(ReflectliteValue.parts (.agg #[.pointer (some ⟨21,108,none⟩),.pointer (some a),.int .u64 150])).run Tryz.prog w= .ok (some (108,a,150)) w:=by kernel_rfl
theorem cX (a p:Addr) (W:World) (ha:W.cell? a=some (.pointer (some p))):
  (ReflectliteValue.method (ReflectliteValue.valueError "reflectlite.Value.IsNil" 0) ReflectliteValue.isNil #[.agg #[.pointer (some ⟨21,108,none⟩),.pointer (some a),.int .u64 150]]).run Tryz.prog W= .ok (.bool false) W:=by
 rw[rlm]
 simp only[JE,UW,Result.andThen]
 simp[ReflectliteValue.isNil,loadVar,isAgg,underlying,Tryz.underlying108,ha,Result.andThen]
theorem VJ (h:Value) (w:World):(Go.method 446 241 (.agg #[h]) "Elem").run Tryz.prog w= .ok (208,.agg #[h]) w:=by kernel_rfl
theorem OZ (h:Value) (w:World):(Go.method 446 241 (.agg #[h]) "Implements").run Tryz.prog w= .ok (209,.agg #[h]) w:=by kernel_rfl
theorem Ns (h:Value) (w:World):(Go.method 446 241 (.agg #[h]) "AssignableTo").run Tryz.prog w= .ok (206,.agg #[h]) w:=by kernel_rfl
theorem jh (w:World):(ReflectliteType.method ReflectliteType.elem #[.agg #[.pointer (some ⟨21,108,none⟩)]]).run Tryz.prog w= .ok (.iface 241 (.agg #[.pointer (some ⟨21,106,none⟩)])) w:=by kernel_rfl
theorem S0 (w:World):(ReflectliteType.relation "Implements" ReflectliteType.implements_ #[.agg #[.pointer (some ⟨21,106,none⟩)],.iface 241 (.agg #[.pointer (some ⟨21,80,none⟩)])]).run Tryz.prog w= .ok (.bool true) w:=by kernel_rfl
theorem ZY (v:Value) (w:World):(ReflectliteType.typeOf #[.iface 106 v]).run Tryz.prog w= .ok (.iface 241 (.agg #[.pointer (some ⟨21,106,none⟩)])) w:=by kernel_rfl
theorem S4 (w:World):(ReflectliteType.relation "AssignableTo" ReflectliteType.assignableTo #[.agg #[.pointer (some ⟨21,106,none⟩)],.iface 241 (.agg #[.pointer (some ⟨21,106,none⟩)])]).run Tryz.prog w= .ok (.bool true) w:=by kernel_rfl
theorem XD (e:Addr) (w:World):(ReflectliteValue.unpack (.iface 106 (.pointer (some e)))).run Tryz.prog w
  = .ok (.agg #[.pointer (some ⟨21,106,none⟩),.pointer (some ⟨w.heap.size,0,none⟩),.int .u64 150]) (w.alloc (.cells #[.pointer (some e)] 106)):=by kernel_rfl
theorem Z0 (w:World):(Rtype.elem? 108).run Tryz.prog w= .ok (some 106) w:=by kernel_rfl
theorem rv (p:Addr) (w:World):(ReflectliteValue.mk 106 p ReflectliteValue.flagAddr).run Tryz.prog w= .ok (.agg #[.pointer (some ⟨21,106,none⟩),.pointer (some p),.int .u64 406]) w:=by kernel_rfl
theorem cY (a p:Addr) (W:World) (ha:W.cell? a=some (.pointer (some p))):
  (ReflectliteValue.method (ReflectliteValue.valueError "reflectlite.Value.Elem" 0) ReflectliteValue.elem #[.agg #[.pointer (some ⟨21,108,none⟩),.pointer (some a),.int .u64 150]]).run Tryz.prog W
   = .ok (.agg #[.pointer (some ⟨21,106,none⟩),.pointer (some p),.int .u64 406]) W:=by
 rw[rlm]
 simp only[JE,UW,Result.andThen]
 simp[ReflectliteValue.elem,loadVar,isAgg,underlying,Tryz.underlying108,ha,Result.andThen,Z0,rv]
theorem rls (v x:Value):ReflectliteValue.set #[v,x]=(do
  let (some (dst,a,fl),some (src,b,_)):=(←ReflectliteValue.parts v,←ReflectliteValue.parts x)
   |unsupported (.noEntry "extern/(internal/reflectlite.Value).Set.zeroValue")
  if fl/ReflectliteValue.flagAddr%2==0 then unsupported (.noEntry "extern/(internal/reflectlite.Value).Set.unaddressable")
  let val←loadVar src b
  if←Rtype.directlyAssignable dst src then storeVar dst a val
  else if←Rtype.implements dst src then
   if(←Rtype.kind src)==20 then
    match val with
    | .nilIface=>unsupported (.noEntry "extern/reflectlite: a nil value of one interface type handed on as a value of another")
    |_=>storeVar dst a val
   else storeVar dst a (.iface src val)
  else panicString ("reflectlite.Set: value of type " ++(←Rtype.spelt src)++ " is not assignable to type " ++(←Rtype.spelt dst))
  pure (.tuple #[])):=rfl
theorem ZZ (a:Addr) (w:World):(ReflectliteValue.parts (.agg #[.pointer (some ⟨21,106,none⟩),.pointer (some a),.int .u64 406])).run Tryz.prog w= .ok (some (106,a,406)) w:=by kernel_rfl
theorem cW (a:Addr) (w:World):(ReflectliteValue.parts (.agg #[.pointer (some ⟨21,106,none⟩),.pointer (some a),.int .u64 150])).run Tryz.prog w= .ok (some (106,a,150)) w:=by kernel_rfl
theorem Z1 (w:World):(Rtype.directlyAssignable 106 106).run Tryz.prog w= .ok true w:=by kernel_rfl
theorem nG (ta b e:Addr) (old:Value) (W:World) (hb:W.cell? b=some (.pointer (some e))) (ht:W.cell? ta=some old) (hf:W.frozen? ta=false):
  (ReflectliteValue.set #[.agg #[.pointer (some ⟨21,106,none⟩),.pointer (some ta),.int .u64 406],.agg #[.pointer (some ⟨21,106,none⟩),.pointer (some b),.int .u64 150]]).run Tryz.prog W
   = .ok (.tuple #[]) (W.setCell ta (.pointer (some e))):=by
 rw[rls]
 simp only[JE,ZZ,cW,Result.andThen]
 simp[ReflectliteValue.flagAddr,loadVar,isAgg,underlying,Tryz.underlying106,hb,Result.andThen,Z1,storeVar,Value.cells,storeCells,Addr.add]
 rw[run_store Tryz.prog W ta _ _ (by rfl)]
 simp[ht,hf]
theorem wC (e t:Addr) (old:Value) (w:World) (hg:w.cell? ⟨2,0,none⟩=some (.iface 241 (.agg #[.pointer (some ⟨21,80,none⟩)]))) (ht0:w.cell? t=some old) (jL:w.frozen? t=false):
  Calls Tryz.prog 46 #[.iface 106 (.pointer (some e)),.iface 108 (.pointer (some t))] w fun ev w'=>ev= .returned (.bool true)∧w'=((((w.alloc (.cells #[.pointer (some t)] 108)).alloc (.cells #[.pointer (some ⟨21,108,none⟩),.pointer (some ⟨w.heap.size,0,none⟩),.int .u64 150] 178)).alloc (.cells #[.pointer (some ⟨21,108,none⟩),.pointer (some ⟨w.heap.size,0,none⟩),.int .u64 150] 178)).alloc (.cells #[.pointer (some e)] 106)).setCell t (.pointer (some e)):=by
 have h6:=@Be Tryz.prog 77 _ (fun args=>ReflectliteValue.unpack (args.getD 0 (.tuple #[]))) Tryz.func77 (by kernel_rfl) (by kernel_rfl) (by kernel_rfl) (by kernel_rfl)
 have h7:=@Be Tryz.prog 78 _ (ReflectliteValue.methodAny (ReflectliteValue.valueError "reflectlite.Value.Type" 0) (fun t _ _ _=>ReflectliteType.toType t)) Tryz.func78 (by kernel_rfl) (by kernel_rfl) (by kernel_rfl) (by kernel_rfl)
 have h8:=@Be Tryz.prog 79 _ (ReflectliteValue.method (ReflectliteValue.valueError "reflectlite.Value.IsNil" 0) ReflectliteValue.isNil) Tryz.func79 (by kernel_rfl) (by kernel_rfl) (by kernel_rfl) (by kernel_rfl)
 have h27:=@Be Tryz.prog 196 _ (ReflectliteType.abiMethod fun t=>do pure (.int .u8 (←Rtype.kind t))) Tryz.func196 (by kernel_rfl) (by kernel_rfl) (by kernel_rfl) (by kernel_rfl)
 have h37:=@Be Tryz.prog 208 _ (ReflectliteType.method ReflectliteType.elem) Tryz.func208 (by kernel_rfl) (by kernel_rfl) (by kernel_rfl) (by kernel_rfl)
 have h38:=@Be Tryz.prog 209 _ (ReflectliteType.relation "Implements" ReflectliteType.implements_) Tryz.func209 (by kernel_rfl) (by kernel_rfl) (by kernel_rfl) (by kernel_rfl)
 have SZ:=@Be Tryz.prog 108 _ ReflectliteType.typeOf S7 (by kernel_rfl) (by kernel_rfl) (by kernel_rfl) (by kernel_rfl)
 have h35:=@Be Tryz.prog 206 _ (ReflectliteType.relation "AssignableTo" ReflectliteType.assignableTo) Tryz.func206 (by kernel_rfl) (by kernel_rfl) (by kernel_rfl) (by kernel_rfl)
 have mP:=@Be Tryz.prog 125 _ (ReflectliteValue.method (ReflectliteValue.valueError "reflectlite.Value.Elem" 0) ReflectliteValue.elem) Tryz.func125 (by kernel_rfl) (by kernel_rfl) (by kernel_rfl) (by kernel_rfl)
 have tz:=@Be Tryz.prog 126 _ ReflectliteValue.set Tryz.func126 (by kernel_rfl) (by kernel_rfl) (by kernel_rfl) (by kernel_rfl)
 have tO:=ZY
 have mA:=Ns
 have a25:=S4
 have v25:=XD
 have f6:=XC
 have f7:=je
 have mK:=VI
 have mE:=VJ
 have mI:=OZ
 have k27:=jf
 have k25:=jg
 have e27:=jh
 have i25:=S0
 have n8:=cX ⟨w.heap.size,0,none⟩ t ((w.alloc (.cells #[.pointer (some t)] 108)).alloc (.cells #[.pointer (some ⟨21,108,none⟩),.pointer (some ⟨w.heap.size,0,none⟩),.int .u64 150] 178)) (by simp)
 have Cy:2<w.heap.size:=CL w _ hg
 have hg2:((w.alloc (.cells #[.pointer (some t)] 108)).alloc (.cells #[.pointer (some ⟨21,108,none⟩),.pointer (some ⟨w.heap.size,0,none⟩),.int .u64 150] 178)).cell? ⟨2,0,none⟩=some (.iface 241 (.agg #[.pointer (some ⟨21,80,none⟩)])):=by
  rw[E7 _ _ ⟨2,0,none⟩ (by simp;omega),E7 _ _ ⟨2,0,none⟩ Cy];exact hg
 have Kv:t.block<w.heap.size:=by
  rcases BP t.block w.heap.size with h|h
  ·exact h
  ·simp[World.cell?,Ce h]at ht0
 have el:=cY ⟨w.heap.size,0,none⟩ t (((w.alloc (.cells #[.pointer (some t)] 108)).alloc (.cells #[.pointer (some ⟨21,108,none⟩),.pointer (some ⟨w.heap.size,0,none⟩),.int .u64 150] 178)).alloc (.cells #[.pointer (some ⟨21,108,none⟩),.pointer (some ⟨w.heap.size,0,none⟩),.int .u64 150] 178)) (by rw[E7 _ _ ⟨w.heap.size,0,none⟩ (by simp;omega)];simp)
 have st:=nG t ⟨w.heap.size+1+1+1,0,none⟩ e old ((((w.alloc (.cells #[.pointer (some t)] 108)).alloc (.cells #[.pointer (some ⟨21,108,none⟩),.pointer (some ⟨w.heap.size,0,none⟩),.int .u64 150] 178)).alloc (.cells #[.pointer (some ⟨21,108,none⟩),.pointer (some ⟨w.heap.size,0,none⟩),.int .u64 150] 178)).alloc (.cells #[.pointer (some e)] 106))
  (by rw[World.cell?_alloc_at _ _ _ _ (by simp)];rfl)
  (by rw[E7 _ _ t (by simp;omega),E7 _ _ t (by simp;omega),E7 _ _ t (by simp;omega),E7 _ _ t Kv];exact ht0)
  (by rw[Ky _ _ t (by simp;omega),Ky _ _ t (by simp;omega),Ky _ _ t (by simp;omega),Ky _ _ t (Nat.ne_of_lt Kv)];exact jL)
 go_enter Tryz.func46,Tryz.ntmps46
 go_wp2
 refine OK 1 ?_
 rw[MN]
 go_wp2
 go_ret
 exact⟨rfl,rfl⟩
end Go.Proofs.YtemppijblfflgaaGreatDoor.Ev
namespace Go.Proofs.YtemppijblfflgaaGreatDoor.Ev
open Go Go.RowKit
structure Ln (B:Nat) (ea:Nat→Addr) (w:World):Prop where
 obj:∀k,1≤k→k≤12→∃(cs:Array Value) (t:TypeId),w.heap[(ea k).block]?=some (.cells cs t (0,0))
 lt:∀k,1≤k→k≤12→(ea k).block<B
 inj:∀j k,1≤j→j≤12→1≤k→k≤12→ea j=ea k→j=k
 typ:w.cell? ⟨2,0,none⟩=some (.iface 241 (.agg #[.pointer (some ⟨21,80,none⟩)]))
 typlt:2<B
theorem Ln.kept {B:Nat} {ea:Nat→Addr} {w w':World} (h:Ln B ea w) {S:Nat→Prop} (hk:Af S w w') (hS:∀b,S b→B≤b):Ln B ea w':=by
 refine⟨fun k h1 h2=>?_,h.lt,h.inj,?_,h.typlt⟩
 ·obtain⟨cs,t,hc⟩:=h.obj k h1 h2
  exact⟨cs,t,(hk.block _ (fun hs=>by have:=hS _ hs;have:=h.lt k h1 h2;omega)).trans hc⟩
 ·exact(hk.cell (p:=⟨2,0,none⟩) (fun hs=>by have:=hS _ hs;have:=h.typlt;simp only at*;omega)).trans h.typ
def Km (ea:Nat→Addr) (k:Nat):List Value:=[Dn ea k,.int .i64 k]
def JI:List Nat:=[1,2,3,4,5,6,7,8,9,10,11,12]
section
variable {B:Nat} {ea:Nat→Addr} {w:World}
theorem YY (he:VW B ea w):Calls Tryz.prog 61 #[] w fun e w'=>
  e= .returned (.slice (some ⟨w.heap.size,0,none⟩) 12 12)∧w'=w.alloc (.cells (JI.flatMap (Km ea)).toArray 153):=by
 have e1:w.cell? ⟨0,0,none⟩=some (Dn ea 1):=he.err 1 (by omega) (by omega)
 have e2:w.cell? ⟨6,0,none⟩=some (Dn ea 2):=he.err 2 (by omega) (by omega)
 have e3:w.cell? ⟨7,0,none⟩=some (Dn ea 3):=he.err 3 (by omega) (by omega)
 have e4:w.cell? ⟨8,0,none⟩=some (Dn ea 4):=he.err 4 (by omega) (by omega)
 have e5:w.cell? ⟨9,0,none⟩=some (Dn ea 5):=he.err 5 (by omega) (by omega)
 have e6:w.cell? ⟨10,0,none⟩=some (Dn ea 6):=he.err 6 (by omega) (by omega)
 have e7:w.cell? ⟨11,0,none⟩=some (Dn ea 7):=he.err 7 (by omega) (by omega)
 have e8:w.cell? ⟨12,0,none⟩=some (Dn ea 8):=he.err 8 (by omega) (by omega)
 have e9:w.cell? ⟨13,0,none⟩=some (Dn ea 9):=he.err 9 (by omega) (by omega)
 have e10:w.cell? ⟨1,0,none⟩=some (Dn ea 10):=he.err 10 (by omega) (by omega)
 have e11:w.cell? ⟨4,0,none⟩=some (Dn ea 11):=he.err 11 (by omega) (by omega)
 have e12:w.cell? ⟨5,0,none⟩=some (Dn ea 12):=he.err 12 (by omega) (by omega)
 clear he
 have ef:JI.flatMap (Km ea)=[Dn ea 1,.int .i64 1,Dn ea 2,.int .i64 2,Dn ea 3,.int .i64 3,Dn ea 4,.int .i64 4,Dn ea 5,.int .i64 5,Dn ea 6,.int .i64 6,Dn ea 7,.int .i64 7,Dn ea 8,.int .i64 8,Dn ea 9,.int .i64 9,Dn ea 10,.int .i64 10,Dn ea 11,.int .i64 11,Dn ea 12,.int .i64 12]:=rfl
 rw[ef]
 clear ef
 unfold Dn at*
 go_enter Tryz.func61,Tryz.ntmps61
 go_wp2
 go_ret
 exact⟨rfl,rfl⟩
theorem pN (k:Nat) (hk:k<12):JI[k]?=some (k+1):=by
 match k,hk with
 |0,_|1,_|2,_|3,_|4,_|5,_|6,_|7,_|8,_|9,_|10,_|11,_=>rfl
def oc (B:Nat) (ea:Nat→Addr) (w:World) (v:Value) (k:Nat):Prop:=
 ∀(j:Nat) (W:World),1≤j→j≤12→Af (fun b=>w.heap.size≤b) w W→Calls Tryz.prog 62 #[v,Dn ea j] W fun e w'=>e= .returned (.bool (j==k))∧w'=W
theorem ir (ho:Ln B ea w) (hB:B≤w.heap.size) {k:Nat} (h1:1≤k) (h2:k≤12):oc B ea w (Dn ea k) k:=by
 intro j W j1 j2 hk
 have zg:=ho.kept hk (fun b hb=>Ai hB hb)
 by_cases e:j=k
 ·subst e
  rw[ja]
  exact qb (ea j) W
 ·have e':(j==k)=false:=by simpa using e
  rw[e']
  obtain⟨ca,ta,ha⟩:=zg.obj k h1 h2
  obtain⟨cb,tb,hb⟩:=zg.obj j j1 j2
  exact lV (ea k) (ea j) ca cb ta tb W (fun hh=>e (ho.inj k j h1 h2 j1 j2 hh).symm) ha hb
theorem Ze (ho:Ln B ea w) (hB:B≤w.heap.size) {k gf:Nat} {x:Value} (h1:1≤k) (h2:k≤12) (hr:AM w gf 110 [Dn ea k,x]):oc B ea w (.iface 106 (.pointer (some ⟨gf,0,none⟩))) k:=by
 intro j W j1 j2 hk
 have zg:=ho.kept hk (fun b hb=>Ai hB hb)
 have Mj:=hr.kept hk (by have:=hr.lt;omega)
 by_cases e:j=k
 ·subst e
  rw[ja]
  exact Vs gf x (ea j) W Mj
 ·have e':(j==k)=false:=by simpa using e
  rw[e']
  obtain⟨ca,ta,ha⟩:=zg.obj k h1 h2
  obtain⟨cb,tb,hb⟩:=zg.obj j j1 j2
  exact Um gf x (ea k) (ea j) ca cb ta tb W Mj (fun hh=>e (ho.inj k j h1 h2 j1 j2 hh).symm) ha hb
def nV (w:World) (k:Nat) (e:Ending) (w':World):Prop:=e= .returned (.int .i64 k)∧Af (fun b=>w.heap.size≤b) w w'
theorem Uc (he:VW B ea w) {v:Value} {k:Nat} (h1:1≤k) (h2:k≤12) (hi:oc B ea w v k):
  Calls Tryz.prog 38 #[v] w (nV w k):=by
 have hn:=YY he
 have BQ:AM (w.alloc (.cells (JI.flatMap (Km ea)).toArray 153)) w.heap.size 153 (JI.flatMap (Km ea)):=AM.new w _ _
 have Mh:=Sl.of_row (S:=fun _=>True) BQ trivial (size:=2) (n:=12) rfl (by unfold maxLen;omega)
 have Gh:Af (fun b=>w.heap.size≤b) w (w.alloc (.cells (JI.flatMap (Km ea)).toArray 153)):=(Af.refl _ w).alloc (Ab _) _
 have SB:(w.alloc (.cells (JI.flatMap (Km ea)).toArray 153)).heap.size=w.heap.size+1:=by simp
 generalize Qx:w.alloc (.cells (JI.flatMap (Km ea)).toArray 153)=w1 at*
 have HN:=Aa hn
 have HS:=Aa Mh
 have HK:=Aa Gh
 have HI:=Aa hi
 have HZ:=Aa SB
 clear hn Mh Gh hi he BQ Qx SB
 go_enter Tryz.func38,Tryz.ntmps38
 go_wp2_with fail
 refine HN.out.mono ?_
 rintro e w' ⟨rfl,rfl⟩
 go_wp2_with fail
 go_loopg [7] 12 (fun gg s7 wr=>∃i:Nat,i<k∧12-i≤gg∧s7= .int .i64 i∧Af (fun b=>w'.heap.size≤b) w' wr)
 case atStart=>exact⟨0,by omega,by omega,rfl,Af.refl _ _⟩
 case round=>
  obtain⟨i,hik,yr,rfl,OD⟩:=hrel
  have Ady:i<12:=by omega
  have hs:=HS.out.later OD (fun b hb=>hb)
  have hx:=pN i Ady
  have c0:=hs.at_ (l:=JI) (f:=Km ea) (fun _=>rfl) hx (j:=0) (by omega)
  have c1:=hs.at_ (l:=JI) (f:=Km ea) (fun _=>rfl) hx (j:=1) (by omega)
  have c0':wr.cell? ⟨w.heap.size,i*2,none⟩=some (.iface 315 (.pointer (some (ea (i+1))))):=c0
  have c1':wr.cell? ⟨w.heap.size,i*2+1,none⟩=some (.int .i64 ((i:Int)+1)):=c1
  have Fw:w.heap.size<wr.heap.size:=by have:=HZ.out;have:=OD.size;omega
  have Jj:Af (fun b=>w.heap.size≤b) w (wr.alloc (.cells #[.iface 315 (.pointer (some (ea (i+1)))),.int .i64 ((i:Int)+1)] 153)):=(HK.out.trans (OD.mono (fun b hb=>by have:=HZ.out;omega))).alloc (by omega) _
  have Ex:=HI.out (i+1) _ (by omega) (by omega) Jj
  have zD:Af (fun b=>w'.heap.size≤b) w' (wr.alloc (.cells #[.iface 315 (.pointer (some (ea (i+1)))),.int .i64 ((i:Int)+1)] 153)):=OD.alloc OD.size _
  have HC:=Aa Ex
  have HKR:=Aa zD
  have oZ:=Aa Jj
  clear Ex OD hs hx c0 c1 zD Jj
  have q:¬w.heap.size=wr.heap.size:=by omega
  unfold Dn at HC
  by_cases e:i+1=k
  ·have e1:(i+1==k)=true:=by simpa using e
   rw[e1]at HC
   have E:=Aa e
   clear e1 e
   go_wp2_with (go_at_call 62;((with_reducible refine HC.out.mono ?_);rintro e w2 ⟨rfl,rfl⟩))
   go_ret
   exact⟨by rw[←E.out];go_num,oZ.out⟩
  ·have e1:(i+1==k)=false:=by simpa using e
   rw[e1]at HC
   have E:=Aa e
   clear e1 e
   go_wp2_with (go_at_call 62;((with_reducible refine HC.out.mono ?_);rintro e w2 ⟨rfl,rfl⟩))
   go_roundg (12-(i+1))
   case measure=>omega
   case rel=>exact⟨i+1,by have:=E.out;omega,by omega,by go_num,HKR.out⟩
end
end Go.Proofs.YtemppijblfflgaaGreatDoor.Ev
namespace Go.Proofs.YtemppijblfflgaaGreatDoor.Ev
def yn (e:Nat):Prop:=1≤e∧e≤12
def Po (st:PS):Prop:=∀y,st.wrong=some y→yn y.1
def Ro {α:Type} (o:AJ α):Prop:=
 match o with
 | .ok _ st=>Po st
 | .bad e _=>yn e
section
variable {α β:Type} {s:Ae} {st:PS}
theorem Ro.bind {x:AJ α} {f:α→PS→AJ β} (h:Ro x) (hf:∀a st,Po st→Ro (f a st)):Ro (x.bind f):=by
 cases x with
 |ok a st=>exact hf a st h
 |bad e p=>exact h
theorem Ro.map {x:AJ α} {f:α→β} (h:Ro x):Ro (x.map f):=by
 cases x with
 |ok a st=>exact h
 |bad e p=>exact h
theorem Po.next (h:Po st):Po (next s st):=h
theorem Po.note {e pos:Nat} (h:Po st) (he:yn e):Po (note e pos st):=by
 intro y hy
 unfold Ev.note at hy
 cases hw:st.wrong with
 |none=>
  rw[hw]at hy
  simp only[De]at hy
  subst hy
  exact he
 |some z=>
  rw[hw]at hy
  exact h y hy
theorem LP {k:Ae} (h:Po st):Ro (want s k st):=by
 unfold want
 split
 ·exact h
 ·exact(⟨by decide,by decide⟩:yn D1)
theorem kG {k:Ae} (h:Po st):Po (take s k st).2:=by
 unfold take
 split<;>exact h
theorem Qk {a b:Int} (h:Po st):Ro (number s a b st):=by
 unfold number
 refine(LP h).bind fun t st h=>?_
 show Po _
 split
 ·exact h.note ⟨by decide,by decide⟩
 ·exact h
theorem Jw {v:Bool} (h:Po st):Ro (name s v st):=by
 unfold name
 refine(LP h).bind fun t st h=>?_
 show Po _
 unfold Ch
 split
 ·exact h.note ⟨by decide,by decide⟩
 ·split
  ·exact h.note ⟨by decide,by decide⟩
  ·exact h
theorem dS (h:Po st):Ro (value s st):=by
 unfold value
 split
 ·exact(Qk h).map
 ·split
  ·exact(Jw h.next).map
  ·split
   ·exact h
   ·exact(Jw h).map
theorem cK (h:Po st):Ro (Eh s st):=by
 unfold Eh
 split
 ·exact(Jw h.next).map
 ·split
  ·exact(Jw h.next).map
  ·split
   ·exact(Jw h.next).map
   ·exact(dS h).bind fun a st h=>(LP h).bind fun _ st h=>(dS h).map
theorem cB:yn D1:=⟨by decide,by decide⟩
theorem eDp:yn QP:=⟨by decide,by decide⟩
theorem cI:∀(n:Nat) {st:PS},Po st→Ro (cond s n st)
 |0,st,h=>cB
 |n+1,st,h=>by
  unfold cond
  split
  ·exact(cI n h.next).map
  ·exact cK h
theorem NL {x:D9} (h:Po st):Ro ((want s Ar st).bind fun _ st=>AJ.ok (AC.prim x .nil) st):=(LP h).bind fun _ _ h=>h
theorem eZ:∀(n:Nat),(∀{st:PS},Po st→Ro (block s n st))∧(∀{st:PS},Po st→Ro (DH s n st))∧(∀{st:PS},Po st→Ro (stmt s n st))
 |0=>⟨fun _=>by unfold block;exact cB,fun _=>by unfold DH;exact cB,fun _=>by unfold stmt;exact cB⟩
 |n+1=>by
  obtain⟨ib,il,is⟩:=eZ n
  refine⟨fun {st} h=>?_,fun {st} h=>?_,fun {st} h=>?_⟩
  ·unfold block
   split
   ·exact eDp
   ·refine(LP h).bind fun _ st h=>?_
    refine Ro.bind (il (st:={st with depth:=st.depth+1}) h) fun b st h=>?_
    exact h
  ·unfold DH
   split
   ·exact h
   ·exact(is h).bind fun x st h=>(il h).map
  ·rw[stmt]
   by_cases k1:st.t.kind=Hn
   ·rw[Ak k1];exact(Jw h.next).bind fun q st h=>NL (kG h)
   rw[Ad k1]
   by_cases k2:st.t.kind=Db
   ·rw[Ak k2];exact(Jw h.next).bind fun q st h=>NL h
   rw[Ad k2]
   by_cases k3:st.t.kind=Ew
   ·rw[Ak k3];exact(Jw h.next).bind fun q st h=>NL h
   rw[Ad k3]
   by_cases k4:st.t.kind=CN
   ·rw[Ak k4];exact(Jw h.next).bind fun q st h=>(Jw h).bind fun p st h=>NL (kG h)
   rw[Ad k4]
   by_cases k5:st.t.kind=Ia
   ·rw[Ak k5];exact(Jw h.next).bind fun q st h=>NL h
   rw[Ad k5]
   by_cases k6:st.t.kind=Ib
   ·rw[Ak k6];exact(Jw h.next).bind fun q st h=>NL h
   rw[Ad k6]
   by_cases k7:st.t.kind=EJ
   ·rw[Ak k7];exact NL h.next
   rw[Ad k7]
   by_cases k8:st.t.kind=EK
   ·rw[Ak k8];exact NL h.next
   rw[Ad k8]
   by_cases k9:st.t.kind=Iw
   ·rw[Ak k9]
    refine(cI _ h.next).bind fun c st h=>(ib h).bind fun t st h=>?_
    split
    ·exact(ib h.next).bind fun e st h=>h
    ·exact h
   rw[Ad k9]
   by_cases ka:st.t.kind=Bb
   ·rw[Ak ka]
    by_cases kb:st.loops=2
    ·rw[Ak kb];exact eDp
    rw[Ad kb]
    refine(Qk h.next).bind fun k st h=>(LP h).bind fun _ st h=>(cI _ h).bind fun c st h=>?_
    exact Ro.bind (ib (st:={st with loops:=st.loops+1}) h) fun b st h=>h
   rw[Ad ka]
   exact cB
theorem wu (h:Po st):Ro (decl s st):=by
 unfold decl
 simp only
 split
 ·have h1:Po (if(next s st).fseen then note CG st.t.pos (next s st)else next s st):=by
   split
   ·exact h.next.note ⟨by decide,by decide⟩
   ·exact h.next
  refine Ro.bind (Qk (st:={(if(next s st).fseen then note CG st.t.pos (next s st)else next s st)with fseen:=true}) h1) fun n st h=>?_
  exact Ro.bind (LP (st:={st with freq:=n}) h) fun _ st h=>h
 ·refine(LP h.next).bind fun n st h=>?_
  have h1:Po (Ba n st):=by
   have h2:Po (if 0≤find st.decls n.text then note CG n.pos st else st):=by
    split
    ·exact h.note ⟨by decide,by decide⟩
    ·exact h
   show Po (if(if 0≤find st.decls n.text then note CG n.pos st else st).decls.length=8 then note Nl n.pos (if 0≤find st.decls n.text then note CG n.pos st else st)else(if 0≤find st.decls n.text then note CG n.pos st else st))
   generalize (if 0≤find st.decls n.text then note CG n.pos st else st)=AP at h2 ⊢
   by_cases h8:AP.decls.length=8
   ·rw[Ak h8];exact h2.note ⟨by decide,by decide⟩
   ·rw[Ad h8];exact h2
  exact(Qk h1).bind fun m st h=>(LP h).bind fun _ st h=>h
theorem ut {n:Nat} (h:Po st):Ro (Gc s n st):=by
 unfold Gc
 refine Ro.bind ?_ fun k st h=>((eZ n).1 h).bind fun b st h=>?_
 ·unfold Cv
  simp only
  refine Ro.bind ?_ fun k st h=>?_
  ·split
   ·exact h
   ·exact Jw h.next
  ·show Po _
   split
   ·exact h.note ⟨by decide,by decide⟩
   ·exact h
 ·show Po _
  split<;>exact h
theorem eY:∀(n:Nat) {st:PS},Po st→Ro (Cw s n st)
 |0,st,h=>cB
 |n+1,st,h=>by
  unfold Cw
  split
  ·exact(wu h).bind fun _ st h=>eY n h
  ·exact h
theorem dY {m:Nat}:∀(n:Nat) {st:PS},Po st→Ro (CR s m n st)
 |0,st,h=>cB
 |n+1,st,h=>by
  unfold CR
  split
  ·exact(ut h).bind fun _ st h=>dY n h
  ·exact h
theorem gT:Ro (EA s):=by
 unfold EA
 refine(eY _ (fun y hy=>by cases hy)).bind fun _ st h=>(dY _ h).bind fun _ st h=>LP h
theorem YQ {k pos:Nat} (h:read s= .error (k,pos)):1≤k∧k≤12:=by
 unfold read at h
 split at h
 ·injection h with h;injection h with h1 h2;subst h1;exact⟨by decide,by decide⟩
 ·have he:=gT (s:=s)
  cases hr:EA s with
  |bad e p=>
   rw[hr]at h he
   injection h with h;injection h with h1 h2;subst h1
   exact he
  |ok a st=>
   rw[hr]at h he
   simp only at h
   cases hw:st.wrong with
   |some x=>
    rw[hw]at h
    simp only at h
    injection h with h
    have:=he x hw
    rw[h]at this
    exact this
   |none=>
    rw[hw]at h
    simp only at h
    split at h
    ·injection h with h;injection h with h1 h2;subst h1;exact⟨by decide,by decide⟩
    ·cases h
end
end Go.Proofs.YtemppijblfflgaaGreatDoor.Ev
namespace Go.Proofs.YtemppijblfflgaaGreatDoor.Ev
open Go Go.RowKit
def Ts (w:World) (s:Ae) (e:Ending) (w':World):Prop:=
 Af (fun b=>w.heap.size≤b) w w'∧match read s with
  | .error (k,pos)=>e= .returned (.tuple #[.pointer none,.int .i64 k,.int .i64 pos])
  | .ok p=>∃ge,e= .returned (.tuple #[.pointer (some ⟨ge,0,none⟩),.int .i64 0,.int .i64 0])∧Hv (fun b=>w.heap.size≤b∧b<w'.heap.size) w' ge (LN.new p)
theorem nQ.later {B:Nat} {w w':World} {gp bm:Nat} {vd:Value} {p:AF} (h:nQ B w gp bm vd p) {T:Nat→Prop} (hk:Af T w w') (hT:∀b,T b→w.heap.size≤b):nQ B w' gp bm vd p:=by
 have ht:∀b,b<w.heap.size→¬T b:=fun b hb hs=>by have:=hT b hs;omega
 obtain⟨M,h1,_⟩:=h.rules
 exact⟨h.row.kept hk (ht _ h.row.lt),h.decls.later hk hT,h.rules.kept (hk.block bm (ht _ h1.lt)) (fun k cs hN hr=>hk.block k (ht k hr.lt)),h.gp0,h.bm0⟩
theorem Jg.later {S T:Nat→Prop} {w w':World} {gg gp bm bc loops:Nat} {vd:Value} {p:AF} (h:Jg S w gg p gp bm bc loops vd) (hk:Af T w w') (hT:∀b,T b→w.heap.size≤b):Jg S w' gg p gp bm bc loops vd:=
 h.kept hk (fun b _ hb hs=>by have:=hT b hs;omega)
theorem Jg.alloc {S:Nat→Prop} {w:World} {gg gp bm bc loops:Nat} {vd:Value} {p:AF} (h:Jg S w gg p gp bm bc loops vd) (o:Obj):Jg S (w.alloc o) gg p gp bm bc loops vd:=
 h.later ((Af.refl (fun b=>w.heap.size≤b) w).alloc (Ab _) o) (fun b hb=>hb)
theorem kQ {p:AF} (hp:EO p):Hc p (LN.new p).s:=by
 refine⟨F0,F0,fun k l hl e he=>?_,fun k x hx=>?_⟩
 ·have Uy:(List.replicate p.decls.length ([]:List Lo))[k]?=some l:=hl
  rw[Co]at Uy
  split at Uy
  ·injection Uy with Uy;subst Uy;cases he
  ·cases Uy
 ·have LT:(List.replicate p.decls.length (0:Int))[k]?=some x:=hx
  rw[Co]at LT
  split at LT
  ·rename_i hk
   injection LT with LT;subst LT
   refine⟨Int.le_refl _,?_⟩
   have h1:=UP (l:=p.decls) (q:=(k:Int)) ⟨by omega,by omega⟩
   rw[A3]at h1
   have:=(hp.decls.each _ (A7 h1)).lo
   omega
  ·cases LT
theorem re {p:AF} (j:Nat) (x:Int):¬Oo (LN.new p).s j x:=by
 rintro⟨l,hl,hx⟩
 have Uy:(List.replicate p.decls.length ([]:List Lo))[j]?=some l:=hl
 rw[Co]at Uy
 split at Uy
 ·injection Uy with Uy;subst Uy;cases hx
 ·cases Uy
theorem iR {w W:World} {p:AF} {n1 n2 n3 gg gs ga gp bm bc loops xm:Nat} {vd vva xl xf xq:Value} (hp:EO p) (P:Jg (fun b=>w.heap.size≤b∧b<n1) W gg p gp bm bc loops vd)
  (srow:AM W gs 72 [.pointer (some ⟨ga,0,none⟩),vva]) (V:Sl (fun b=>w.heap.size≤b∧(b<n2∨n3≤b)) W 3 1 vva p.decls.length (List.replicate p.decls.length (.int .i64 0)))
  (ar:BL (fun b=>n2≤b∧b<n3) W ga (Am.new p.decls.length) xl xf xq xm) (tz:n1≤n2) (h2:w.heap.size≤n2) (h23:n2≤n3) (xK:n3≤gs):
  Hv (fun b=>w.heap.size≤b∧b<W.heap.size+1) (W.alloc (.cells #[.pointer (some ⟨gg,0,none⟩),.pointer (some ⟨gs,0,none⟩),.int .i64 0,.int .i64 0,.int .i64 0] 76)) W.heap.size (LN.new p):=by
 have hw:w.heap.size≤gs:=by omega
 have SX:=srow.lt
 have e1:(LN.new p).s.vars.length=p.decls.length:=F0
 have e2:(LN.new p).s.vars.map L6=List.replicate p.decls.length (.int .i64 0):=by
  show(List.replicate p.decls.length (0:Int)).map L6=_
  rw[ae];rfl
 refine⟨gg,gs,ga,gp,bm,bc,loops,vd,vva,(fun b=>n2≤b∧b<n3),Am.new p.decls.length,List.replicate p.decls.length [],AM.new W _ _,(P.alloc _).mono (fun b hb hs=>⟨⟨hs.1,?_⟩,fun h=>by have:=hs.2;have:=h.1;omega⟩),srow.alloc _,?_,
  ⟨xl,xf,xq,xm,ar.alloc _⟩,CM.new _ hp.decls.len,kQ hp,hp,fun j x hx=>absurd hx (re j x),fun b hb=>⟨by have:=hb.1;omega,by have:=hb.2;omega⟩,⟨⟨?_,by omega⟩,fun h=>?_⟩,⟨⟨hw,by omega⟩,fun h=>by have:=h.2;omega⟩⟩
 ·simp at hb;omega
 ·rw[e1,e2]
  have V':=V.shrink.alloc (.cells #[.pointer (some ⟨gg,0,none⟩),.pointer (some ⟨gs,0,none⟩),.int .i64 0,.int .i64 0,.int .i64 0] 76)
  exact V'.mono (fun b hb=>⟨⟨hb.1.1,by have:=hb.2;omega⟩,fun h=>by have:=hb.1.2;have:=h.1;have:=h.2;omega⟩)
 ·omega
 ·have:=h.2;omega
theorem Uj {w w1 W:World} {s:Ae} {p:AF} {n1 n2 n3 gg gs ga gp bm bc loops xm ge:Nat} {vd vva xl xf xq:Value} {E:List Value} (hr:read s= .ok p) (hE:E=List.replicate p.decls.length (.int .i64 0)) (K1:Af (fun b=>w.heap.size≤b) w w1) (KW:Af (fun b=>w1.heap.size≤b) w1 W)
  (P:Jg (fun b=>w.heap.size≤b∧b<n1) W gg p gp bm bc loops vd)
  (srow:AM W gs 72 [.pointer (some ⟨ga,0,none⟩),vva]) (V:Sl (fun b=>w.heap.size≤b∧(b<n2∨n3≤b)) W 3 1 vva p.decls.length E)
  (ar:BL (fun b=>n2≤b∧b<n3) W ga (Am.new p.decls.length) xl xf xq xm) (tz:n1≤n2) (h2:w.heap.size≤n2) (h23:n2≤n3) (xK:n3≤gs) (Xn:ge=W.heap.size):
  Ts w s (.returned (.tuple #[.pointer (some ⟨ge,0,none⟩),.int .i64 0,.int .i64 0])) (W.alloc (.cells #[.pointer (some ⟨gg,0,none⟩),.pointer (some ⟨gs,0,none⟩),.int .i64 0,.int .i64 0,.int .i64 0] 76)):=by
 subst hE Xn
 refine⟨K1.trans ((KW.alloc KW.size _).mono (fun b hb=>Ai K1.size hb)),?_⟩
 rw[hr]
 refine⟨_,rfl,?_⟩
 have h:=iR (bp hr) P srow V ar tz h2 h23 xK
 exact h.mono (fun b hb=>⟨hb.1,by simp;exact hb.2⟩)
section
variable {B:Nat} {ea:Nat→Addr} {w:World} {s:Ae}
attribute [local go_sem ↓] Go.wp_at_zero Go.wp_at_succ
theorem lE (he:VW B ea w) (ho:Ln B ea w) {k pos:Nat} (hr:read s= .error (k,pos)):Calls Tryz.prog 26 #[vs s] w (Ts w s):=by
 obtain⟨h1,h2⟩:=YQ hr
 have SD:=YR he s
 have HR:=Aa SD
 have HE:=Aa he
 have HO:=Aa ho
 have HX:=Aa hr
 clear SD he ho hr
 go_enter Tryz.func26,Tryz.ntmps26
 go_wp2_with fail
 refine HR.out.mono ?_
 rintro e w1 ⟨Bi,hm⟩
 rw[HX.out]at hm
 obtain⟨gf,rfl,BQ,xL⟩:=hm
 have hB:=HE.out.size
 have _l:=HE.out.kept Bi (fun b hb=>Ai hB hb)
 have hO1:=HO.out.kept Bi (fun b hb=>Ai hB hb)
 have Adz:=BQ.lt
 have as1:=wC ⟨gf,0,none⟩ ⟨w1.heap.size,0,none⟩ (.pointer none) (w1.alloc (.cells #[.pointer none] 106))
  ((((Af.refl (fun b=>w1.heap.size≤b) w1).alloc (Ab _) (.cells #[.pointer none] 106)).cell (p:=⟨2,0,none⟩) (by have:=hO1.typlt;have:=_l.size;simp only;omega)).trans hO1.typ) (by simp) (by simp)
 have AS:=Aa as1
 have K1:=Aa Bi
 have ROW:=Aa BQ
 have E1:=Aa _l
 have O1:=Aa hO1
 clear as1 Bi BQ _l hO1
 go_wp2_with fail
 refine AS.out.mono ?_
 rintro e w2 ⟨rfl,Xh⟩
 have k2:Af (fun b=>w1.heap.size≤b) w1 w2:=by
  rw[Xh]
  repeat' first|with_reducible exact Af.refl _ _|with_reducible refine Af.setCell ?_ (by simp) _|with_reducible refine Af.alloc ?_ (by simp<;>omega) _
 have cf:w2.cell? ⟨w1.heap.size,0,none⟩=some (.pointer (some ⟨gf,0,none⟩)):=by
  rw[Xh]
  rw[World.cell?_setCell_same]
  case h=>exact(((((AM.new w1 106 [.pointer none]).alloc _).alloc _).alloc _).alloc _).cell 0
 have cg:w2.cell? ⟨gf,1,none⟩=some (.int .i64 pos):=(k2.cell (p:=⟨gf,1,none⟩) (by simp only;omega)).trans (ROW.out.cell 1)
 have Kh:∀W,Af (fun b=>w2.heap.size≤b) w2 W→Calls Tryz.prog 38 #[.iface 106 (.pointer (some ⟨gf,0,none⟩))] W (nV W k):=fun W hk=>by
  have kk:Af (fun b=>w1.heap.size≤b) w1 W:=k2.trans (hk.mono (fun b hb=>Ai k2.size hb))
  have e1:=E1.out.kept kk (fun b hb=>Ai E1.out.size hb)
  exact Uc e1 h1 h2 (Ze (O1.out.kept kk (fun b hb=>Ai E1.out.size hb)) e1.size h1 h2 (ROW.out.kept kk (by omega)))
 have HN:=Aa Kh
 have K2:=Aa k2
 have r3:w1.heap.size<w2.heap.size:=CL w2 _ cf
 have r4:=k2.size
 clear Xh Kh k2
 go_wp2_with fail
 go_region_held3 (fun w'=>w'.cell? ⟨w1.heap.size,0,none⟩=some (.pointer (some ⟨gf,0,none⟩))∧w'.cell? ⟨gf,1,none⟩=some (.int .i64 pos)∧Af (fun b=>w2.heap.size≤b) w2 w')
  ((repeat' apply And.intro)<;>(first
   |assumption
   |exact(Af.cell J6 (by simp only;omega)).trans cf
   |exact(Af.cell J6 (by simp only;omega)).trans cg
   |(with_reducible exact(Af.refl _ _).drew)
   |go_keep
   ))
  (first
   |(go_at_call 38;refine(HN.out _ ?_).mono ?_;(first|exact(Af.refl _ _).drew);rintro e w3 ⟨rfl,BY⟩;have J6:Af (fun b=>w2.heap.size≤b) w2 w3:=((Af.refl _ _).drew).trans (BY.mono (fun b hb=>hb));clear BY))
 all_goals
  go_wp2
  refine Av (v:=.tuple #[.pointer none,.int .i64 k,.int .i64 pos]) (by simp[results,VL,go_sem]) rfl ?_
  refine⟨?_,?_⟩
  ·have h3:=J6.mono (fun b hb=>Ai K2.out.size hb)
   exact K1.out.trans ((K2.out.trans h3).mono (fun b hb=>Ai K1.out.size hb))
  ·rw[HX.out]
theorem pU (he:VW B ea w) {p:AF} (hr:read s= .ok p):Calls Tryz.prog 26 #[vs s] w (Ts w s):=by
 have hp:=bp hr
 have h8:=hp.decls.len
 have SD:=YR he s
 obtain⟨i0,Lt,KX,Ls,Lr⟩:=Cj NW
 have Pg:∀W:World,(Instr.makeSlice 70 (.int .i64 (p.decls.length:Int)) (.int .i64 (p.decls.length:Int))).run Tryz.prog W=
   .ok (.slice (some ⟨W.heap.size,0,none⟩) p.decls.length p.decls.length) (W.alloc (.cells (List.replicate p.decls.length (Value.int .i64 0)).toArray 3)):=by
  intro W
  have h:=pz (P:=Tryz.prog) W 70 3 i0 _ IN Lt KX .i64 .i64 (p.decls.length:Int) (p.decls.length:Int) (by omega) (by omega) (by rw[Lr];omega) (by omega)
  rw[Ls,A3]at h
  have e:(Value.int .i64 0).cells=#[Value.int .i64 0]:=rfl
  rw[e,Jm,JJ]at h
  exact h
 have HR:=Aa SD
 have HX:=Aa hr
 have HP:=Aa hp
 clear SD he hr hp Lt KX Ls Lr
 generalize hE:(List.replicate p.decls.length (Value.int .i64 0))=E at Pg
 have HE:=Aa hE
 clear hE
 go_enter Tryz.func26,Tryz.ntmps26
 go_wp2_with fail
 refine HR.out.mono ?_
 rintro e w1 ⟨Bi,hm⟩
 rw[HX.out]at hm
 obtain⟨gp,bm,vd,rfl,OO⟩:=hm
 obtain⟨ad,cd,rfl⟩:∃a c,vd= .slice a p.decls.length c:=OO.decls.shape
 have p0:=OO.row.cell 0
 simp at p0
 have IM:∀W,Af (fun b=>w1.heap.size≤b) w1 W→Calls Tryz.prog 47 #[.pointer (some ⟨gp,0,none⟩)] W fun e w'=>
   ∃gg bc loops,e= .returned (.pointer (some ⟨gg,0,none⟩))∧Af (fun b=>W.heap.size≤b) W w'∧Jg (fun b=>w.heap.size≤b∧b<w'.heap.size) w' gg p gp bm bc loops (.slice ad p.decls.length cd):=fun W hk=>by
  have hW:=OO.later hk (fun b hb=>hb)
  have hwW:w.heap.size≤W.heap.size:=Ai Bi.size hk.size
  refine(uF hW HP.out).mono ?_
  rintro e w' ⟨gg,bc,loops,h1,h2,h3⟩
  have wa:=hW.later h2 (fun b hb=>hb)
  obtain⟨M,m1,_⟩:=wa.rules
  exact⟨gg,bc,loops,h1,h2,h3.mono_ (fun b h4 h5=>⟨Ai hwW h5,h4⟩),wa.row,wa.decls.shrink.mono (fun b hb=>⟨hb.1,hb.2⟩),FP.mono_ wa.rules (fun k h4 h5=>⟨h5,h4⟩),⟨wa.gp0,wa.row.lt⟩,⟨wa.bm0,m1.lt⟩⟩
 have Uw:∀W:World,Calls Tryz.prog 48 #[.int .i64 (p.decls.length:Int)] W fun e w'=>
   ∃ga,e= .returned (.pointer (some ⟨ga,0,none⟩))∧Af (fun b=>W.heap.size≤b) W w'∧∃xl xf xq xm,BL (fun b=>W.heap.size≤b∧b<w'.heap.size) w' ga (Am.new p.decls.length) xl xf xq xm:=fun W=>by
  refine(pS (S:=fun b=>W.heap.size≤b) (fun k hk=>hk) p.decls.length (by omega)).mono ?_
  rintro e w' ⟨ga,h1,h2,xl,xf,xq,xm,h3⟩
  exact⟨ga,h1,h2,xl,xf,xq,xm,h3.shrink⟩
 have HOF:=Aa IM
 have dL:=Aa Uw
 have K1:=Aa Bi
 have SX:=OO.row.lt
 clear IM Uw Bi OO
 go_wp2_with fail
 go_region_held3 (fun w'=>Af (fun b=>w1.heap.size≤b) w1 w')
  (first
   |assumption
   |(with_reducible exact(Af.refl _ _).drew)
   |exact((Af.refl _ _).drew).alloc (Ab _) _
   |exact Ik.alloc z2 _
   |exact Xm.alloc z3 _
   |exact(Xm.alloc z3 _).alloc (by simp;omega) _
   |exact((Xm.alloc z3 _).alloc (by simp;omega) _).alloc (by simp;omega) _)
  (first
   |(go_at_call 47;refine(HOF.out _ ?_).mono ?_;(first|exact(Af.refl _ _).drew|exact((Af.refl _ _).drew).alloc (Ab _) _);rintro e w2 ⟨gg,bc,loops,rfl,A4,Ti⟩;have Ik:Af (fun b=>w1.heap.size≤b) w1 w2:=(by first|exact((Af.refl _ _).drew).trans (A4.mono (fun b hb=>hb))|exact(((Af.refl (fun b=>w1.heap.size≤b) w1).drew).alloc (Ab _) _).trans (A4.mono (fun b hb=>by simp at hb;omega)));have z2:=Ik.size;have Ll:=Aa A4;have fj:=Aa Ti;clear A4 Ti)
   |(go_at_call 48;refine(dL.out _).mono ?_;rintro e w3 ⟨ga,rfl,BY,ha3⟩;have Xm:Af (fun b=>w1.heap.size≤b) w1 w3:=(by first|exact Ik.trans (BY.mono (fun b hb=>Ai z2 hb))|exact(Ik.alloc z2 _).trans (BY.mono (fun b hb=>by simp at hb;omega)));have z3:=Xm.size;have Yf:=Aa BY;have HA3:=Aa ha3;clear BY ha3))
 all_goals go_wp2
 ·obtain⟨xl,xf,xq,xm,ha⟩:=HA3.out
  have s1:=K1.out.size
  have s2:=Ll.out.size
  have s3:=Yf.out.size
  have _i:E.length=p.decls.length*1:=by rw[←HE.out];simp
  simp at s2 s3
  refine Av (v:=.tuple #[.pointer (some ⟨w3.heap.size+1+1,0,none⟩),.int .i64 0,.int .i64 0]) (by simp[results,VL,go_sem]) rfl ?_
  exact Uj HX.out HE.out.symm K1.out ((Xm.alloc z3 _).alloc (by simp;omega) _) (((fj.out.later Yf.out (fun b hb=>by simpa using hb)).alloc _).alloc _) (AM.at_new _ _ (by simp))
   ((Sl.of_row (AM.new _ _ _) ⟨by omega,.inr (Ab _)⟩ _i (by unfold maxLen;omega)).alloc _) ((ha.alloc _).alloc _) (by simp) (by first|omega|(simp;omega)) (by first|omega|(simp;omega)) (by simp) (by simp)
 ·obtain⟨xl,xf,xq,xm,ha⟩:=HA3.out
  have s1:=K1.out.size
  have s2:=Ll.out.size
  have s3:=Yf.out.size
  have _i:E.length=p.decls.length*1:=by rw[←HE.out];simp
  simp at s2 s3
  refine Av (v:=.tuple #[.pointer (some ⟨w3.heap.size+1,0,none⟩),.int .i64 0,.int .i64 0]) (by simp[results,VL,go_sem]) rfl ?_
  exact Uj HX.out HE.out.symm K1.out (Xm.alloc z3 _) (((fj.out.alloc _).later Yf.out (fun b hb=>by simpa using hb)).alloc _) (AM.at_new _ _ (by simp))
   (((Sl.of_row (AM.new _ _ _) ⟨by omega,.inl (by simp)⟩ _i (by unfold maxLen;omega)).later Yf.out (fun b hb=>hb)).alloc _) (ha.alloc _) (by simp) (by first|omega|(simp;omega)) (by first|omega|(simp;omega)) (by simp) (by simp)
 ·obtain⟨xl,xf,xq,xm,ha⟩:=HA3.out
  have s1:=K1.out.size
  have s2:=Ll.out.size
  have s3:=Yf.out.size
  have _i:E.length=p.decls.length*1:=by rw[←HE.out];simp
  simp at s2 s3
  refine Av (v:=.tuple #[.pointer (some ⟨w3.heap.size+1,0,none⟩),.int .i64 0,.int .i64 0]) (by simp[results,VL,go_sem]) rfl ?_
  exact Uj HX.out HE.out.symm K1.out (Xm.alloc z3 _) ((fj.out.later Yf.out (fun b hb=>by simpa using hb)).alloc _) (AM.at_new _ _ (by simp))
   (((((Sl.of_row (AM.new _ _ _) ⟨by first|omega|(simp;omega),.inl (by first|omega|(simp;omega))⟩ _i (by unfold maxLen;omega)).of_heap (w':=(w1.alloc (.cells E.toArray 3)).drew) rfl).later Ll.out (fun b hb=>hb)).later Yf.out (fun b hb=>hb)).alloc _) (ha.alloc _) (by simp) (by first|omega|(simp;omega)) (by first|omega|(simp;omega)) (by simp) (by simp)
theorem lG (he:VW B ea w) (ho:Ln B ea w) (s:Ae):Calls Tryz.prog 26 #[vs s] w (Ts w s):=by
 cases hr:read s with
 |error x=>exact lE he ho (k:=x.1) (pos:=x.2) hr
 |ok p=>exact pU he hr
end
theorem cV {p:AF} {key:Int} {v:VS} {i:Gl} (hi:Wp i=true) (r:Except Nat GK):El p key v i≠some (.inr r):=by
 intro h
 cases i<;>simp only[Wp]at hi<;>first|cases hi|skip
 all_goals
  simp only[El]at h
  first
   |(split at h<;>simp at h)
   |simp at h
theorem wB {i:Gl} (hi:Wp i=true):9≤i.op∧i.op≤16:=by
 cases i<;>first|(simp[Gl.op];done)|(simp[Wp]at hi;done)
theorem Uf {l:List Int} {c:Nat} {n:Int} (h:∀m∈l,0≤m∧m≤50) (hn:0≤n∧n≤50):∀m∈l.set c n,0≤m∧m≤50:=by
 intro m hm
 rcases JO hm with h1|h1
 ·exact h m h1
 ·exact h1▸hn
theorem pK (y:D9):y.op≤8:=by
 cases y with
 |put q t=>cases t<;>simp[D9.op]
 |shift a b t=>cases t<;>simp[D9.op]
 |_=>simp[D9.op]
section
variable {B:Nat} {ea:Nat→Addr} {w0 w:World} {x:RV} {p:AF} {key ev:Int} {code:List Gl} {gl cap:Nat} {res:Except Nat GK}
theorem aW (hc:Sl (fun b=>b<B) w 147 3 (.slice (some ⟨gl,0,none⟩) code.length cap) code.length (code.flatMap Cr)) {pc:Nat} {i:Gl} (hi:code[pc]?=some i):
  w.cell? ⟨gl,pc*3,none⟩=some (.int .u8 i.op)∧w.cell? ⟨gl,pc*3+1,none⟩=some (.int .i64 i.a)∧w.cell? ⟨gl,pc*3+2,none⟩=some (.int .i64 i.b)∧gl<w.heap.size∧pc<code.length∧code.length≤cap∧cap≤maxLen:=by
 have c:=fun j hj=>hc.at_ (f:=Cr) (fun _=>rfl) hi (j:=j) hj
 have hl:=(Ap.1 hi).1
 obtain⟨g,cp,e,_,h1,h2,h3⟩:=hc.form (by omega)
 injection e with e1 _ e3
 injection e1 with e1
 injection e1 with e1
 subst e1 e3
 exact⟨c 0 (by omega),c 1 (by omega),c 2 (by omega),h3,hl,h1,h2⟩
theorem kT (Ad9:∀c n,Gl.count c n∈code→0≤n∧n≤50) (hp:EO p) (he:Se B ea w0) (hc:Sl (fun b=>b<B) w0 147 3 (.slice (some ⟨gl,0,none⟩) code.length cap) code.length (code.flatMap Cr))
  {SA:Nat→Prop} {A:Am} {ns:List (List Nat)} {s:St} {k0 bc:Nat} {M:GP} (Cd:TC p key code k0 ⟨0,[],false,List.replicate x.lp 0,⟨s,[]⟩⟩=some res) (hm:BV w0 bc .i64 M) (hM:FT M ev=some (.slice (some ⟨gl,0,none⟩) code.length cap))
  (LU:oS B w0 x.gg x.gp x.vd x.bmv (.map (some bc)) x.lp p) (CP:tE B w0 x.gs x.ga x.vva SA A s.vars) (hA:CM A ns s.q) (hS:Hc p s) (hB:B≤w0.heap.size) (Ux:x.lp≤490000)
  (x1:x.gr=w0.heap.size+1) (x2:x.vlo= .slice (some ⟨w0.heap.size,0,none⟩) x.lp x.lp) (x3:x.bcv= .map (some bc)):
  Calls Tryz.prog 37 #[.pointer (some ⟨x.gg,0,none⟩),.pointer (some ⟨x.gs,0,none⟩),.int .i64 ev,.int .u64 key] w0 (dA B ea w0 x.gs p res):=by
 have hJ:=Ci.first (key:=key) LU CP hB Ux
 have CV:Af (fun b=>B≤b) w0 ((w0.alloc (.cells (List.replicate x.lp (Value.int .i64 0)).toArray 3)).alloc (.cells #[.pointer (some ⟨x.gg,0,none⟩),.pointer (some ⟨x.gs,0,none⟩),.int .u64 key,.slice none 0 0,.bool false,.slice (some ⟨w0.heap.size,0,none⟩) x.lp x.lp,.slice none 0 0] 144)):=
  ((Af.refl _ w0).alloc hB _).alloc (Ai hB (by simp)) _
 have ex:(⟨w0.heap.size+1,x.gg,x.gp,x.gs,x.ga,x.vd,x.bmv,.map (some bc),x.lp,.slice none 0 0,.slice (some ⟨w0.heap.size,0,none⟩) x.lp x.lp,.slice none 0 0,x.vva⟩:RV)={x with vst:=.slice none 0 0,vou:=.slice none 0 0}:=by rw[←x1,←x2,←x3]
 rw[ex]at hJ
 have c1:=LU.prog.cell 1
 have c2:=LU.prog.cell 2
 have hz:∀w:World,(zeroValue 140).run Tryz.prog w= .ok (.slice none 0 0) w:=fun w=>by kernel_rfl
 have hl:=hm.lookup (P:=Tryz.prog) db D8 hz ev true
 rw[hM]at hl
 obtain⟨i0,Lt,KX,Ls,Lr⟩:=Cj NW
 have Pg:∀W:World,(Instr.makeSlice 70 (.int .i64 (x.lp:Int)) (.int .i64 (x.lp:Int))).run Tryz.prog W=
   .ok (.slice (some ⟨W.heap.size,0,none⟩) x.lp x.lp) (W.alloc (.cells (List.replicate x.lp (Value.int .i64 0)).toArray 3)):=by
  intro W
  have h:=pz (P:=Tryz.prog) W 70 3 i0 _ IN Lt KX .i64 .i64 (x.lp:Int) (x.lp:Int) (by omega) (by omega) (by rw[Lr];omega) (by omega)
  rw[Ls,A3]at h
  have e:(Value.int .i64 0).cells=#[Value.int .i64 0]:=rfl
  rw[e,Jm,JJ]at h
  exact h
 generalize hE:List.replicate x.lp (Value.int .i64 0)=E at Pg hJ CV
 have HJ:=Aa hJ
 have _7:=Aa Cd
 have pd:=Aa hA
 have HS0:=Aa hS
 have PU:=Aa CV
 have HX1:=Aa x1
 clear hJ Cd hA hS CV ex x1 x2 x3 hE Lt KX Ls Lr hM hm LU CP hB
 simp at c1 c2 hl
 go_enter Tryz.func37,Tryz.ntmps37
 go_wp2
 refine NE 0 (Afg B ea w0 x p ev key code gl cap res) rfl ?_ ?_
 ·intro eL
  have HP:=Aa eL
  clear eL
  apply wp_seq_k;intro K0 hK0;have wW:=Aa hK0;clear hK0
  go_wp2
  refine wW.out _ _ ?_
  apply wp_seq_k;intro K1 hK1;have Lv:=Aa hK1;clear hK1
  go_wp2
  refine Lv.out _ _ ?_
  apply wp_seq_k;intro K2 xR;have Ll:=Aa xR;clear xR
  go_wp2
  refine Ll.out _ _ ?_
  apply wp_seq_k;intro K3 hK3;have Yf:=Aa hK3;clear hK3
  go_wp2
  refine Yf.out _ _ ?_
  refine wp_seq (wp_label ?_)
  refine HP.out k0 _ _ ⟨⟨0,[],false,List.replicate x.lp 0,⟨s,[]⟩⟩,.slice none 0 0,.slice none 0 0,SA,A,ns,Kj _ (fun u=>TW x.gg x.gs x.gr gl code.length cap 0 ev key u) (by rw[HX1.out];rfl),_7.out,HJ.out,pd.out,HS0.out,Bn _,?_,PU.out⟩
  intro n hn
  have:=List.eq_of_mem_replicate hn
  omega
 ·rintro k a w1 ⟨v,st,ou,SA,A,ns,⟨u,rfl⟩,Cd,hr,hA,hS,hl,Tj,hk⟩
  cases k with
  |zero=>cases Cd
  |succ k=>
   unfold TC at Cd
   cases hi:code[v.pc]? with
   |none=>rw[hi]at Cd;cases Cd
   |some i=>
    rw[hi]at Cd
    simp only at Cd
    have Nk:=hc.kept hk (fun b hb Hy=>by have h1:=hc.2 b hb;simp only at h1;omega)
    have bZ:=he.kept hk (fun b hb=>hb)
    obtain⟨s0,s1,s2,SX,qr,hcp,RI⟩:=aW Nk hi
    have HC:=Aa Nk
    have HE:=Aa bZ
    have HR:=Aa hr
    have HA:=Aa hA
    have HS:=Aa hS
    have HK:=Aa hk
    have j4:=Aa Tj
    have HB:=Aa hr.base
    have r1:x.gr<w1.heap.size:=hr.row.lt
    have q1:¬x.gr=w1.heap.size:=by omega
    have q2:¬gl=w1.heap.size:=by omega
    unfold maxLen at RI
    clear Nk bZ hr hA hS hk Tj
    have HI:=Aa hi
    clear hi
    unfold TW
    by_cases UC:Wp i=true
    ·cases hv:El p key v i with
     |none=>rw[hv]at Cd;cases Cd
     |some y=>
      cases y with
      |inr r=>exact absurd hv (cV UC r)
      |inl v'=>
       rw[hv]at Cd
       simp only at Cd
       have LU:=HR.out.grown ((Af.refl _ w1).alloc (Ab _) (.cells (Cr i).toArray 147)) HR.out.base
       obtain⟨Ex,y9,Mj,zw,Uy⟩:=rr LU hp HA.out HS.out hl UC hv
       obtain⟨o9,o16⟩:=wB UC
       unfold Cr at Ex LU
       obtain⟨o,ho⟩:∃o:Int,o=i.op:=⟨_,rfl⟩
       rw[←ho]at Ex s0 LU
       have e9:9≤o:=by omega
       have e16:o≤16:=by omega
       have f21:(o==21)=false:=by simp;omega
       have f17:(o==17)=false:=by simp;omega
       have f18:(o==18)=false:=by simp;omega
       have f19:(o==19)=false:=by simp;omega
       have f20:(o==20)=false:=by simp;omega
       have fo:=Aa Ex
       have PQ:=Aa Cd
       have HPC:=Aa y9
       have dI:=Aa Mj
       have ju:=Aa Uy
       have HLP:=Aa zw
       clear Ex Cd y9 Mj zw Uy LU ho o9 o16 hv UC hl
       generalize i.a=ia at*
       generalize i.b=ib at*
       go_wp2_with (go_at_call 59;refine fo.out.mono ?_;rintro e w2 ⟨rfl,A4,u2,Ij⟩;have Ll:=Aa A4;have Tc:=Aa Ij;clear A4 Ij)
       go_step3
       refine⟨rfl,k,Ea k,v',u2,ou,SA,A,ns,?_,PQ.out,Tc.out,by rw[dI.out];exact HA.out,by rw[dI.out];exact HS.out,ju.out,by rw[HLP.out];exact j4.out,(HK.out.alloc HB.out _).trans Ll.out⟩
       rw[HPC.out]
       exact Kj _ _ rfl
    ·cases i with
     |fin=>
      simp only[El]at Cd
      injection Cd with Cd
      subst Cd
      have c6:=HR.out.row.cell 6
      simp at c6
      have s0':w1.cell? ⟨gl,v.pc*3,none⟩=some (.int .u8 21):=s0
      have s1':w1.cell? ⟨gl,v.pc*3+1,none⟩=some (.int .i64 0):=s1
      have s2':w1.cell? ⟨gl,v.pc*3+2,none⟩=some (.int .i64 0):=s2
      clear s0 s1 s2 hl UC
      go_wp2
      go_ret2
      obtain⟨vl,vf,vq,bm,JK⟩:=HR.out.ar
      have hg:=HR.out.grown ((Af.refl _ w1).alloc (Ab _) (.cells #[.int .u8 21,.int .i64 0,.int .i64 0] 147)) HR.out.base
      exact⟨HK.out.alloc HB.out _,ou,x.ga,x.vva,SA,A,ns,rfl,hg.state,HA.out,HS.out,hg.out,fun b hb=>⟨hg.s3 b hb,fun e=>hg.out.ne_row hg.srow (by decide) (e▸hb),fun e=>hg.vars.apart_ne hg.out (by decide) b e hb⟩⟩
     |jump a=>
      simp only[El]at Cd
      have s0':w1.cell? ⟨gl,v.pc*3,none⟩=some (.int .u8 17):=s0
      have s1':w1.cell? ⟨gl,v.pc*3+1,none⟩=some (.int .i64 a):=s1
      have s2':w1.cell? ⟨gl,v.pc*3+2,none⟩=some (.int .i64 0):=s2
      have PQ:=Aa Cd
      have ju:=Aa hl
      clear s0 s1 s2 hl UC Cd
      go_wp2
      go_step3
      exact⟨rfl,k,Ea k,{v with pc:=a},st,ou,SA,A,ns,Kj _ _ rfl,PQ.out,(HR.out.grown ((Af.refl _ w1).alloc (Ab _) _) HR.out.base).at_ a,HA.out,HS.out,ju.out,j4.out,HK.out.alloc HB.out _⟩
     |skip a=>
      simp only[El]at Cd
      have s0':w1.cell? ⟨gl,v.pc*3,none⟩=some (.int .u8 18):=s0
      have s1':w1.cell? ⟨gl,v.pc*3+1,none⟩=some (.int .i64 a):=s1
      have s2':w1.cell? ⟨gl,v.pc*3+2,none⟩=some (.int .i64 0):=s2
      have c4:=HR.out.row.cell 4
      have ju:=Aa hl
      clear s0 s1 s2 hl UC
      cases hy:v.yes with
      |true=>
       rw[Ak hy]at Cd
       simp at c4
       rw[hy]at c4
       have PQ:=Aa Cd
       clear Cd hy
       go_wp2
       go_step3
       exact⟨rfl,k,Ea k,{v with pc:=v.pc+1},st,ou,SA,A,ns,Kj _ _ rfl,PQ.out,(HR.out.grown ((Af.refl _ w1).alloc (Ab _) _) HR.out.base).at_ _,HA.out,HS.out,ju.out,j4.out,HK.out.alloc HB.out _⟩
      |false=>
       rw[Ad (by rw[hy];decide)]at Cd
       simp at c4
       rw[hy]at c4
       have PQ:=Aa Cd
       clear Cd hy
       go_wp2
       go_step3
       exact⟨rfl,k,Ea k,{v with pc:=a},st,ou,SA,A,ns,Kj _ _ rfl,PQ.out,(HR.out.grown ((Af.refl _ w1).alloc (Ab _) _) HR.out.base).at_ _,HA.out,HS.out,ju.out,j4.out,HK.out.alloc HB.out _⟩
     |count c n=>
      simp only[El]at Cd
      by_cases Nw:c<v.loops.length
      ·rw[Ak Nw]at Cd
       simp only at Cd
       obtain⟨gv,cv,qN,_,eO,hlm,hgv⟩:=HR.out.loops.form (by omega)
       have s0':w1.cell? ⟨gl,v.pc*3,none⟩=some (.int .u8 19):=s0
       have s1':w1.cell? ⟨gl,v.pc*3+1,none⟩=some (.int .i64 c):=s1
       have s2':w1.cell? ⟨gl,v.pc*3+2,none⟩=some (.int .i64 n):=s2
       have c5:=HR.out.row.cell 5
       simp at c5
       rw[show x.vlo=_ from qN]at c5
       have aB:=HR.out.loops
       rw[show({x with vst:=st,vou:=ou}:RV).vlo=_ from qN]at aB
       have cc:∃y,w1.cell? ⟨gv,c,none⟩=some y:=by
        have h2:=aB.1.cellAt c (by simpa using Nw)
        rw[Az,Ah Nw]at h2
        exact⟨_,h2⟩
       obtain⟨y,cc⟩:=cc
       have cf:∀j,w1.frozen? ⟨gv,j,none⟩=false:=fun j=>aB.1.frozenAt j
       have q3:¬gv=w1.heap.size:=by omega
       have mm:=fun nq=>(HR.out.grown (w':=(w1.alloc (.cells #[.int .u8 19,.int .i64 c,.int .i64 n] 147)).drewN nq) (((Af.refl _ w1).alloc (Ab _) _).drewN nq) HR.out.base).setLoop qN c n
       have sT:B≤gv:=aB.2 gv rfl
       have PQ:=Aa Cd
       have ju:=Aa hl
       have wP:=Aa mm
       have HGB:=Aa sT
       generalize v.loops.length=LL at*
       unfold maxLen at hlm
       clear s0 s1 s2 hl UC Cd qN aB mm sT
       go_wp2
       refine GQ 9 (by kernel_rfl) (by kernel_rfl) ?_
       simp only[Aw,AO,Ax,AK]
       repeat (go_big_quiet_step (fail))
       refine Id ?_
       intro nq
       go_wp2
       go_step3
       exact⟨rfl,k,Ea k,{v with pc:=v.pc+1,loops:=v.loops.set c n},st,ou,SA,A,ns,Kj _ _ rfl,PQ.out,(wP.out nq).at_ _,HA.out,HS.out,ju.out,Uf j4.out (Ad9 c n (A7 HI.out)),((HK.out.alloc HB.out _).drewN nq).setCell (p:=⟨gv,c,none⟩) HGB.out _⟩
      ·rw[Ad Nw]at Cd;cases Cd
     |again c a=>
      simp only[El]at Cd
      cases sZ:v.loops[c]? with
      |none=>rw[sZ]at Cd;cases Cd
      |some n=>
       rw[sZ]at Cd
       simp only at Cd
       have Nw:c<v.loops.length:=(Ap.1 sZ).1
       obtain⟨MX,Aml⟩:=j4.out n (A7 sZ)
       obtain⟨gv,cv,qN,_,eO,hlm,hgv⟩:=HR.out.loops.form (by omega)
       have s0':w1.cell? ⟨gl,v.pc*3,none⟩=some (.int .u8 20):=s0
       have s1':w1.cell? ⟨gl,v.pc*3+1,none⟩=some (.int .i64 c):=s1
       have s2':w1.cell? ⟨gl,v.pc*3+2,none⟩=some (.int .i64 a):=s2
       have c5:=HR.out.row.cell 5
       simp at c5
       rw[show x.vlo=_ from qN]at c5
       have aB:=HR.out.loops
       rw[show({x with vst:=st,vou:=ou}:RV).vlo=_ from qN]at aB
       have cc:w1.cell? ⟨gv,c,none⟩=some (.int .i64 n):=by
        have h2:=aB.1.cellAt c (by simpa using Nw)
        rw[Az,sZ]at h2
        exact h2
       have cf:∀j,w1.frozen? ⟨gv,j,none⟩=false:=fun j=>aB.1.frozenAt j
       have q3:¬gv=w1.heap.size:=by omega
       have bX:=fun nq=>HR.out.grown (w':=(w1.alloc (.cells #[.int .u8 20,.int .i64 c,.int .i64 a] 147)).drewN nq) (((Af.refl _ w1).alloc (Ab _) _).drewN nq) HR.out.base
       have mm:=fun nq=>(bX nq).setLoop qN c (n-1)
       have sT:B≤gv:=aB.2 gv rfl
       have PQ:=Aa Cd
       have ju:=Aa hl
       have wP:=Aa mm
       have HGR:=Aa bX
       have HGB:=Aa sT
       generalize QG:v.loops.length=LL at*
       unfold maxLen at hlm
       clear QG
       clear s0 s1 s2 hl UC Cd qN aB mm bX sT sZ
       by_cases hz:n=0
       ·subst hz
        have Cd:=PQ.out
        rw[Ak rfl]at Cd
        simp only at Cd
        have ak:=Aa Cd
        clear Cd
        go_wp2
        go_quiet (fail)
        go_wp2
        go_step3
        exact⟨rfl,k,Ea k,{v with pc:=a},st,ou,SA,A,ns,Kj _ _ rfl,ak.out,(HGR.out nq).at_ _,HA.out,HS.out,ju.out,j4.out,(HK.out.alloc HB.out _).drewN nq⟩
       ·have Cd:=PQ.out
        rw[Ad hz]at Cd
        simp only at Cd
        have ak:=Aa Cd
        have z1:(n==0)=false:=by simpa using hz
        have z2:decide (n=0)=false:=by simpa using hz
        have Pe:IntKind.i64.wrap (n-1)=n-1:=E9 _ (by omega)
        clear Cd
        go_wp2
        go_quiet (fail)
        go_wp2
        refine GQ 10 (by kernel_rfl) (by kernel_rfl) ?_
        simp only[Aw,AO,Ax,AK]
        repeat (go_big_quiet_step (fail))
        refine Id ?_
        intro nq2
        go_wp2
        go_step3
        exact⟨rfl,k,Ea k,{v with pc:=v.pc+1,loops:=v.loops.set c (n-1)},st,ou,SA,A,ns,Kj _ _ rfl,ak.out,(wP.out _).at_ _,HA.out,HS.out,ju.out,Uf j4.out (by omega),((HK.out.alloc HB.out _).drewN _).setCell (p:=⟨gv,c,none⟩) HGB.out _⟩
     |prim y=>
      simp only[El]at Cd
      by_cases G7:J2 p.decls y∧v.r.gone.length<Df
      ·rw[Ak G7]at Cd
       have LU:=HR.out.grown ((Af.refl _ w1).alloc (Ab _) (.cells (Cr (.prim y)).toArray 147)) HR.out.base
       have heo:=HE.out.kept ((Af.refl (fun b=>B≤b) w1).alloc HR.out.base (.cells (Cr (.prim y)).toArray 147)) (fun b hb=>hb)
       have Ex:=qR LU heo hp HA.out HS.out G7.2 G7.1
       have o8:=pK y
       unfold Cr at Ex LU heo
       obtain⟨o,ho⟩:∃o:Int,o=(Gl.prim y).op:=⟨_,rfl⟩
       have e8:o≤8:=by rw[ho];show((y.op:Nat):Int)≤8;omega
       rw[←ho]at Ex s0 LU heo
       have f21:(o==21)=false:=by simp;omega
       have f17:(o==17)=false:=by simp;omega
       have f18:(o==18)=false:=by simp;omega
       have f19:(o==19)=false:=by simp;omega
       have f20:(o==20)=false:=by simp;omega
       have PQ:=Aa Cd
       have fo:=Aa Ex
       have ju:=Aa hl
       have fp:=Aa ((HK.out.alloc HB.out (.cells #[.int .u8 o,.int .i64 (Gl.prim y).a,.int .i64 (Gl.prim y).b] 147)))
       clear Cd Ex LU heo ho o8 G7 UC hl
       generalize (Gl.prim y).a=ia at*
       generalize (Gl.prim y).b=ib at*
       cases hx:prim p key y v.r with
       |error ke=>
        have Cd:=PQ.out
        rw[hx]at Cd
        simp only at Cd
        injection Cd with Cd
        subst Cd
        have Ex:=fo.out
        rw[hx]at Ex
        have dO:=Aa Ex
        clear Ex hx
        go_wp2_with (go_at_call 60;refine dO.out.mono ?_;rintro e w2 ⟨A4,bY⟩;have he3:e= .returned (.iface 315 (.pointer (some (ea ke)))):=bY;subst he3;have Ll:=Aa A4;clear A4 bY)
        go_ret2
        exact⟨fp.out.trans Ll.out,rfl⟩
       |ok r'=>
        have Cd:=PQ.out
        rw[hx]at Cd
        simp only at Cd
        have Ex:=fo.out
        rw[hx]at Ex
        have dO:=Aa Ex
        have ak:=Aa Cd
        clear Ex hx Cd
        go_wp2_with (go_at_call 60;refine dO.out.mono ?_;rintro e w2 ⟨A4,rfl,Ij⟩;have Ll:=Aa A4;have Tc:=Aa Ij;clear A4 Ij)
        go_step3
        obtain⟨PJ,u2,A',Pc,r1,r2,r3⟩:=Tc.out
        exact⟨rfl,k,Ea k,{v with pc:=v.pc+1,r:=r'},st,u2,PJ,A',Pc,Kj _ _ rfl,ak.out,r1.at_ _,r2,r3,ju.out,j4.out,fp.out.trans Ll.out⟩
      ·rw[Ad G7]at Cd;cases Cd
     |_=>exact absurd rfl UC
def wG (w0:World) (e:Ending) (w':World):Prop:=e= .returned (.tuple #[.slice none 0 0,.nilIface])∧w'=w0
theorem kS {gg gs bc lp:Nat} {vp:Value} {M:GP} (hm:BV w0 bc .i64 M) (hM:FT M ev=none) (LU:AM w0 gg 94 [vp,.map (some bc),.int .i64 lp]):
  Calls Tryz.prog 37 #[.pointer (some ⟨gg,0,none⟩),.pointer (some ⟨gs,0,none⟩),.int .i64 ev,.int .u64 key] w0 (wG w0):=by
 have c1:=LU.cell 1
 have hz:∀w:World,(zeroValue 140).run Tryz.prog w= .ok (.slice none 0 0) w:=fun w=>by kernel_rfl
 have hl:=hm.lookup (P:=Tryz.prog) db D8 hz ev true
 rw[hM]at hl
 clear hm hM LU
 simp at c1 hl
 go_enter Tryz.func37,Tryz.ntmps37
 go_wp2
 refine NE 0 (fun _ _ _=>False) rfl ?_ ?_
 ·intro eL
  clear eL
  go_wp2
  go_ret2
  exact⟨rfl,rfl⟩
 ·intro k a w h
  exact h.elim
theorem pC {gg gp gs ga bc lp:Nat} {vd bmv vva:Value} {M:GP} {SA:Nat→Prop} {A:Am} {ns:List (List Nat)} {s:St} (hp:EO p) (he:Se B ea w0) (LU:oS B w0 gg gp vd bmv (.map (some bc)) lp p) (CP:tE B w0 gs ga vva SA A s.vars) (hA:CM A ns s.q) (hS:Hc p s)
  (hB:B≤w0.heap.size) (Ux:lp≤490000) (hm:BV w0 bc .i64 M)
  (hr:match AE p.rules ev with|some _=>∃v,FT M ev=some v∧UZ (fun b=>b<B) w0 p.rules lp ev v|none=>FT M ev=none):
  Calls Tryz.prog 37 #[.pointer (some ⟨gg,0,none⟩),.pointer (some ⟨gs,0,none⟩),.int .i64 ev,.int .u64 key] w0 (dA B ea w0 gs p (exec p key (DX p ev) ⟨s,[]⟩)):=by
 cases IJ:AE p.rules ev with
 |none=>
  rw[IJ]at hr
  have e:exec p key (DX p ev) ⟨s,[]⟩= .ok ⟨s,[]⟩:=by unfold DX;rw[IJ];rfl
  rw[e]
  refine(kS hm hr LU.prog).mono ?_
  rintro e w' ⟨rfl,rfl⟩
  exact⟨Af.refl _ _,_,ga,vva,SA,A,ns,rfl,CP,hA,hS,⟨Cz _ _ _ _,fun g hg=>by cases hg⟩,fun b hb=>by cases hb⟩
 |some b=>
  rw[IJ]at hr
  obtain⟨v,hM,b',c,Vf,hs,Nw⟩:=hr
  rw[IJ]at Vf
  injection Vf with Vf
  subst Vf
  have e:DX p ev=b:=by unfold DX;rw[IJ];rfl
  rw[e]
  have hlen:0<(NN c b).length:=by unfold NN;simp
  obtain⟨gl,cap,rfl,_⟩:=hs.form hlen
  obtain⟨k0,Gh⟩:=kV (key:=key) b c (dZ hp IJ) s (List.replicate lp 0) (by simpa using Nw) (Ai (Wb hp IJ) (by unfold Df;omega))
  have hW:=hp.rules.each _ (LG IJ)
  exact kT (x:=⟨w0.heap.size+1,gg,gp,gs,ga,vd,bmv,.map (some bc),lp,.slice none 0 0,.slice (some ⟨w0.heap.size,0,none⟩) lp lp,.slice none 0 0,vva⟩) (code:=NN c b) (be hW.w) hp he hs Gh hm hM LU CP hA hS hB Ux rfl rfl rfl
end
theorem YX {α:Type} {f:α→List Value} (hf:∀x,∀u∈f x,u.oneCell'=true) (l:List α):∀u∈l.flatMap f,u.oneCell'=true:=by
 intro u hu
 obtain⟨x,_,hx⟩:=List.mem_flatMap.1 hu
 exact hf x u hx
structure Clo (w:World) (A:Am) (wx:World) (gb bm:Nat) (vl vf vq:Value):Prop where
 row:AM wx gb 136 [vl,vf,vq,.map (some bm)]
 l:Sl (fun b=>w.heap.size≤b) wx 138 5 vl A.l.length (A.l.flatMap DZ)
 f:Sl (fun b=>w.heap.size≤b) wx 3 1 vf A.free.length (A.free.map Ld)
 q:Sl (fun b=>w.heap.size≤b) wx 158 3 vq A.qs.length (A.qs.flatMap EF)
 m:BV wx bm .u64 []
 g0:w.heap.size≤gb
 m0:w.heap.size≤bm
 kept:Af (fun b=>w.heap.size≤b) w wx
theorem iX {w W:World} {A:Am} {gb bm:Nat} {vl vf vq:Value} (jK:gb=W.heap.size) (hm:BV W bm .u64 []) (hl:Sl (fun b=>w.heap.size≤b) W 138 5 vl A.l.length (A.l.flatMap DZ))
  (hf:Sl (fun b=>w.heap.size≤b) W 3 1 vf A.free.length (A.free.map Ld)) (hq:Sl (fun b=>w.heap.size≤b) W 158 3 vq A.qs.length (A.qs.flatMap EF)) (hb:w.heap.size≤bm)
  (hk:Af (fun b=>w.heap.size≤b) w W):Clo w A (W.alloc (.cells #[vl,vf,vq,.map (some bm)] 136)) gb bm vl vf vq:=by
 subst jK
 exact⟨AM.new W _ _,hl.alloc _,hf.alloc _,hq.alloc _,hm.alloc _,hk.size,hb,hk.alloc hk.size _⟩
theorem BV.later {w w':World} {T:Nat→Prop} {b:Nat} {k:IntKind} {M:GP} (h:BV w b k M) (hk:Af T w w') (hT:∀b,T b→w.heap.size≤b):BV w' b k M:=h.kept hk (fun ht=>by have:=h.lt;have:=hT _ ht;omega)
structure Agt (w:World) (A:Am) (bm r:Nat) (wr:World) (gb bb:Nat) (vl vf vq:Value) (sk:List Int):Prop where
 rng:Jf wr r bm .u64 (FV A.at_) sk
 nd:sk.Nodup
 sub:∀k∈sk,k∈(FV A.at_).map (·.1)
 row:AM wr gb 136 [vl,vf,vq,.map (some bb)]
 l:Sl (fun b=>w.heap.size≤b) wr 138 5 vl A.l.length (A.l.flatMap DZ)
 f:Sl (fun b=>w.heap.size≤b) wr 3 1 vf A.free.length (A.free.map Ld)
 q:Sl (fun b=>w.heap.size≤b) wr 158 3 vq A.qs.length (A.qs.flatMap EF)
 m:BV wr bb .u64 (FV (sk.reverse.map fun k=>(k,(A.idx k).getD 0)))
 g0:w.heap.size≤gb
 m0:w.heap.size≤bb
 kept:Af (fun b=>w.heap.size≤b) w wr
theorem iS {A:Am} {k:Int} {v:Value} (hn:(A.at_.map (·.1)).Nodup) (h:(k,v)∈FV A.at_):v= .int .i64 (((A.idx k).getD 0:Nat):Int):=by
 unfold FV at h
 obtain⟨x,hx,e⟩:=AT.1 h
 injection e with e1 e2
 subst e1 e2
 have:A.idx x.1=some x.2:=by
  unfold Am.idx
  generalize A.at_=l at hn hx
  induction l with
  |nil=>cases hx
  |cons y l ih=>
   rw[Cq,BK]at hn
   rcases Bt.1 hx with rfl|hx
   ·simp
   ·have Cu:¬y.1=x.1:=fun e=>hn.1 (e▸AT.2 ⟨x,hx,rfl⟩)
    rw[DE (by simpa using Cu)]
    exact ih hn.2 hx
 rw[this];rfl
theorem qf {A:Am} {k:Int}:(A.idx k).isSome=true↔k∈(FV A.at_).map (·.1):=by
 unfold Am.idx FV
 rw[Option.isSome_map,List.find?_isSome,dF]
 constructor
 ·rintro⟨x,hx,h⟩
  exact AT.2 ⟨x,hx,by simpa using h⟩
 ·intro h
  obtain⟨x,hx,h⟩:=AT.1 h
  exact⟨x,hx,by simpa using h⟩
theorem hO {l:List Int} (h:l.Nodup):l.reverse.Nodup:=by
 induction l with
 |nil=>exact rB
 |cons x l ih=>
  rw[BK]at h
  rw[dD,B5]
  refine⟨ih h.2,by simp,fun a ha b hb e=>?_⟩
  rw[D3]at hb
  rw[e,hb,jq]at ha
  exact h.1 ha
theorem SQ {l:List Int} {f:Int→Nat} {k:Int} (h:k∉l):FT (FV (l.map fun k=>(k,f k))) k=none:=by
 rw[Pu,M0,Ad h];rfl
theorem cz (l:List Int) (f:Int→Nat) (k:Int):FV ((l++[k]).map fun k=>(k,f k))=FV (l.map fun k=>(k,f k))++[(k,.int .i64 (f k:Nat))]:=by
 unfold FV
 rw[CJ,CJ];rfl
section
variable {S:Nat→Prop} {w:World} {g bm:Nat} {A:Am} {vl vf vq:Value}
attribute [local go_sem ↓] Go.wp_at_zero Go.wp_at_succ
theorem da (h:BL S w g A vl vf vq bm) (l1:A.l.length≤1000000) (l2:A.free.length≤1000000) (l3:A.qs.length≤1000000) (IZ:(A.at_.map (·.1)).Nodup):Calls Tryz.prog 58 #[.pointer (some ⟨g,0,none⟩)] w fun e w'=>
  ∃g' sk,e= .returned (.pointer (some ⟨g',0,none⟩))∧Af (fun b=>w.heap.size≤b) w w'∧(∃vl vf vq bm,BL (fun b=>w.heap.size≤b) w' g' (A.reord sk) vl vf vq bm)∧sk.Nodup∧∀k,k∈sk↔(A.idx k).isSome=true:=by
 have xD:=@jD Tryz.prog
 have c0:=h.row.cell 0
 have c1:=h.row.cell 1
 have c2:=h.row.cell 2
 have c3:=h.row.cell 3
 have r1:=h.row.lt
 obtain⟨al,cl,rfl⟩:∃a c,vl= .slice a A.l.length c:=h.l.shape
 obtain⟨af,cf,rfl⟩:∃a c,vf= .slice a A.free.length c:=h.f.shape
 obtain⟨aq,cq,rfl⟩:∃a c,vq= .slice a A.qs.length c:=h.q.shape
 obtain⟨i0,Lt,KX,Ls,Lr⟩:=Cj Zg
 obtain⟨j0,xI,uS,hy1,ma⟩:=Cj NW
 obtain⟨k0,Gh,Ke,RE,eI⟩:=Cj Zh
 have s1:=h.l.src
 have s2:=h.f.src
 have s3:=h.q.src
 have o1:∀u∈A.l.flatMap DZ,u.oneCell'=true:=YX (fun x u hu=>by simp[DZ]at hu;rcases hu with rfl|rfl|rfl|rfl|rfl<;>rfl) _
 have o2:∀u∈A.free.map Ld,u.oneCell'=true:=by intro u hu;obtain⟨x,_,rfl⟩:=AT.1 hu;rfl
 have o3:∀u∈A.qs.flatMap EF,u.oneCell'=true:=YX (fun x u hu=>by simp[EF]at hu;rcases hu with rfl|rfl|rfl<;>rfl) _
 have b1:=h.l.src_lt
 have b2:=h.f.src_lt
 have b3:=h.q.src_lt
 have HH:=Aa h
 have S1:=Aa s1
 have S2:=Aa s2
 have S3:=Aa s3
 have O1:=Aa o1
 have O2:=Aa o2
 have O3:=Aa o3
 have B1:=Aa b1
 have B2:=Aa b2
 have B3:=Aa b3
 have m1:A.l.length≤maxLen:=by unfold maxLen;omega
 have m2:A.free.length≤maxLen:=by unfold maxLen;omega
 have m3:A.qs.length≤maxLen:=by unfold maxLen;omega
 have n1:A.l.length*40≤140737488355328:=by omega
 have n2:A.free.length*8≤140737488355328:=by omega
 have n3:A.qs.length*24≤140737488355328:=by omega
 clear h s1 s2 s3 o1 o2 o3 b1 b2 b3
 simp at c0 c1 c2 c3
 go_enter Tryz.func58,Tryz.ntmps58
 go_wp2_with fail
 go_upto_region 2 with fail
 go_cut [3] (fun s3 wx=>∃gb bm vl vf vq,s3= .pointer (some ⟨gb,0,none⟩)∧Clo w A wx gb bm vl vf vq)
 case first=>
  as_aux_lemma=>
  go_region_held3 (fun w'=>w'.cell? ⟨g,0,none⟩=some (.slice al A.l.length cl)∧w'.cell? ⟨g,1,none⟩=some (.slice af A.free.length cf)∧w'.cell? ⟨g,2,none⟩=some (.slice aq A.qs.length cq)∧Af (fun b=>w.heap.size≤b) w w')
   ((repeat' apply And.intro)<;>(first
    |assumption
    |exact(Af.cell J6 (by simp only;omega)).trans c0
    |exact(Af.cell J6 (by simp only;omega)).trans c1
    |exact(Af.cell J6 (by simp only;omega)).trans c2
    |exact(Af.cell Ik (by simp only;omega)).trans c0
    |exact(Af.cell Ik (by simp only;omega)).trans c1
    |exact(Af.cell Ik (by simp only;omega)).trans c2
    |exact(Af.cell Xm (by simp only;omega)).trans c0
    |exact(Af.cell Xm (by simp only;omega)).trans c1
    |exact(Af.cell Xm (by simp only;omega)).trans c2
    |(with_reducible exact(Af.refl _ _).drew)
    |(refine Af.drew ?_;assumption)
    |exact(Af.refl _ _).drew.alloc (Ab _) _
    |exact J6.alloc z1 _
    |exact Ik.alloc z2 _
    |exact Xm.alloc z3 _
    |exact(Xm.alloc z3 _).alloc (by simp;omega) _
    |go_keep
    ))
   (first
    |(refine Ov (w0:=w) (N:=w.heap.size) ?_ (Ab _) S1.out B1.out Tryz.underlying132 Lt KX Ls Lr rfl (by decide) O1.out m1 n1 (by rfl) _ _ (by rfl) (by rfl) (by rfl) ?_;(first|exact(Af.refl _ _).drew|exact J6|exact Ik|exact(Af.refl _ _).drew.alloc (Ab _) _|exact J6.alloc J6.size _|exact Ik.alloc Ik.size _|assumption);intro a1 e1 w1 GG Bi J6;have z1:=J6.size;have oV:=Aa GG;have Lv:=Aa Bi;clear GG Bi)
    |(refine Ov (w0:=w) (N:=w.heap.size) ?_ (Ab _) S2.out B2.out IN xI uS hy1 ma rfl (by decide) O2.out m2 n2 (by rfl) _ _ (by rfl) (by rfl) (by rfl) ?_;(first|exact(Af.refl _ _).drew|exact J6|exact Ik|exact(Af.refl _ _).drew.alloc (Ab _) _|exact J6.alloc J6.size _|exact Ik.alloc Ik.size _|assumption);intro a2 e2 w2 Cp A4 Ik;have z2:=Ik.size;have SL:=Aa Cp;have Ll:=Aa A4;clear Cp A4)
    |(refine Ov (w0:=w) (N:=w.heap.size) ?_ (Ab _) S3.out B3.out Tryz.underlying133 Gh Ke RE eI rfl (by decide) O3.out m3 n3 (by rfl) _ _ (by rfl) (by rfl) (by rfl) ?_;(first|exact(Af.refl _ _).drew|exact J6|exact Ik|exact(Af.refl _ _).drew.alloc (Ab _) _|exact J6.alloc J6.size _|exact Ik.alloc Ik.size _|assumption);intro a3 e3 w3 Fo BY Xm;have z3:=Xm.size;have fh:=Aa Fo;have Yf:=Aa BY;clear Fo BY))
  all_goals
   go_wp2
   go_meet
   refine⟨_,_,_,_,_,rfl,iX (by simp) ?_ ?_ ?_ ?_ ?_ ?_⟩
   ·repeat' first|with_reducible exact BV.at_new _ rfl|with_reducible refine BV.later ?_ Yf.out (fun b hb=>by simpa using hb)|with_reducible refine BV.later ?_ Ll.out (fun b hb=>by simpa using hb)|with_reducible refine BV.later ?_ Lv.out (fun b hb=>by simpa using hb)|with_reducible refine BV.drew ?_|with_reducible refine BV.alloc ?_ _
   ·repeat' first|exact oV.out.mono (fun b hb=>(by first|omega|(simp at hb;omega)))|with_reducible refine Sl.later ?_ Yf.out (fun b hb=>hb)|with_reducible refine Sl.later ?_ Ll.out (fun b hb=>hb)|with_reducible refine Sl.alloc ?_ _
   ·repeat' first|exact SL.out.mono (fun b hb=>(by first|omega|(simp at hb;omega)))|with_reducible refine Sl.later ?_ Yf.out (fun b hb=>hb)|with_reducible refine Sl.alloc ?_ _
   ·repeat' first|exact fh.out.mono (fun b hb=>(by first|omega|(simp at hb;omega)))|with_reducible refine Sl.alloc ?_ _
   ·first|exact Ab _|omega
   ·first|exact Xm|exact Xm.alloc z3 _
 case rest=>
  obtain⟨gb,nA,V1,aA,az,rfl,qE⟩:=hcut
  have hm0:BV wc bm .u64 (FV A.at_):=HH.out.m.kept qE.kept (by have:=HH.out.m.lt;omega)
  obtain⟨clock,Cd,iz⟩:=hm0.range (P:=Tryz.prog) Kr
  have d3:wc.cell? ⟨g,3,none⟩=some (.map (some bm)):=(qE.kept.cell (p:=⟨g,3,none⟩) (by simp only;omega)).trans c3
  have HC:=Aa qE
  have HR:=Aa iz
  have Tv:=Aa IZ
  clear qE iz IZ hm0 c0 c1 c2 c3
  go_wp2_with fail
  go_loopg [] A.at_.length (fun kk wr=>∃sk,A.at_.length-sk.length≤kk∧Agt w A bm wc.heap.size wr gb nA V1 aA az sk)
  case atStart=>
   have C:=HC.out
   have hk:Af (fun b=>w.heap.size≤b) w (wc.alloc (.mapIter (some bm) clock #[] clock)):=C.kept.alloc C.kept.size _
   exact⟨[],by simp,HR.out,rB,(fun k hk=>absurd hk jp),C.row.alloc _,C.l.alloc _,C.f.alloc _,C.q.alloc _,C.m.alloc _,C.g0,C.m0,hk⟩
  case round=>
   obtain⟨sk,Jj,hL⟩:=hrel
   have yV:sk.length≤A.at_.length:=by
    have h1:=NR sk _ hL.nd hL.sub
    unfold FV at h1
    simpa using h1
   rcases hL.rng.next (P:=Tryz.prog) 0 with⟨N3,Cd⟩|⟨y,hy,Vc,w',Cd,Mj,OF,zQ⟩
   ·have HL:=Aa hL
    have Sd:=Aa N3
    clear hL N3
    go_wp2_with fail
    go_ret
    have L:=HL.out
    refine⟨gb,sk.reverse,rfl,L.kept,⟨V1,aA,az,nA,L.row,L.l,L.f,L.q,L.m,L.g0,L.m0⟩,hO L.nd,fun k=>?_⟩
    rw[qf,jq]
    refine⟨L.sub k,fun hk=>?_⟩
    obtain⟨x,hx,e⟩:=AT.1 hk
    exact e▸Sd.out x hx
   ·obtain⟨k,v⟩:=y
    simp only at Vc Cd Mj zQ
    have hv:=iS Tv.out hy
    subst hv
    have OG:k∈(FV A.at_).map (·.1):=AT.2 ⟨_,hy,rfl⟩
    have yU:(k::sk).length≤A.at_.length:=by
     have h1:=NR (k::sk) _ (BK.2 ⟨Vc,hL.nd⟩) (fun x hx=>(Bt.1 hx).elim (fun e=>e▸OG) (hL.sub x))
     unfold FV at h1
     simpa using h1
    have bX:gb≠wc.heap.size:=hL.rng.ne_row hL.row
    have hbr:nA≠wc.heap.size:=by
     rintro rfl
     obtain⟨es,c,sb,_,_,_,_,_,h6,_⟩:=hL.rng
     obtain⟨es',c',h7,_⟩:=hL.m
     rw[h6]at h7;cases h7
    have hbb:nA≠bm:=by
     have:=HH.out.m.lt
     have:=HC.out.m0
     omega
    have ok':∀{e:TypeId} {size n:Nat} {v:Value} {xs:List Value},Sl (fun b=>w.heap.size≤b) wr e size v n xs→Sl (fun b=>w.heap.size≤b) w' e size v n xs:=fun h=>h.kept OF (fun b hb e=>by
     obtain⟨cs,hrw⟩:=h.row hb
     exact hL.rng.ne_row hrw e)
    have SC:=hL.row.kept OF bX
    have Ic:=hL.m.kept OF hbr
    have d3':=SC.cell 3
    have HL:=Aa hL
    have oW:=Aa Mj
    have HK':=Aa OF
    have yh:=Aa Vc
    have j5:=Aa OG
    have O5:=Aa SC
    have HM':=Aa Ic
    have PT:=Aa (ok' hL.l)
    have Mk:=Aa (ok' hL.f)
    have HL3:=Aa (ok' hL.q)
    clear hL Mj OF Vc OG SC Ic ok' hy
    simp at d3'
    go_wp2_with (at_mapUpdate;go_must (refine Hg Kr IP HM'.out rfl _ _ _ rfl rfl k rfl _ rfl ?_;intro w6 QF Nv;have rI:=Aa QF;have VR:=Aa Nv;clear QF Nv))
    have Vb:FT (FV (sk.reverse.map fun k=>(k,(A.idx k).getD 0))) k=none:=SQ (fun h=>yh.out (jq.1 h))
    have QF:=rI.out
    rw[Ue _ Vb]at QF
    go_roundg (A.at_.length-(sk.length+1))
    case measure=>have:(k::sk).length=sk.length+1:=rfl;omega
    case rel=>
     have Cu:∀x t cs,AM w' x t cs→¬x=nA:=fun x t cs hr e=>HM'.out.ne_row hr e.symm
     have ok6:∀{e:TypeId} {size n:Nat} {v:Value} {xs:List Value},Sl (fun b=>w.heap.size≤b) w' e size v n xs→Sl (fun b=>w.heap.size≤b) w6 e size v n xs:=fun h=>h.kept VR.out (fun b hb e=>by
      obtain⟨cs,hrw⟩:=h.row hb
      exact Cu _ _ _ hrw e)
     refine⟨k::sk,by simp,oW.out.kept_ (VR.out.block _ (fun e=>hbr e.symm)) (VR.out.block _ (fun e=>hbb e.symm)),BK.2 ⟨yh.out,HL.out.nd⟩,fun x hx=>(Bt.1 hx).elim (fun e=>e▸j5.out) (HL.out.sub x),
      O5.out.kept VR.out (Cu _ _ _ O5.out),ok6 PT.out,ok6 Mk.out,ok6 HL3.out,?_,HL.out.g0,HL.out.m0,?_⟩
     ·rw[dD,cz]
      exact QF
     ·exact(HL.out.kept.trans (HK'.out.mono (fun b hb=>by rw[hb];exact HC.out.kept.size))).trans (VR.out.mono (fun b hb=>by rw[hb];exact HL.out.m0))
end
section
variable {S SA:Nat→Prop} {w:World} {gs ga:Nat} {A:Am} {vva:Value} {vars:List Int} {ns:List (List Nat)} {qs:List (List Lo)}
attribute [local go_sem ↓] Go.wp_at_zero Go.wp_at_succ
def Ags (w:World) (vars:List Int) (ns:List (List Nat)) (qs:List (List Lo)) (e:Ending) (w':World):Prop:=
 ∃QI XZ MJ PJ A',e= .returned (.pointer (some ⟨QI,0,none⟩))∧Af (fun b=>w.heap.size≤b) w w'∧tE w.heap.size w' QI XZ MJ PJ A' vars∧CM A' ns qs
theorem TQ (h:∃vl vf vq bm,BL SA w ga A vl vf vq bm) (hs:AM w gs 72 [.pointer (some ⟨ga,0,none⟩),vva]) (hv:Sl S w 3 1 vva vars.length (vars.map L6)) (hA:CM A ns qs) (hvl:vars.length≤1000):
  Calls Tryz.prog 36 #[.pointer (some ⟨gs,0,none⟩)] w (Ags w vars ns qs):=by
 obtain⟨vl,vf,vq,bm,h⟩:=h
 have c0:=hs.cell 0
 have c1:=hs.cell 1
 have r1:=hs.lt
 have G7:=hA.ok
 obtain⟨av,cv,rfl⟩:∃a c,vva= .slice a vars.length c:=hv.shape
 obtain⟨j0,xI,uS,hy1,ma⟩:=Cj NW
 have s2:=hv.src
 have o2:∀u∈vars.map L6,u.oneCell'=true:=by intro u hu;obtain⟨x,_,rfl⟩:=AT.1 hu;rfl
 have b2:=hv.src_lt
 have Ex:∀W,Af (fun b=>w.heap.size≤b) w W→Calls Tryz.prog 58 #[.pointer (some ⟨ga,0,none⟩)] W fun e w'=>
   ∃g' A',e= .returned (.pointer (some ⟨g',0,none⟩))∧Af (fun b=>W.heap.size≤b) W w'∧(∃vl vf vq bm,BL (fun b=>W.heap.size≤b) w' g' A' vl vf vq bm)∧CM A' ns qs:=fun W hk=>by
  have hW:=(h.shrink).kept hk (fun b hb=>by have:=hb.2;omega)
  refine(da hW G7.l2 G7.free2 (by have:=hA.q8;omega) hA.atn).mono ?_
  rintro e w' ⟨g',sk,h1,h2,h3,h4,h5⟩
  exact⟨g',A.reord sk,h1,h2,h3,hA.reord h5 h4⟩
 have HC:=Aa Ex
 have S2:=Aa s2
 have O2:=Aa o2
 have B2:=Aa b2
 have m2:vars.length≤maxLen:=by unfold maxLen;omega
 have n2:vars.length*8≤140737488355328:=by omega
 clear h hs hv hA G7 s2 o2 b2 Ex
 simp at c0 c1
 go_enter Tryz.func36,Tryz.ntmps36
 go_wp2_with fail
 go_region_held3 (fun w'=>w'.cell? ⟨gs,0,none⟩=some (.pointer (some ⟨ga,0,none⟩))∧w'.cell? ⟨gs,1,none⟩=some (.slice av vars.length cv)∧Af (fun b=>w.heap.size≤b) w w')
  ((repeat' apply And.intro)<;>(first
   |assumption
   |exact(Af.cell J6 (by simp only;omega)).trans c0
   |exact(Af.cell J6 (by simp only;omega)).trans c1
   |exact(Af.cell Ik (by simp only;omega)).trans c0
   |exact(Af.cell Ik (by simp only;omega)).trans c1
   |(with_reducible exact(Af.refl _ _).drew)
   |exact J6.alloc z1 _
   |exact Ik.alloc z2 _
   |go_keep
   ))
  (first
   |(refine Ov (w0:=w) (N:=w.heap.size) ?_ (Ab _) S2.out B2.out IN xI uS hy1 ma rfl (by decide) O2.out m2 n2 (by rfl) _ _ (by rfl) (by rfl) (by rfl) ?_;(first|exact(Af.refl _ _).drew|exact J6);intro a2 e2 w2 Cp A4 Ik;have z2:=Ik.size;have SL:=Aa Cp;have Ll:=Aa A4;clear Cp A4)
   |(go_at_call 58;refine(HC.out _ ?_).mono ?_;(first|exact(Af.refl _ _).drew|exact Ik);rintro e w1 ⟨g',A',rfl,Bi,ha1,qy⟩;have J6:Af (fun b=>w.heap.size≤b) w w1:=(by first|exact((Af.refl _ _).drew).trans (Bi.mono (fun b hb=>hb))|exact Ik.trans (Bi.mono (fun b hb=>Ai z2 hb)));have z1:=J6.size;have Lv:=Aa Bi;have xh:=Aa ha1;have HI1:=Aa qy;clear Bi ha1 qy))
 all_goals
  go_wp2
  go_ret
 ·obtain⟨xl,xf,xq,xm,ha⟩:=xh.out
  have K2:=Ll.out
  have k1:=Lv.out.size
  have k2:=K2.size
  refine⟨_,g',.slice a2 vars.length e2,(fun b=>w.heap.size≤b∧b<w1.heap.size),A',rfl,Ik.alloc z2 _,⟨AM.new w2 _ _,(SL.out.mono (fun b hb=>Ai z1 hb)).alloc _,⟨xl,xf,xq,xm,?_⟩,z2,fun b hb=>⟨hb.1,?_⟩,fun hb=>?_,fun b hb hs=>?_⟩,HI1.out⟩
  ·exact((ha.shrink.kept K2 (fun b hb=>by have:=hb.2;omega)).alloc _).mono (fun b hb=>hb)
  ·have:=hb.2;simp;omega
  ·have:=hb.2;omega
  ·have h1:=SL.out.2 b hb
   have h2:=hs.2
   simp only at h1
   omega
end
end Go.Proofs.YtemppijblfflgaaGreatDoor.Ev
namespace Go.Proofs.YtemppijblfflgaaGreatDoor.Ev
def place (l:List Int) (key:Int):Option Nat:=l.findIdx? (fun k=>k==key)
def z (l:List Int):List Lo:=l.map fun k=>⟨k,0⟩
theorem jk (e:LN) (key:Int) (r:GK) (h:exec e.p key (DX e.p (FG e.s key)) ⟨e.s,[]⟩= .ok r):
  e.access key= .ok (Bl e.p.decls (FG e.s key)) r.gone ⟨e.p,r.s,Pm e.n (Bl e.p.decls (FG e.s key)) r.gone.length⟩:=by
 unfold LN.access
 simp only[h]
 rfl
end Go.Proofs.YtemppijblfflgaaGreatDoor.Ev
namespace Go.Proofs.YtemppijblfflgaaGreatDoor.Ev
open Go Go.RowKit
theorem VW.errC {B:Nat} {ea:Nat→Addr} {w:World} (h:VW B ea w) {B':Nat} (hB:B≤B'):Se B' ea w:=
 ⟨h.err 11 (by omega) (by omega),h.err 12 (by omega) (by omega),AD (h.lt 11 (by omega) (by omega)) hB,AD (h.lt 12 (by omega) (by omega)) hB⟩
def dB (S:Nat→Prop) (w:World) (ge:Nat) (r:yo) (p:AF) (e0:LN) (e:Ending) (w':World):Prop:=
 Af (fun b=>b=ge∨w.heap.size≤b) w w'∧match r with
  | .err k=>e= .returned (.tuple #[.bool false,.slice none 0 0,.int .i64 k])∧Hv S w' ge e0
  | .ok hit gone e1=>∃v,e= .returned (.tuple #[.bool hit,v,.int .i64 0])∧Sl (fun b=>w.heap.size≤b) w' 27 1 v gone.length (gone.map UJ)∧
    Hv (fun b=>(S b∨w.heap.size≤b)∧v.ownBlock≠some b) w' ge e1
def Sf (c:jy) (m:Nat):Prop:=0≤c.hits∧c.hits≤m∧0≤c.misses∧c.misses≤m∧0≤c.evicted∧c.evicted≤1750000*(m:Int)
theorem Sf.up {c:jy} {m:Nat} (h:Sf c m) (hit:Bool) {n:Nat} (hn:n≤1750000):Sf (Pm c hit n) (m+1):=by
 obtain⟨a,b,c',d,f,g⟩:=h
 unfold Sf Pm
 cases hit<;>simp<;>omega
theorem Wy {p:AF} (hp:EO p) {key k:Int} {s:St} {r:GK} (h:exec p key (DX p k) ⟨s,[]⟩= .ok r):r.gone.length≤1750000:=by
 have h1:=Fd (DX p k) _ _ h
 have h2:(DX p k).most≤1750000:=by
  unfold DX
  cases hr:AE p.rules k with
  |none=>exact Bn _
  |some b=>exact Wb hp hr
 simp at h1
 omega
section
variable {B:Nat} {ea:Nat→Addr} {S:Nat→Prop} {w:World} {ge:Nat} {e:LN}
theorem XG {gg gs ga gp bm bc loops QI XZ:Nat} {vd vva MJ vou:Value} {SA PJ:Nat→Prop} {A A':Am} {ns Pc:List (List Nat)} {w2 w':World} {e1:LN} {l:List Int}
  (h:xi S w ge e gg gs ga gp bm bc loops vd vva SA A ns) (hk:Af (fun b=>w.heap.size≤b) w w2) (CP:tE w.heap.size w2 QI XZ MJ PJ A' e1.s.vars) (hA:CM A' Pc e1.s.q) (hS:Hc e.p e1.s)
  (hv:Sl (fun b=>w.heap.size≤b) w2 27 1 vou l.length (l.map UJ)) (SU:∀b,vou.ownBlock=some b→¬PJ b∧b≠QI∧MJ.ownBlock≠some b) (hp:e1.p=e.p)
  (qu:∀(j:Nat) x,Oo e1.s j x→(Au e.p.decls (j:Int)).kind≠2) (BY:Af (fun b=>b=ge) w2 w')
  (BQ:AM w' ge 76 [.pointer (some ⟨gg,0,none⟩),.pointer (some ⟨QI,0,none⟩),.int .i64 e1.n.hits,.int .i64 e1.n.misses,.int .i64 e1.n.evicted]):
  Af (fun b=>b=ge∨w.heap.size≤b) w w'∧Sl (fun b=>w.heap.size≤b) w' 27 1 vou l.length (l.map UJ)∧Hv (fun b=>(S b∨w.heap.size≤b)∧vou.ownBlock≠some b) w' ge e1:=by
 have Xn:=h.row.lt
 have hou:∀b,vou.ownBlock=some b→w.heap.size≤b:=fun b hb=>hv.2 b hb
 have Ij:AM w2 ge 76 _:=h.row.kept hk (by omega)
 have hP:=(h.prog.mono (S':=fun b=>(S b∧¬SA b)∧b<w.heap.size) (fun b hb hs=>⟨hs,hb⟩)).kept hk (fun b hb _=>by have:=hb.2;omega)
 have Am1:¬(S ge∧False):=fun h=>h.2
 obtain⟨vl,vf,vq,nA,ha⟩:=CP.ar
 have n1:∀{t:TypeId} {size n:Nat} {v:Value} {xs:List Value} {N:Nat→Prop},Sl N w2 t size v n xs→t≠76→Sl N w' t size v n xs:=fun hs ht=>hs.kept BY (fun b hb e=>hs.ne_row Ij ht (e▸hb))
 refine⟨(hk.mono (fun b hb=>.inr hb)).trans (BY.mono (fun b hb=>.inl hb)),n1 hv (by decide),gg,QI,XZ,gp,bm,bc,loops,vd,MJ,PJ,A',Pc,BQ,?_,CP.srow.kept BY (CP.srow.ne_ Ij (by decide)),?_,⟨vl,vf,vq,nA,ha.kept BY (fun b hb e=>by have:=(CP.sa b hb).1;omega)⟩,hA,by rw[hp];exact hS,by rw[hp];exact h.pw,by rw[hp];exact qu,fun b hb=>?_,⟨⟨.inl h.se.1,fun hb=>by have:=hou _ hb;omega⟩,fun hb=>by have:=(CP.sa _ hb).1;omega⟩,⟨⟨.inr CP.gs0,fun hb=>(SU _ hb).2.1 rfl⟩,CP.ss⟩⟩
 ·rw[hp]
  have qJ:Jg (fun b=>(S b∧¬SA b)∧b<w.heap.size) w' gg e.p gp bm bc loops vd:=by
   have Vf:∀{t:TypeId} {cs:List Value} {b:Nat},AM w2 b t cs→t≠76→¬b=ge:=fun hr ht e=>hr.ne_ Ij ht e
   obtain⟨M,m1,m2⟩:=hP.code.map
   obtain⟨Mr,r1,r2,r3⟩:=hP.rules
   refine⟨⟨hP.code.row.kept BY (Vf hP.code.row (by decide)),⟨M,m1.kept BY (fun e=>m1.ne_row Ij e),fun k=>?_⟩,hP.code.lo,hP.code.sg,hP.code.sm⟩,hP.pol.kept BY (Vf hP.pol (by decide)),n1 hP.decls (by decide),hP.rules.kept (BY.block bm (fun e=>r1.ne_row Ij e)) (fun k cs hN hr=>BY.block k (Vf hr (by decide))),hP.sp,hP.sb⟩
   have:=m2 k
   cases IJ:AE e.p.rules k with
   |none=>rw[IJ]at this;exact this
   |some b=>
    rw[IJ]at this
    obtain⟨v,a,b',c,d1,d2,d3⟩:=this
    exact⟨v,a,b',c,d1,n1 d2 (by decide),d3⟩
  exact qJ.mono (fun b _ hb=>⟨⟨.inl hb.1.1,fun ho=>by have:=hou _ ho;have:=hb.2;omega⟩,fun hs=>by have:=(CP.sa b hs).1;have:=hb.2;omega⟩)
 ·exact⟨(n1 CP.vars (by decide)).1,fun b hb=>⟨⟨.inr (CP.vars.2 b hb),fun ho=>(SU b ho).2.2 hb⟩,CP.s4 b hb⟩⟩
 ·exact⟨.inr (CP.sa b hb).1,fun ho=>(SU b ho).1 hb⟩
end
end Go.Proofs.YtemppijblfflgaaGreatDoor.Ev
