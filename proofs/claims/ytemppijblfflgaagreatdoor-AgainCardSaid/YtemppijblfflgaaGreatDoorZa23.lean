/- Parts of a proof that a law's walk returns true. Conditions: none. -/
import Derived.Test.YtemppijblfflgaaGreatDoorZa00
import Derived.Test.YtemppijblfflgaaGreatDoorZa05
set_option linter.all false
set_option maxRecDepth 100000
set_option maxHeartbeats 8000000
namespace Go.Proofs.YtemppijblfflgaaGreatDoor.Ev
open Go Go.RowKit Go.Extern.Stop Go.Stop Go.Extern
theorem Qq (v:Value) (w:World):(Extern.ReflectliteType.typeOf #[.iface 315 v]).run Tryz.prog w= .ok (.iface 241 (.agg #[.pointer (some ⟨21,315,none⟩)])) w:=by kernel_rfl
theorem Kd (w:World):((Extern.ReflectliteType.method fun t=>do Extern.Rtype.noPackHeld "Comparable" t;Functor.map (fun a=>Value.bool a.comparable) (typeInfo t)) #[.agg #[.pointer (some ⟨21,315,none⟩)]]).run Tryz.prog w= .ok (.bool true) w:=by kernel_rfl
theorem Gf (v:Value) (w:World):(Go.method 446 241 v "Comparable").run Tryz.prog w= .ok (207,v) w:=by kernel_rfl
theorem Xc:(Tryz.prog.info? 315).map (·.comparable)=some true:=by kernel_rfl
theorem Xa:(Tryz.prog.info? 317).map (·.size)=some 1:=by kernel_rfl
theorem lw (v:Value) (xT:TypeId) (w:World):(Instr.typeAssert (.iface 315 v) xT 266 true).run Tryz.prog w= .ok (.tuple #[.nilIface,.bool false]) w:=Mf Tryz.underlying266 (by kernel_rfl) (by kernel_rfl) v xT w
theorem Rx (v:Value) (xT:TypeId) (w:World):(Instr.typeAssert (.iface 315 v) xT 248 true).run Tryz.prog w= .ok (.tuple #[.nilIface,.bool false]) w:=Mf Tryz.underlying248 (by kernel_rfl) (by kernel_rfl) v xT w
theorem Pt (v:Value) (xT:TypeId) (w:World):(Instr.typeAssert (.iface 315 v) xT 250 true).run Tryz.prog w= .ok (.tuple #[.nilIface,.bool false]) w:=Mf Tryz.underlying250 (by kernel_rfl) (by kernel_rfl) v xT w
theorem lv (v:Value) (xT:TypeId) (w:World):(Instr.typeAssert (.iface 106 v) xT 266 true).run Tryz.prog w= .ok (.tuple #[.nilIface,.bool false]) w:=Mf Tryz.underlying266 (by kernel_rfl) (by kernel_rfl) v xT w
theorem PB (v:Value) (xT:TypeId) (w:World):(Instr.typeAssert (.iface 106 v) xT 248 true).run Tryz.prog w= .ok (.tuple #[.iface 106 v,.bool true]) w:=run_typeAssert_hasB Tryz.underlying248 (by kernel_rfl) v xT w
theorem TD (gf:Nat) (a b:Value) (w:World) (h:AM w gf 110 [a,b]):Calls Tryz.prog 200 #[.pointer (some ⟨gf,0,none⟩)] w fun e w'=>e= .returned a∧w'=w:=by
 have c0:=h.cell 0
 simp at c0
 clear h
 go_enter Tryz.func200,Tryz.ntmps200
 go_wp2
 go_ret
 exact⟨rfl,rfl⟩
theorem qb (a:Addr) (w:World):
  Calls Tryz.prog 62 #[.iface 315 (.pointer (some a)),.iface 315 (.pointer (some a))] w fun e w'=>e= .returned (.bool true)∧w'=w:=by
 obtain⟨i,hi,b7⟩:=Bj.1 Xc
 obtain⟨j,hj,vP⟩:=Bj.1 Xa
 have tT:=Qq
 have cT:=Kd
 have mR:=Gf
 have heq:=run_eql_iface_ptr_same (P:=Tryz.prog) w a GC Kq hi b7 hj
 have h8:=@Be Tryz.prog 108 _ Extern.ReflectliteType.typeOf S7 (by kernel_rfl) (by kernel_rfl) (by kernel_rfl) (by kernel_rfl)
 have h32:=@Be Tryz.prog 207 _ (Extern.ReflectliteType.method fun t=>do Extern.Rtype.noPackHeld "Comparable" t;pure (.bool (←typeInfo t).comparable)) dm (by kernel_rfl) (by kernel_rfl) (by kernel_rfl) (by kernel_rfl)
 go_enter jT,di
 go_wp2
 refine OK 1 ?_
 rw[MN]
 go_wp2
 go_ret
 exact⟨rfl,rfl⟩
theorem MR (v:Value) (w:World):(Go.method 446 106 v "Unwrap").run Tryz.prog w= .ok (200,v) w:=by kernel_rfl
theorem lV (a b:Addr) (ca cb:Array Value) (ta tb:TypeId) (w:World) (Cu:a≠b) (ha:w.heap[a.block]?=some (.cells ca ta (0,0))) (hb:w.heap[b.block]?=some (.cells cb tb (0,0))):
  Calls Tryz.prog 62 #[.iface 315 (.pointer (some a)),.iface 315 (.pointer (some b))] w fun e w'=>e= .returned (.bool false)∧w'=w:=by
 obtain⟨i,hi,b7⟩:=Bj.1 Xc
 obtain⟨j,hj,vP⟩:=Bj.1 Xa
 have tT:=Qq
 have cT:=Kd
 have mR:=Gf
 have nE:=lw
 have uE:=Rx
 have vE:=Pt
 have nW:=lv
 have uW:=PB
 have mU:=MR
 have heq:=run_eql_iface_ptr_other (P:=Tryz.prog) w GC Kq hi b7 hj (by rw[vP];decide) Cu ha hb
 have h8:=@Be Tryz.prog 108 _ Extern.ReflectliteType.typeOf S7 (by kernel_rfl) (by kernel_rfl) (by kernel_rfl) (by kernel_rfl)
 have h32:=@Be Tryz.prog 207 _ (Extern.ReflectliteType.method fun t=>do Extern.Rtype.noPackHeld "Comparable" t;pure (.bool (←typeInfo t).comparable)) dm (by kernel_rfl) (by kernel_rfl) (by kernel_rfl) (by kernel_rfl)
 go_enter jT,di
 go_wp2
 refine OK 1 ?_
 rw[MN]
 go_wp2
 go_ret
 exact⟨rfl,rfl⟩
theorem Vs (gf:Nat) (x:Value) (b:Addr) (w:World) (h:AM w gf 110 [.iface 315 (.pointer (some b)),x]):
  Calls Tryz.prog 62 #[.iface 106 (.pointer (some ⟨gf,0,none⟩)),.iface 315 (.pointer (some b))] w fun e w'=>e= .returned (.bool true)∧w'=w:=by
 obtain⟨i,hi,b7⟩:=Bj.1 Xc
 obtain⟨j,hj,vP⟩:=Bj.1 Xa
 have tT:=Qq
 have cT:=Kd
 have mR:=Gf
 have nE:=lw
 have uE:=Rx
 have vE:=Pt
 have nW:=lv
 have uW:=PB
 have mU:=MR
 have heq:=run_eql_iface_ptr_same (P:=Tryz.prog) w b GC Kq hi b7 hj
 have vk:=run_eql_iface_types (P:=Tryz.prog) 106 315 (.pointer (some ⟨gf,0,none⟩)) (.pointer (some b)) GC (by decide) w
 have h8:=@Be Tryz.prog 108 _ Extern.ReflectliteType.typeOf S7 (by kernel_rfl) (by kernel_rfl) (by kernel_rfl) (by kernel_rfl)
 have h32:=@Be Tryz.prog 207 _ (Extern.ReflectliteType.method fun t=>do Extern.Rtype.noPackHeld "Comparable" t;pure (.bool (←typeInfo t).comparable)) dm (by kernel_rfl) (by kernel_rfl) (by kernel_rfl) (by kernel_rfl)
 have HR:=Aa h
 clear h
 go_enter jT,di
 go_wp2
 refine OK 2 ?_
 rw[MN]
 go_wp2_with (go_at_call 200;refine(TD gf _ x w HR.out).mono ?_;rintro e w' ⟨rfl,rfl⟩)
 rw[MN]
 go_wp2
 go_ret
 exact⟨rfl,rfl⟩
theorem Um (gf:Nat) (x:Value) (a b:Addr) (ca cb:Array Value) (ta tb:TypeId) (w:World) (h:AM w gf 110 [.iface 315 (.pointer (some a)),x]) (Cu:a≠b) (ha:w.heap[a.block]?=some (.cells ca ta (0,0))) (hb:w.heap[b.block]?=some (.cells cb tb (0,0))):
  Calls Tryz.prog 62 #[.iface 106 (.pointer (some ⟨gf,0,none⟩)),.iface 315 (.pointer (some b))] w fun e w'=>e= .returned (.bool false)∧w'=w:=by
 obtain⟨i,hi,b7⟩:=Bj.1 Xc
 obtain⟨j,hj,vP⟩:=Bj.1 Xa
 have tT:=Qq
 have cT:=Kd
 have mR:=Gf
 have nE:=lw
 have uE:=Rx
 have vE:=Pt
 have nW:=lv
 have uW:=PB
 have mU:=MR
 have heq:=run_eql_iface_ptr_other (P:=Tryz.prog) w GC Kq hi b7 hj (by rw[vP];decide) Cu ha hb
 have vk:=run_eql_iface_types (P:=Tryz.prog) 106 315 (.pointer (some ⟨gf,0,none⟩)) (.pointer (some b)) GC (by decide) w
 have h8:=@Be Tryz.prog 108 _ Extern.ReflectliteType.typeOf S7 (by kernel_rfl) (by kernel_rfl) (by kernel_rfl) (by kernel_rfl)
 have h32:=@Be Tryz.prog 207 _ (Extern.ReflectliteType.method fun t=>do Extern.Rtype.noPackHeld "Comparable" t;pure (.bool (←typeInfo t).comparable)) dm (by kernel_rfl) (by kernel_rfl) (by kernel_rfl) (by kernel_rfl)
 have HR:=Aa h
 clear h
 go_enter jT,di
 go_wp2
 refine OK 2 ?_
 rw[MN]
 go_wp2_with (go_at_call 200;refine(TD gf _ x w HR.out).mono ?_;rintro e w' ⟨rfl,rfl⟩)
 rw[MN]
 go_wp2
 go_ret
 exact⟨rfl,rfl⟩
end Go.Proofs.YtemppijblfflgaaGreatDoor.Ev
