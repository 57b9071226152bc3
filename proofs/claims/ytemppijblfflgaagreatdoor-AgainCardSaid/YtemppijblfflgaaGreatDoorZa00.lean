/- Short names for theorems of the library's. Conditions: none. -/
import Derived.WalkKit
import Derived.Deep.Draws
import Derived.Lib.Hide
import Derived.MapKept
import Derived.StillTailTactics
import Derived.Test.YtemppijblfflgaaGreatDoorProg
import Derived.Deep.QuietTactic
import Derived.BigQuiet
import Derived.RegionTactic
import Derived.Deep.DeepCutAuto
import Derived.Maps.OwnSet
import Derived.Maps.RangeWalk
import Derived.Maps.AppendAt
import Derived.Deep.DeepMust
import Derived.Laws.MakeOwn
import Derived.Deep.AppendLies
import Derived.Deep.RegionHeld3
import Derived.Deep.RegionLaw
import Derived.WalkLawsBesides
import Derived.Test.YtemppijblfflgaaGreatDoorZaSh
import Derived.Deep.LoopGhost
import Derived.Deep.CutBlock
import Derived.Lib.SmallJoins
import Derived.Lib.SliceRun
import Derived.Laws.Concat
import Derived.Lib.LaidTab
import Derived.Outline
import Derived.Shelf.Strings.Builder1
import Derived.StillTail
import Derived.Deep.RegionWith
import Derived.ScopeJumps
import Derived.WalkMore
import Derived.RegionDies
import Derived.Recover
import Derived.Defers
import Derived.Laws.Pointers
import Derived.Maps.RangeRun
import Derived.Laws.AppendOwnNone
import Derived.Laws.IdiomStrings
import Derived.IntWalk
import Derived.Deep.DrawnRows
import Derived.BigRegion
import Derived.LaidEql
import Derived.Stop.Asserts
import Derived.RowKitTokens
import Derived.LoopN
import Derived.Stop.LaidErr
import Derived.LaidHandle
import Derived.LaidLaws
import Derived.Test.YtemppijblfflgaaGreatDoorRows
import Derived.Test.YtemppijblfflgaaGreatDoorCards
import Derived.Test.YtemppijblfflgaaGreatDoorTie
import Derived.ProofKit
import Derived.OpenShut
import Derived.Carry
import Derived.Deep.DeepHandedRow
import Derived.Deep.DeepWitnessRowRef
import Derived.Lib.LaidIn
import Derived.Deep.Slices
import Derived.SizedLaws
import Derived.SliceStrings
import Derived.SevenTiedAt
set_option linter.all false
namespace Go.Proofs.YtemppijblfflgaaGreatDoor.Ev
open Go Go.RowKit Go.ChangeShapes Go.WideShapes Go.ChangeAt Go.ChangeMaps
def Aa := @Go.Lib.hid
def Ab := @Nat.le_refl
def Ac := @List.length_cons
def Ad := @if_neg
def Ag := @ByteArray.size_append
def Ah := @List.getElem?_eq_getElem
def Ai := @Nat.le_trans
def Aj := @List.length_nil
def Ak := @if_pos
def Al := @List.append_assoc
def An := @Bool.false_eq_true
def Ao := @List.length_append
def Ap := @List.getElem?_eq_some_iff
def Av := @Go.bodyPost_ret
def Aw := @List.take_succ_cons
def Ax := @List.drop_succ_cons
def Az := @List.getElem?_map
def AD := @Nat.lt_of_lt_of_le
def AK := @List.drop_zero
def AL := @congrArg
def AO := @List.take_zero
def AT := @List.mem_map
def A0 := @if_true
def A1 := @if_false
def A3 := @Int.toNat_natCast
def A7 := @List.mem_of_getElem?
def A8 := @List.cons_append
def Be := @Go.run_callFunc_extern
def Bg := @Bool.false_ne_true
def Bj := @Option.map_eq_some_iff
def Bk := @List.append_nil
def Bm := @List.getElem?_cons_zero
def Bn := @Nat.zero_le
def Bp := @List.getElem?_set
def Bq := @List.getElem?_eq_none
def Bt := @List.mem_cons
def Bv := @beq_eq_false_iff_ne
def BK := @List.nodup_cons
def BP := @Nat.lt_or_ge
def BU := @List.length_set
def B5 := @List.nodup_append
def B7 := @List.getElem?_append_left
def Ce := @Array.getElem?_eq_none
def Cf := @Go.wpStill_nil
def Cj := @Go.info_parts
def Ck := @List.getElem?_append_right
def Cl := @Go.results_none
def Cn := @List.contains_iff_mem
def Co := @List.getElem?_replicate
def Cq := @List.map_cons
def Cz := @Go.World.ownsRow_nil
def CC := @UInt8.le_iff_toNat_le
def CH := @List.nil_append
def CI := @List.mem_append
def CJ := @List.map_append
def CL := @Go.World.block_lt_of_cell?
def CS := @List.mem_append_left
def CY := @Go.Proofs.Tryz.results128
def CZ := @Option.map_some
def C1 := @Go.World.heap_drewN
def C2 := @Nat.le_add_right
def C3 := @Bool.and_eq_true
def C8 := @List.eq_nil_or_concat
def C9 := @List.concat_eq_append
def Dc := @decide_eq_true_eq
def Dd := @Go.bodyPost_end
def De := @Option.some.injEq
def Dj := @Nat.add_sub_cancel_left
def Ds := @Option.some.inj
def DE := @List.find?_cons_of_neg
def DK := @List.map_congr_left
def DV := @Go.Proofs.Tryz.results139
def DW := @List.mem_filter
def D3 := @List.mem_singleton
def D8 := @Go.Proofs.Tryz.underlying3
def Ea := @Nat.lt_succ_self
def Eb := @List.getElem?_cons_succ
def Ei := @Go.Proofs.Tryz.ntmps139
def Ej := @Go.Proofs.Tryz.ntmps128
def Ek := @List.find?_append
def Ep := @Go.Calls.quiet_of_same
def Es := @Nat.le_succ
def EP := @Nat.add_sub_cancel
def EQ := @Int.cast_ofNat_Int
def EV := @Go.Proofs.Tryz.func139
def EW := @Go.Proofs.Tryz.func128
def E0 := @Nat.succ_pos
def E3 := @Nat.add_assoc
def E7 := @Go.World.cell?_alloc_lt
def E8 := @List.getElem?_set_ne
def E9 := @Go.IntWalk.i64_in
def Fe := @Go.Proofs.Tryz.underlying88
def Fg := @List.ext_getElem?
def FA := @Nat.zero_add
def FC := @Nat.add_comm
def FR := @Go.RowKit.Below.heap_alloc
def FU := @Go.RowKit.Below.heap_setCell
def F0 := @List.length_replicate
def Gt := @List.drop_eq_getElem_cons
def Gz := @Int.natCast_add
def GA := @of_decide_eq_true
def GC := @Go.Proofs.Tryz.underlying80
def GD := @Go.Proofs.Tryz.ntmps60
def GO := @Nat.not_lt
def Ho := @Go.heap_drew
def Hs := @Option.getD_some
def Id := @Go.wpQuiet_nil
def Ie := @Go.Proofs.Tryz.func60
def Il := @Go.Proofs.Tryz.ntmps59
def Im := @Option.map_eq_none_iff
def In := @List.find?_eq_none
def IA := @decide_eq_false
def II := @Go.Proofs.Tryz.ntmps131
def IK := @List.mem_append_right
def IN := @Go.Proofs.Tryz.underlying70
def IP := @Go.Proofs.Tryz.underlying27
def Jh := @Go.run_underlying
def Jk := @Go.Proofs.Tryz.func59
def Jm := @Nat.mul_one
def Jn := @List.getElem?_of_mem
def JB := @Go.Proofs.Tryz.underlying9
def JC := @Go.Proofs.Tryz.ntmps97
def JD := @Go.Proofs.Tryz.func131
def JE := @Go.Sem.run_bind
def JF := @List.length_take
def JO := @List.mem_or_eq_of_mem_set
def JP := @List.getLastD_eq_getLast?
def J7 := @List.length_map
def J8 := @List.find?_cons
def J9 := @List.cons.injEq
def Ka := @Bool.eq_iff_iff
def Kq := @Go.Proofs.Tryz.underlying315
def Kr := @Go.Proofs.Tryz.underlying134
def Ky := @Go.World.frozen?_alloc_old
def Kz := @Go.Proofs.Tryz.func97
def KB := @Nat.add_mul
def KC := @List.length_eq_zero_iff
def Li := @List.findIdx?_eq_some_iff_getElem
def Lx := @Go.Proofs.Tryz.underlying22
def Ly := @Go.Result.andThen_ok
def Lz := @List.getElem?_set_self
def LA := @List.flatMap_cons
def LB := @List.find?_cons_of_pos
def Me := @Array.toList_eraseIdxIfInBounds
def Mf := @Go.run_typeAssert_lacksB
def MD := @List.getElem_mem
def MN := @Go.rounds_succ
def Nt := @Go.World.var?_cell
def Om := @List.map_set
def OK := @Go.wp_loop_rounds
def ON := @of_decide_eq_false
def OR := @Go.heap_alloc_new
def OT := @decide_eq_true
def OY := @beq_iff_eq
def O4 := @List.findIdx?_cons
def PM := @List.mem_of_find?_eq_some
def PO := @List.findIdx?_eq_none_iff
def PV := @Bool.eq_false_iff
def Re := @Go.Proofs.Tryz.ntmps127
def Rf := @List.mem_of_mem_eraseIdx
def RN := @decide_eq_false_iff_not
def RX := @Go.World.size_alloc
def RY := @Go.Proofs.Tryz.strconv_Itoa_small
def R7 := @Option.bind_some
def Sa := @List.take_length
def Sb := @List.append_cancel_left
def Sc := @Go.Lib.cell_of_heap
def Sg := @Bool.not_eq_true
def SO := @Go.step_scope
def S6 := @Go.Proofs.Tryz.func127
def S7 := @Go.Proofs.Tryz.func108
def Ta := @Nat.add_zero
def Te := @Bool.or_true
def Tf := @Go.RowKit.Below.refl
def Tp := @Go.Proofs.Tryz.results169
def Tq := @Go.Proofs.Tryz.results156
def Tr := @Go.Proofs.Tryz.results142
def Tu := @List.foldl_cons
def Tw := @Bool.or_eq_true
def U1 := @List.set_append_right
def U2 := @List.mem_iff_getElem?
def U7 := @Bool.and_eq_false_iff
def VL := @Go.Proofs.Tryz.results26
def VM := @Go.Proofs.Tryz.results20
def VO := @Nat.mul_le_mul_right
def VP := @List.mem_cons_of_mem
def VQ := @List.drop_take
def VX := @Bool.or_eq_false_iff
def XI := @List.toList_toArray
def XJ := @List.flatMap_append
def XR := @Array.toList_modify
def X5 := @Go.Proofs.Tryz.ntmps169
def X6 := @Go.Proofs.Tryz.ntmps161
def X7 := @Go.Proofs.Tryz.ntmps146
def X8 := @Go.Proofs.Tryz.ntmps145
def X9 := @Go.Proofs.Tryz.ntmps140
def Ya := @Go.Proofs.Tryz.ntmps132
def Yc := @Prod.mk.injEq
def Yh := @Go.wp_at_zero
def Yi := @Go.wp_at_succ
def Z4 := @Go.World.size_setCell
def Z5 := @Go.Proofs.Tryz.underlying199
def Z6 := @Go.Proofs.Tryz.underlying116
def Z8 := @Option.isSome_none
def Z9 := @Nat.lt_of_le_of_lt
def ab := @List.set_cons_zero
def ac := @List.mem_cons_self
def ae := @List.map_replicate
def ai := @List.getElem?_drop
def db := @Go.Proofs.Tryz.underlying92
def dc := @Go.Proofs.Tryz.underlying87
def dd := @Go.Proofs.Tryz.ntmps89
def de := @Go.Proofs.Tryz.ntmps83
def dh := @Go.Proofs.Tryz.ntmps74
def di := @Go.Proofs.Tryz.ntmps62
def dj := @Go.Proofs.Tryz.ntmps20
def dm := @Go.Proofs.Tryz.func207
def dq := @Go.Proofs.Tryz.func169
def dr := @Go.Proofs.Tryz.func161
def dt := @Go.Proofs.Tryz.func146
def du := @Go.Proofs.Tryz.func145
def dv := @Go.Proofs.Tryz.func140
def dx := @Go.Proofs.Tryz.func132
def dC := @List.take_succ_eq_append_getElem
def dD := @List.reverse_cons
def dE := @List.map_nil
def dF := @List.map_map
def dP := @Bool.true_or
def fx := @Array.getElem?_setIfInBounds_ne
def ja := @beq_self_eq_true
def jp := @List.not_mem_nil
def jq := @List.mem_reverse
def jr := @List.length_drop
def jD := @Go.RowKit.run_makeMap
def jQ := @Go.Proofs.Tryz.func89
def jR := @Go.Proofs.Tryz.func83
def jS := @Go.Proofs.Tryz.func74
def jT := @Go.Proofs.Tryz.func62
def jU := @Go.Proofs.Tryz.func20
def jV := @Go.Proofs.Tryz.func11
def jY := @Nat.mul_add
def jZ := @List.eq_nil_of_length_eq_zero
def nL := @UInt8.toNat_inj
def nM := @Go.Proofs.Tryz.results154
def nU := @Go.Oper.upon_value
def nY := @Nat.not_lt_zero
def nZ := @List.find?_some
def oE := @Array.getElem?_setIfInBounds
def pz := @Go.run_make
def rB := @List.nodup_nil
def rC := @List.foldl_nil
def rD := @List.dropWhile_cons_of_neg
def rG := @Int.tmod_eq_emod_of_nonneg
def rW := @Go.Calls.quiet_of
end Go.Proofs.YtemppijblfflgaaGreatDoor.Ev
