/- Short names for theorems of the library's. Conditions: none. -/
import Derived.WalkKit
import Derived.Deep.Draws
import Derived.Lib.Hide
import Derived.MapKept
import Derived.StillTailTactics
import Derived.Test.YtepoejiigmhlbaaGreatDoorProg
import Derived.Deep.QuietTactic
import Derived.BigQuiet
import Derived.RegionTactic
import Derived.Deep.DeepCutAuto
import Derived.Maps.OwnSet
import Derived.Maps.RangeWalk
import Derived.Maps.AppendAt
import Derived.Deep.DeepMust
import Derived.Laws.MakeOwn
import Derived.Deep.AppendLies
import Derived.Deep.RegionHeld3
import Derived.Deep.RegionLaw
import Derived.WalkLawsBesides
import Derived.Outline
import Derived.StillTail
import Derived.Deep.RegionWith
import Derived.ScopeJumps
import Derived.WalkMore
import Derived.Test.YtepoejiigmhlbaaGreatDoorZaSh
import Derived.Deep.LoopGhost
import Derived.Deep.CutBlock
import Derived.Lib.SmallJoins
import Derived.Lib.SliceRun
import Derived.RegionDies
import Derived.Recover
import Derived.Defers
import Derived.Laws.Pointers
import Derived.Maps.RangeRun
import Derived.LaidEql
import Derived.Stop.Asserts
import Derived.RowKitTokens
import Derived.LoopN
import Derived.Laws.AppendOwnNone
import Derived.Deep.DrawnRows
import Derived.IntWalk
import Derived.BigRegion
import Derived.Laws.Concat
import Derived.Lib.LaidTab
import Derived.Shelf.Strings.Builder1
import Derived.Laws.IdiomStrings
import Derived.Stop.LaidErr
import Derived.LaidHandle
import Derived.LaidLaws
import Derived.Test.YtepoejiigmhlbaaGreatDoorRows
import Derived.Test.YtepoejiigmhlbaaGreatDoorCards
import Derived.Test.YtepoejiigmhlbaaGreatDoorTie
import Derived.ProofKit
import Derived.OpenShut
import Derived.Carry
import Derived.Deep.DeepHandedRow
import Derived.Deep.DeepWitnessRowRef
import Derived.Lib.LaidIn
import Derived.Deep.Slices
import Derived.SizedLaws
import Derived.SliceStrings
import Derived.SevenTiedAt
set_option linter.all false
namespace Go.Proofs.YtepoejiigmhlbaaGreatDoor.Ev
open Go Go.RowKit Go.ChangeShapes Go.WideShapes Go.ChangeAt Go.ChangeMaps
def Aa := @Go.Lib.hid
def Ab := @Nat.le_refl
def Ad := @Nat.le_trans
def Ae := @List.getElem?_eq_getElem
def Af := @List.length_cons
def Ag := @ByteArray.size_append
def Ai := @if_neg
def Aj := @List.getElem?_eq_some_iff
def Ak := @List.length_nil
def Al := @if_pos
def An := @Nat.lt_of_lt_of_le
def Ao := @List.length_append
def Ap := @Bool.false_eq_true
def As := @Int.toNat_natCast
def At := @List.getElem?_map
def Au := @List.take_succ_cons
def Av := @List.drop_succ_cons
def Aw := @List.mem_of_getElem?
def AA := @Go.bodyPost_ret
def AD := @List.mem_map
def AG := @congrArg
def AH := @List.take_zero
def AI := @List.getElem?_cons_zero
def AJ := @List.drop_zero
def AK := @List.append_assoc
def AM := @List.append_nil
def AQ := @Nat.zero_le
def AV := @List.getElem?_append_left
def AY := @Bool.false_ne_true
def A3 := @List.mem_cons
def A6 := @if_true
def A7 := @Option.map_eq_some_iff
def A8 := @if_false
def A9 := @List.length_set
def Bb := @Go.run_callFunc_extern
def Be := @Nat.lt_or_ge
def Bg := @Go.info_parts
def Bk := @List.getElem?_set
def Bl := @List.getElem?_eq_none
def Bx := @List.cons_append
def By := @List.nodup_cons
def BE := @List.getElem?_append_right
def BH := @beq_eq_false_iff_ne
def BK := @List.getElem?_replicate
def BL := @List.getElem?_cons_succ
def BR := @List.map_cons
def BS := @Go.wpStill_nil
def BT := @List.getElem?_set_ne
def B6 := @Nat.add_sub_cancel_left
def B8 := @Option.map_some
def B9 := @List.map_append
def Ca := @Nat.le_succ
def Cg := @Nat.succ_pos
def Ch := @Array.getElem?_eq_none
def Ck := @decide_eq_false
def Cl := @Go.World.ownsRow_nil
def Cm := @Option.some.injEq
def Cn := @Option.some.inj
def Co := @List.nodup_append
def Ct := @Go.results_none
def CC := @List.mem_append
def CE := @List.mem_append_left
def CF := @List.getElem?_set_self
def CJ := @Nat.not_lt
def CL := @Nat.add_sub_cancel
def CN := @List.length_replicate
def CO := @List.contains_iff_mem
def CS := @List.nil_append
def CT := @Go.World.block_lt_of_cell?
def CU := @Go.IntWalk.i64_in
def C6 := @Go.heap_drew
def C8 := @Go.World.heap_drewN
def C9 := @Go.Proofs.Tryz.underlying3
def Da := @Nat.le_add_right
def Dh := @List.eq_nil_or_concat
def Di := @List.concat_eq_append
def Dj := @Go.bodyPost_end
def DH := @Nat.zero_add
def DK := @List.drop_eq_getElem_cons
def DP := @List.map_congr_left
def DW := @UInt8.le_iff_toNat_le
def DX := @decide_eq_true
def D1 := @List.mem_filter
def D8 := @List.mem_singleton
def Ec := @Nat.lt_succ_self
def Ed := @List.getElem_mem
def Ee := @Bool.and_eq_true
def Eu := @decide_eq_true_eq
def Ew := @Go.Proofs.Tryz.underlying22
def Ex := @List.find?_cons_of_neg
def EB := @Go.Calls.quiet_of_same
def EG := @List.mem_or_eq_of_mem_set
def EQ := @Int.cast_ofNat_Int
def EU := @Nat.add_assoc
def EW := @Go.World.cell?_alloc_lt
def E9 := @of_decide_eq_true
def Fa := @Go.Proofs.Tryz.underlying69
def Fb := @Go.Proofs.Tryz.underlying61
def Fd := @List.flatMap_cons
def Fe := @List.ext_getElem?
def Fm := @Go.Proofs.Tryz.results157
def Fo := @List.length_map
def FA := @Nat.add_comm
def FF := @Go.Proofs.Tryz.ntmps122
def FT := @Go.RowKit.Below.heap_alloc
def FX := @Int.tmod_eq_emod_of_nonneg
def FY := @Go.RowKit.Below.heap_setCell
def GD := @Go.Proofs.Tryz.results109
def GE := @Int.natCast_add
def GF := @Bool.eq_iff_iff
def GH := @Go.Proofs.Tryz.underlying51
def GJ := @Go.Proofs.Tryz.ntmps54
def GK := @Go.Proofs.Tryz.func122
def GL := @Go.Sem.run_bind
def GM := @Go.Result.andThen_ok
def GO := @Nat.mul_one
def GP := @Nat.add_mul
def GQ := @List.mem_cons_of_mem
def GX := @Go.Proofs.Tryz.ntmps109
def Ib := @Go.World.size_alloc
def Ic := @Option.getD_some
def Ik := @Go.wpQuiet_nil
def Im := @Go.Proofs.Tryz.func54
def In := @List.eq_nil_of_length_eq_zero
def Is := @Go.Proofs.Tryz.underlying236
def It := @Go.Proofs.Tryz.ntmps53
def Iu := @Go.Proofs.Tryz.func109
def Iw := @Option.map_eq_none_iff
def Iy := @Nat.not_le
def Iz := @List.map_map
def IA := @List.find?_eq_none
def IN := @List.cons.injEq
def I5 := @Go.Proofs.Tryz.ntmps157
def I6 := @Go.Proofs.Tryz.ntmps121
def I8 := @List.mem_iff_getElem?
def I9 := @List.mem_append_right
def Jb := @Go.Proofs.Tryz.underlying32
def Jc := @List.find?_append
def JJ := @Go.run_underlying
def JO := @Go.Proofs.Tryz.func53
def JQ := @List.getElem?_of_mem
def J1 := @Go.Proofs.Tryz.underlying9
def J2 := @Go.Proofs.Tryz.ntmps84
def J3 := @Go.Proofs.Tryz.func157
def J4 := @Go.Proofs.Tryz.func121
def J6 := @Ne.symm
def J7 := @List.take_length
def Ke := @List.getLastD_eq_getLast?
def Kr := @List.flatMap_append
def KE := @Go.Proofs.Tryz.ntmps145
def KM := @List.find?_cons
def Lk := @Go.Proofs.Tryz.underlying307
def Ll := @Go.Proofs.Tryz.underlying134
def Lm := @List.mem_cons_self
def Ln := @List.getElem?_drop
def Lo := @Go.RowKit.Below.refl
def LA := @Go.World.frozen?_alloc_old
def LB := @Go.Proofs.Tryz.func84
def LC := @List.length_eq_zero_iff
def L4 := @List.findIdx?_eq_some_iff_getElem
def Mh := @Go.Proofs.Tryz.func145
def Mi := @Nat.add_zero
def Mj := @List.find?_cons_of_pos
def Mk := @List.drop_eq_nil_of_le
def MV := @Array.toList_eraseIdxIfInBounds
def MW := @Go.run_typeAssert_lacksB
def M4 := @List.set_append_right
def Nz := @Go.rounds_succ
def Oj := @Go.World.var?_cell
def Pe := @Nat.sub_self
def Pf := @List.map_set
def Pg := @List.map_nil
def PA := @Go.wp_loop_rounds
def PC := @of_decide_eq_false
def PH := @Go.heap_alloc_new
def PL := @beq_iff_eq
def PP := @List.set_cons_zero
def PQ := @List.map_replicate
def PR := @List.findIdx?_cons
def QE := @List.findIdx?_eq_none_iff
def QN := @Go.Proofs.Tryz.underlying44
def QP := @Bool.eq_false_iff
def Sv := @Prod.mk.injEq
def Sx := @List.mem_of_mem_eraseIdx
def SC := @Go.wp_at_zero
def SD := @Go.wp_at_succ
def Ti := @Go.Proofs.Tryz.strconv_Itoa_small
def Tk := @Option.bind_some
def Tl := @List.map_toArray
def Tm := @List.length_drop
def Tn := @List.append_cancel_left
def To := @Go.Lib.cell_of_heap
def Tq := @Go.WideShapes.add_plain
def Ts := @Bool.not_eq_true
def T0 := @Go.step_scope
def Uc := @Go.Proofs.Tryz.ntmps81
def Ud := @Go.Proofs.Tryz.ntmps29
def Ue := @Go.Sem.run_pure
def Ug := @List.drop_of_length_le
def Ul := @Bool.or_true
def Ut := @Go.Proofs.Tryz.results169
def Uu := @Go.Proofs.Tryz.results166
def Uv := @Go.Proofs.Tryz.results151
def Uy := @Nat.not_lt_zero
def Uz := @List.foldl_cons
def UA := @Int.emod_nonneg
def Wr := @Go.run_make
def WZ := @Go.Proofs.Tryz.results12
def W3 := @Go.Proofs.Tryz.func81
def W5 := @Go.Proofs.Tryz.func77
def W6 := @Go.Proofs.Tryz.func29
def W8 := @Nat.mul_le_mul_right
def W9 := @List.replicate_succ'
def Xa := @List.nodup_nil
def Xb := @List.drop_take
def Zc := @List.toList_toArray
def Zd := @List.getElem?_range
def Zj := @Array.toList_modify
def Zr := @Go.Proofs.Tryz.results7
def Zs := @Go.Proofs.Tryz.ntmps159
def Zt := @Go.Proofs.Tryz.ntmps158
def Zu := @Go.Proofs.Tryz.ntmps151
def Zv := @Go.Proofs.Tryz.ntmps141
def Zw := @Go.Proofs.Tryz.ntmps137
def Zx := @Go.Proofs.Tryz.ntmps132
def Zy := @Go.Proofs.Tryz.ntmps114
def Zz := @Go.Proofs.Tryz.ntmps110
def ZB := @List.cons.inj
def cN := @Go.World.size_setCell
def cO := @Go.Proofs.Tryz.underlying250
def cP := @Go.Proofs.Tryz.underlying137
def cR := @Option.isSome_none
def cS := @Nat.lt_of_le_of_lt
def gy := @Go.Proofs.Tryz.underlying74
def gz := @Go.Proofs.Tryz.underlying60
def gA := @Go.Proofs.Tryz.ntmps55
def gB := @Go.Proofs.Tryz.ntmps45
def gC := @Go.Proofs.Tryz.ntmps37
def gD := @Go.Proofs.Tryz.ntmps30
def gE := @Go.Proofs.Tryz.ntmps12
def gF := @Go.Proofs.Tryz.func195
def gG := @Go.Proofs.Tryz.func159
def gH := @Go.Proofs.Tryz.func158
def gI := @Go.Proofs.Tryz.func151
def gJ := @Go.Proofs.Tryz.func141
def gK := @Go.Proofs.Tryz.func137
def gL := @Go.Proofs.Tryz.func132
def gM := @Go.Proofs.Tryz.func114
def gN := @Go.Proofs.Tryz.func110
def gU := @List.take_succ_eq_append_getElem
def gV := @List.take_add_one
def gW := @List.reverse_cons
def ij := @Bool.true_or
def jg := @List.eraseIdx_eq_take_drop_succ
def jn := @Array.getElem?_setIfInBounds_ne
def mc := @beq_self_eq_true
def mw := @List.not_mem_nil
def my := @List.mem_reverse
def mz := @List.mem_flatMap
def mB := @List.mem_eraseIdx_iff_getElem?
def mC := @List.length_take
def mD := @List.drop_length
def mO := @Go.RowKit.run_makeMap
def nh := @Go.Proofs.Tryz.func55
def ni := @Go.Proofs.Tryz.func45
def nj := @Go.Proofs.Tryz.func37
def nk := @Go.Proofs.Tryz.func30
def nu := @Go.Proofs.Tryz.func12
def ny := @Nat.mul_add
def rB := @UInt8.toNat_inj
def rD := @Go.Proofs.Tryz.results126
def rP := @Go.Oper.upon_value
def sN := @Bool.or_eq_true
def sP := @Array.getElem?_setIfInBounds
def sU := @true_or
def sV := @or_true
def wB := @Go.bounds_i64
def wM := @Go.Proofs.Tryz.func5
def wN := @Go.Proofs.Tryz.func4
def wR := @List.mem_range
def wS := @List.foldl_nil
def xr := @Go.DataW.trod_int
def xt := @Go.Claim7.holds_tied_plain_at
def xu := @Go.Calls.quiet_of
def yY := @List.mem_of_find?_eq_some
theorem zp2 {A B:Prop} (a:A) (b:B):A∧B:=⟨a,b⟩
theorem zq2 {A B:Prop} (a:A) (b:B):RowKit.Hid A∧RowKit.Hid B:=⟨a,b⟩
theorem zp3 {A B C:Prop} (a:A) (b:B) (c:C):A∧B∧C:=⟨a,b,c⟩
theorem zq3 {A B C:Prop} (a:A) (b:B) (c:C):RowKit.Hid A∧RowKit.Hid B∧RowKit.Hid C:=⟨a,b,c⟩
theorem zp4 {A B C D:Prop} (a:A) (b:B) (c:C) (d:D):A∧B∧C∧D:=⟨a,b,c,d⟩
theorem zq4 {A B C D:Prop} (a:A) (b:B) (c:C) (d:D):RowKit.Hid A∧RowKit.Hid B∧RowKit.Hid C∧RowKit.Hid D:=⟨a,b,c,d⟩
theorem zp5 {A B C D E:Prop} (a:A) (b:B) (c:C) (d:D) (e:E):A∧B∧C∧D∧E:=⟨a,b,c,d,e⟩
theorem zq5 {A B C D E:Prop} (a:A) (b:B) (c:C) (d:D) (e:E):RowKit.Hid A∧RowKit.Hid B∧RowKit.Hid C∧RowKit.Hid D∧RowKit.Hid E:=⟨a,b,c,d,e⟩
theorem zp6 {A B C D E F:Prop} (a:A) (b:B) (c:C) (d:D) (e:E) (f:F):A∧B∧C∧D∧E∧F:=⟨a,b,c,d,e,f⟩
theorem zq6 {A B C D E F:Prop} (a:A) (b:B) (c:C) (d:D) (e:E) (f:F):RowKit.Hid A∧RowKit.Hid B∧RowKit.Hid C∧RowKit.Hid D∧RowKit.Hid E∧RowKit.Hid F:=⟨a,b,c,d,e,f⟩
theorem zp7 {A B C D E F G:Prop} (a:A) (b:B) (c:C) (d:D) (e:E) (f:F) (g:G):A∧B∧C∧D∧E∧F∧G:=⟨a,b,c,d,e,f,g⟩
theorem zq7 {A B C D E F G:Prop} (a:A) (b:B) (c:C) (d:D) (e:E) (f:F) (g:G):RowKit.Hid A∧RowKit.Hid B∧RowKit.Hid C∧RowKit.Hid D∧RowKit.Hid E∧RowKit.Hid F∧RowKit.Hid G:=⟨a,b,c,d,e,f,g⟩
theorem zp8 {A B C D E F G H:Prop} (a:A) (b:B) (c:C) (d:D) (e:E) (f:F) (g:G) (h:H):A∧B∧C∧D∧E∧F∧G∧H:=⟨a,b,c,d,e,f,g,h⟩
theorem zq8 {A B C D E F G H:Prop} (a:A) (b:B) (c:C) (d:D) (e:E) (f:F) (g:G) (h:H):RowKit.Hid A∧RowKit.Hid B∧RowKit.Hid C∧RowKit.Hid D∧RowKit.Hid E∧RowKit.Hid F∧RowKit.Hid G∧RowKit.Hid H:=⟨a,b,c,d,e,f,g,h⟩
end Go.Proofs.YtepoejiigmhlbaaGreatDoor.Ev
