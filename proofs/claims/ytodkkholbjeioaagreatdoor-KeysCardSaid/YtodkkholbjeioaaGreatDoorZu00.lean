/- Short names for theorems of the library's. Conditions: none. -/
import Derived.WalkKit
import Derived.Deep.Draws
import Derived.Lib.Hide
import Derived.MapKept
import Derived.StillTailTactics
import Derived.Test.YtodkkholbjeioaaGreatDoorProg
import Derived.Deep.QuietTactic
import Derived.BigQuiet
import Derived.RegionTactic
import Derived.Deep.DeepCutAuto
import Derived.Maps.OwnSet
import Derived.Maps.RangeWalk
import Derived.Maps.AppendAt
import Derived.Deep.DeepMust
import Derived.Laws.MakeOwn
import Derived.Deep.AppendLies
import Derived.Deep.RegionHeld3
import Derived.Deep.RegionLaw
import Derived.WalkLawsBesides
import Derived.Outline
import Derived.StillTail
import Derived.Deep.RegionWith
import Derived.ScopeJumps
import Derived.WalkMore
import Derived.Test.YtodkkholbjeioaaGreatDoorZuSh
import Derived.Deep.LoopGhost
import Derived.Deep.CutBlock
import Derived.Lib.SmallJoins
import Derived.Lib.SliceRun
import Derived.RegionDies
import Derived.Recover
import Derived.Defers
import Derived.Laws.Pointers
import Derived.Maps.RangeRun
import Derived.LaidEql
import Derived.Stop.Asserts
import Derived.RowKitTokens
import Derived.LoopN
import Derived.Laws.AppendOwnNone
import Derived.Deep.DrawnRows
import Derived.IntWalk
import Derived.BigRegion
import Derived.Laws.Concat
import Derived.Lib.LaidTab
import Derived.Shelf.Strings.Builder1
import Derived.Laws.IdiomStrings
import Derived.Stop.LaidErr
import Derived.LaidHandle
import Derived.LaidLaws
import Derived.Test.YtodkkholbjeioaaGreatDoorRows
import Derived.Test.YtodkkholbjeioaaGreatDoorCards
import Derived.Test.YtodkkholbjeioaaGreatDoorTie
import Derived.ProofKit
import Derived.OpenShut
import Derived.Carry
import Derived.Deep.DeepHandedRow
import Derived.Deep.DeepWitnessRowRef
import Derived.Lib.LaidIn
import Derived.Deep.Slices
import Derived.SizedLaws
import Derived.SliceStrings
import Derived.SevenTiedAt
set_option linter.all false
namespace Go.Proofs.YtodkkholbjeioaaGreatDoor.Ev
open Go Go.RowKit Go.ChangeShapes Go.WideShapes Go.ChangeAt Go.ChangeMaps
def Aa := @Go.Lib.hid
def Ab := @Nat.le_refl
def Ad := @Nat.le_trans
def Ae := @List.getElem?_eq_getElem
def Af := @List.length_cons
def Ag := @ByteArray.size_append
def Ai := @if_neg
def Aj := @List.getElem?_eq_some_iff
def Ak := @List.length_nil
def Al := @if_pos
def An := @Nat.lt_of_lt_of_le
def Ao := @List.length_append
def Ap := @Bool.false_eq_true
def As := @Int.toNat_natCast
def At := @List.getElem?_map
def Au := @List.take_succ_cons
def Av := @List.drop_succ_cons
def Aw := @List.mem_of_getElem?
def AA := @List.mem_cons
def AB := @Go.bodyPost_ret
def AE := @List.mem_map
def AH := @congrArg
def AI := @List.take_zero
def AJ := @List.getElem?_cons_zero
def AK := @List.drop_zero
def AL := @List.append_assoc
def AM := @Nat.zero_le
def AO := @List.append_nil
def AU := @Option.map_eq_some_iff
def AX := @List.getElem?_append_left
def A0 := @Bool.false_ne_true
def A7 := @if_true
def A8 := @if_false
def A9 := @List.length_set
def Bb := @Go.run_callFunc_extern
def Be := @Nat.lt_or_ge
def Bg := @Go.info_parts
def Bk := @List.getElem?_set
def Bl := @List.getElem?_eq_none
def Bq := @Option.some.inj
def By := @List.getElem?_replicate
def Bz := @List.cons_append
def BC := @List.nodup_cons
def BG := @List.getElem?_append_right
def BJ := @beq_eq_false_iff_ne
def BM := @List.getElem?_cons_succ
def BS := @List.map_cons
def BT := @Go.wpStill_nil
def BU := @List.getElem?_set_ne
def B7 := @Nat.add_sub_cancel_left
def B9 := @decide_eq_false
def Ca := @Option.map_some
def Cb := @List.map_append
def Cc := @Nat.le_succ
def Ci := @Nat.succ_pos
def Cj := @Array.getElem?_eq_none
def Cm := @of_decide_eq_true
def Cn := @Go.World.ownsRow_nil
def Co := @Option.some.injEq
def Cp := @List.nodup_append
def Cu := @Go.results_none
def CD := @List.mem_append
def CF := @List.mem_append_left
def CG := @List.getElem?_set_self
def CL := @Nat.not_lt
def CM := @Nat.add_sub_cancel
def CO := @List.length_replicate
def CP := @List.contains_iff_mem
def CT := @List.nil_append
def CU := @Go.World.block_lt_of_cell?
def CV := @Go.IntWalk.i64_in
def C8 := @Go.heap_drew
def Da := @Go.World.heap_drewN
def Db := @Go.Proofs.Tryz.underlying3
def Dc := @Nat.le_add_right
def Dj := @List.eq_nil_or_concat
def Dk := @List.concat_eq_append
def Dl := @Go.bodyPost_end
def DK := @Nat.zero_add
def DO := @List.drop_eq_getElem_cons
def DS := @List.map_congr_left
def DZ := @UInt8.le_iff_toNat_le
def D0 := @decide_eq_true
def D5 := @List.mem_filter
def Ec := @List.mem_singleton
def Ef := @Nat.lt_succ_self
def Eg := @List.getElem_mem
def Eh := @Bool.and_eq_true
def Ey := @decide_eq_true_eq
def Ez := @Go.Proofs.Tryz.underlying51
def EA := @List.find?_cons_of_neg
def EF := @Go.Calls.quiet_of_same
def EJ := @List.mem_or_eq_of_mem_set
def EV := @Go.Proofs.Tryz.underlying104
def EW := @Int.cast_ofNat_Int
def E5 := @Nat.add_assoc
def E8 := @Go.World.cell?_alloc_lt
def Fg := @Go.Proofs.Tryz.underlying46
def Fi := @List.flatMap_cons
def Fj := @List.ext_getElem?
def Fs := @Go.Proofs.Tryz.results122
def Ft := @List.length_map
def FH := @Nat.add_comm
def FU := @Go.RowKit.Below.heap_alloc
def FY := @Int.tmod_eq_emod_of_nonneg
def F0 := @Go.Claim7.holds_tied_plain_at
def F8 := @Go.RowKit.Below.heap_setCell
def GF := @Go.Proofs.Tryz.results134
def GG := @Int.natCast_add
def GH := @Bool.eq_iff_iff
def GK := @Go.Proofs.Tryz.underlying96
def GL := @Go.Proofs.Tryz.ntmps67
def GM := @Go.Proofs.Tryz.ntmps64
def GO := @Go.Sem.run_bind
def GP := @Go.Result.andThen_ok
def GQ := @Nat.mul_one
def GR := @Nat.add_mul
def GS := @List.mem_cons_of_mem
def G2 := @Go.Proofs.Tryz.ntmps134
def Ig := @Go.World.size_alloc
def Ih := @Option.getD_some
def Ii := @Go.OpenSpec.preRow_of_cond
def Ij := @Go.OpenClaim.pre_eq_preRow
def Ik := @Go.OpenClaim.holds_of_cond
def It := @Go.wpQuiet_nil
def Iv := @Go.Proofs.Tryz.func67
def Iw := @Go.Proofs.Tryz.func64
def Iy := @List.eq_nil_of_length_eq_zero
def IA := @Go.returnsInHanded_of_row
def IE := @Go.Proofs.Tryz.underlying122
def IF := @Go.Proofs.Tryz.ntmps63
def IG := @Go.Proofs.Tryz.func134
def II := @Option.map_eq_none_iff
def IJ := @Nat.not_le
def IK := @List.map_map
def IL := @List.find?_eq_none
def IM := @Go.DataW.weights_mem_each
def IZ := @List.cons.injEq
def Je := @Go.Proofs.Tryz.ntmps122
def Jf := @Prod.mk.injEq
def Jh := @List.mem_iff_getElem?
def Ji := @List.mem_append_right
def Jj := @Array.mem_of_getElem?
def Jl := @Go.Proofs.Tryz.underlying25
def Jm := @List.find?_append
def JT := @Go.run_underlying
def JY := @Go.Proofs.Tryz.func63
def J0 := @List.getElem?_of_mem
def J2 := @true_or
def J4 := @or_true
def Kd := @Go.Proofs.Tryz.underlying9
def Ke := @Go.Proofs.Tryz.ntmps92
def Kf := @Go.Proofs.Tryz.ntmps61
def Kh := @Go.Proofs.Tryz.func122
def Kj := @Ne.symm
def Kk := @List.take_length
def Kq := @List.getLastD_eq_getLast?
def KI := @List.flatMap_append
def KU := @Go.Proofs.Tryz.ntmps109
def La := @List.find?_cons
def Lw := @Go.Proofs.Tryz.underlying304
def Lx := @Go.Proofs.Tryz.underlying159
def Ly := @List.mem_cons_self
def Lz := @List.getElem?_drop
def LA := @Go.RowKit.Below.refl
def LM := @Go.World.frozen?_alloc_old
def LN := @Go.Proofs.Tryz.func92
def LO := @Go.Proofs.Tryz.func61
def LP := @List.length_eq_zero_iff
def Mh := @List.findIdx?_eq_some_iff_getElem
def Mm := @Go.witness_row_atRef
def Mn := @Go.laidMetH_of_parts
def Mw := @Go.Proofs.Tryz.func109
def Mx := @Nat.add_zero
def My := @List.find?_cons_of_pos
def Mz := @List.drop_eq_nil_of_le
def Nd := @Array.toList_eraseIdxIfInBounds
def Nf := @Go.run_typeAssert_lacksB
def Nk := @List.set_append_right
def ND := @Go.Proofs.Tryz.underlying4
def NE := @List.all_eq_true
def NT := @Go.rounds_succ
def OG := @Go.World.var?_cell
def PD := @Nat.sub_self
def PE := @List.map_set
def PF := @List.map_nil
def P1 := @Go.wp_loop_rounds
def P3 := @of_decide_eq_false
def P7 := @Go.heap_alloc_new
def Qb := @beq_iff_eq
def Qe := @List.set_cons_zero
def Qf := @List.map_replicate
def Qg := @List.findIdx?_cons
def Rg := @List.findIdx?_eq_none_iff
def Rj := @Go.ChangeMaps.shut_string
def Rk := @Go.ChangeMaps.open_string
def Rr := @Go.Proofs.Tryz.underlying22
def Rt := @Bool.eq_false_iff
def SY := @Go.Proofs.Tryz.ntmps121
def S4 := @List.mem_of_mem_eraseIdx
def S6 := @Go.LaidIn.of_run
def Ta := @Go.wp_at_zero
def Tb := @Go.wp_at_succ
def TJ := @Go.Proofs.Tryz.strconv_Itoa_small
def TK := @Option.bind_some
def TM := @List.map_toArray
def TN := @List.length_drop
def TO := @List.append_cancel_left
def TP := @Go.Lib.cell_of_heap
def TR := @Go.WideShapes.add_plain
def TV := @Bool.not_eq_true
def Us := @Go.step_scope
def UD := @Go.Proofs.Tryz.ntmps10
def UE := @Go.Proofs.Tryz.func121
def UF := @Go.Proofs.Tryz.func104
def UG := @Go.Sem.run_pure
def UI := @List.drop_of_length_le
def UN := @Bool.or_true
def UU := @Go.Proofs.Tryz.results159
def UV := @Go.Proofs.Tryz.results148
def UW := @Go.Proofs.Tryz.results137
def UZ := @Nat.not_lt_zero
def U0 := @List.foldl_cons
def U1 := @Int.emod_nonneg
def WX := @Go.ChangeShapes.trodAll_one
def WZ := @Go.run_make
def Xz := @Go.Proofs.Tryz.results29
def XA := @Go.Proofs.Tryz.results18
def XB := @Go.Proofs.Tryz.func10
def XC := @Nat.mul_le_mul_right
def XD := @List.replicate_succ'
def XE := @List.nodup_nil
def XF := @List.drop_take
def ZC := @List.toList_toArray
def ZD := @List.getElem?_range
def ZJ := @Array.toList_modify
def ZS := @Go.Proofs.Tryz.ntmps159
def ZT := @Go.Proofs.Tryz.ntmps142
def ZU := @Go.Proofs.Tryz.ntmps135
def ZV := @Go.Proofs.Tryz.ntmps128
def ZW := @Go.Proofs.Tryz.ntmps126
def ZX := @Go.Proofs.Tryz.ntmps125
def ZZ := @List.cons.inj
def dv := @Go.World.size_setCell
def dy := @Go.Proofs.Tryz.underlying140
def dz := @Go.Proofs.Tryz.underlying133
def dA := @Go.Proofs.Tryz.underlying103
def dC := @Option.isSome_none
def dD := @Nat.lt_of_le_of_lt
def gU := @Go.Proofs.Tryz.underlying73
def gV := @Go.Proofs.Tryz.ntmps93
def gW := @Go.Proofs.Tryz.ntmps86
def gX := @Go.Proofs.Tryz.ntmps73
def gY := @Go.Proofs.Tryz.ntmps68
def gZ := @Go.Proofs.Tryz.ntmps66
def hH := @Go.Proofs.Tryz.ntmps18
def hI := @Go.Proofs.Tryz.ntmps11
def hQ := @Go.Proofs.Tryz.func192
def hU := @Go.Proofs.Tryz.func159
def hY := @Go.Proofs.Tryz.func142
def hZ := @Go.Proofs.Tryz.func135
def ic := @Go.Proofs.Tryz.func128
def ie := @Go.Proofs.Tryz.func126
def ig := @Go.Proofs.Tryz.func125
def iq := @List.take_succ_eq_append_getElem
def ir := @List.take_add_one
def it := @List.reverse_cons
def iJ := @Bool.true_or
def jB := @List.eraseIdx_eq_take_drop_succ
def jI := @Array.getElem?_setIfInBounds_ne
def mM := @beq_self_eq_true
def nc := @List.not_mem_nil
def nh := @List.mem_reverse
def ni := @List.mem_flatMap
def nj := @List.mem_eraseIdx_iff_getElem?
def nk := @List.length_take
def nu := @List.drop_length
def nF := @Go.RowKit.run_makeMap
def nU := @Go.Proofs.Tryz.func93
def nV := @Go.Proofs.Tryz.func86
def nX := @Go.Proofs.Tryz.func73
def nY := @Go.Proofs.Tryz.func68
def nZ := @Go.Proofs.Tryz.func66
def oc := @Go.Proofs.Tryz.func18
def od := @Go.Proofs.Tryz.func11
def og := @Nat.mul_add
def sA := @UInt8.toNat_inj
def sB := @Go.Proofs.Tryz.results146
def sM := @Go.Oper.upon_value
def tG := @Bool.or_eq_true
def tI := @Array.getElem?_setIfInBounds
def xd := @Go.bounds_i64
def xw := @Go.Proofs.Tryz.func7
def xx := @Go.Proofs.Tryz.func6
def xy := @Go.Proofs.Tryz.func5
def xz := @Go.Proofs.Tryz.func4
def xA := @Go.Proofs.Tryz.func3
def xF := @List.mem_range
def xG := @List.foldl_nil
def xY := @Go.DataW.trod_int
def xZ := @Go.Calls.quiet_of
def zF := @List.mem_of_find?_eq_some
theorem zp2 {A B:Prop} (a:A) (b:B):A∧B:=⟨a,b⟩
theorem zq2 {A B:Prop} (a:A) (b:B):RowKit.Hid A∧RowKit.Hid B:=⟨a,b⟩
theorem zp3 {A B C:Prop} (a:A) (b:B) (c:C):A∧B∧C:=⟨a,b,c⟩
theorem zq3 {A B C:Prop} (a:A) (b:B) (c:C):RowKit.Hid A∧RowKit.Hid B∧RowKit.Hid C:=⟨a,b,c⟩
theorem zp4 {A B C D:Prop} (a:A) (b:B) (c:C) (d:D):A∧B∧C∧D:=⟨a,b,c,d⟩
theorem zq4 {A B C D:Prop} (a:A) (b:B) (c:C) (d:D):RowKit.Hid A∧RowKit.Hid B∧RowKit.Hid C∧RowKit.Hid D:=⟨a,b,c,d⟩
theorem zp5 {A B C D E:Prop} (a:A) (b:B) (c:C) (d:D) (e:E):A∧B∧C∧D∧E:=⟨a,b,c,d,e⟩
theorem zq5 {A B C D E:Prop} (a:A) (b:B) (c:C) (d:D) (e:E):RowKit.Hid A∧RowKit.Hid B∧RowKit.Hid C∧RowKit.Hid D∧RowKit.Hid E:=⟨a,b,c,d,e⟩
theorem zp6 {A B C D E F:Prop} (a:A) (b:B) (c:C) (d:D) (e:E) (f:F):A∧B∧C∧D∧E∧F:=⟨a,b,c,d,e,f⟩
theorem zq6 {A B C D E F:Prop} (a:A) (b:B) (c:C) (d:D) (e:E) (f:F):RowKit.Hid A∧RowKit.Hid B∧RowKit.Hid C∧RowKit.Hid D∧RowKit.Hid E∧RowKit.Hid F:=⟨a,b,c,d,e,f⟩
theorem zp7 {A B C D E F G:Prop} (a:A) (b:B) (c:C) (d:D) (e:E) (f:F) (g:G):A∧B∧C∧D∧E∧F∧G:=⟨a,b,c,d,e,f,g⟩
theorem zq7 {A B C D E F G:Prop} (a:A) (b:B) (c:C) (d:D) (e:E) (f:F) (g:G):RowKit.Hid A∧RowKit.Hid B∧RowKit.Hid C∧RowKit.Hid D∧RowKit.Hid E∧RowKit.Hid F∧RowKit.Hid G:=⟨a,b,c,d,e,f,g⟩
theorem zp8 {A B C D E F G H:Prop} (a:A) (b:B) (c:C) (d:D) (e:E) (f:F) (g:G) (h:H):A∧B∧C∧D∧E∧F∧G∧H:=⟨a,b,c,d,e,f,g,h⟩
theorem zq8 {A B C D E F G H:Prop} (a:A) (b:B) (c:C) (d:D) (e:E) (f:F) (g:G) (h:H):RowKit.Hid A∧RowKit.Hid B∧RowKit.Hid C∧RowKit.Hid D∧RowKit.Hid E∧RowKit.Hid F∧RowKit.Hid G∧RowKit.Hid H:=⟨a,b,c,d,e,f,g,h⟩
end Go.Proofs.YtodkkholbjeioaaGreatDoor.Ev
