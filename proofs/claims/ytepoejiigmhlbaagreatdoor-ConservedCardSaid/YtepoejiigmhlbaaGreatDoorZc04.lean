/- Lemmas for a law's walk. Conditions: none. -/
import Derived.Deep.RegionWith
import Derived.Deep.RegionHeld3
import Derived.ScopeJumps
import Derived.WalkMore
import Derived.Test.YtepoejiigmhlbaaGreatDoorZc02
import Derived.Test.YtepoejiigmhlbaaGreatDoorZc03
set_option linter.all false
namespace Go.Proofs.YtepoejiigmhlbaaGreatDoor.Ev
open Go Go.RowKit
section
variable {B:Nat} {ea:Nat→Addr} {w:World} {x:RV} {SA:Nat→Prop} {p:Policy} {key:Int} {A:Arena} {v:VS}
def putOp (tl:Bool):Int:=if tl then 1 else 0
set_option maxRecDepth 100000 in
set_option maxHeartbeats 8000000 in
theorem do_put (h:RunR B w x SA p key A v) (he:ErrC B ea w) (hp:p.decls.length≤8) (hg:v.r.gone.length<goneMax) {t:Int} (tl:Bool) (ht:Ix p.decls.length t) (htk:(declAt p.decls t).kind≠2) (hm:MoveOk p A key):
  Calls Tryz.prog 54 #[.pointer (some ⟨x.gr,0,none⟩),.agg #[.int .u8 (putOp tl),.int .i64 t,.int .i64 0]] w (OutDo B ea w x p key v (aprim p key (.put t tl) ⟨A,v.r.s.vars,v.r.gone⟩)):=by
 have hso:putOp tl=0∧tl=false∨putOp tl=1∧tl=true:=by cases tl;exact .inl ⟨rfl,rfl⟩;exact .inr ⟨rfl,rfl⟩
 generalize putOp tl=so at*
 have hres:aprim p key (.put t tl) ⟨A,v.r.s.vars,v.r.gone⟩=if afull p.decls (A.out key) t then .error eFull
  else .ok ⟨(A.out key).in_ key (A.outFreq key) t.toNat tl,v.r.s.vars,if resident p.decls (A.where_ key)&&!resident p.decls t then v.r.gone++[key]else v.r.gone⟩:=rfl
 rw[hres]
 clear hres
 have ha:=h.grown ((Kept.refl _ w).alloc (Nat.le_refl _) (.cells #[.int .u8 so,.int .i64 t,.int .i64 0] 131)) h.base
 have he1:=he.kept ((Kept.refl (fun b=>B≤b) w).alloc h.base (.cells #[.int .u8 so,.int .i64 t,.int .i64 0] 131)) (fun b hb=>hb)
 obtain⟨vlw,vfw,vqw,bmw,harw⟩:=ha.ar
 have hw:=where_any harw hm.ok key
 have hwas:=resident_any ha hp hm.wh
 obtain⟨vl,vf,vq,bm,har⟩:=ha.arena
 have ho:=out_any har (RunR.up _ SA) hm.ok (by have:=hm.q8;omega) key hm.un
 have c1:=h.row.cell 1
 have c2:=h.row.cell 2
 have s0:=h.srow.cell 0
 have r1:=h.row.lt
 have r2:=h.srow.lt
 have q1:¬x.gr=w.heap.size:=by omega
 have q2:¬x.gs=w.heap.size:=by omega
 have hR:Row (w.alloc (.cells #[.int .u8 so,.int .i64 t,.int .i64 0] 131)) w.heap.size 131 [.int .u8 so,.int .i64 t,.int .i64 0]:=Row.new w _ _
 have hRS:¬(SA w.heap.size∨(w.alloc (.cells #[.int .u8 so,.int .i64 t,.int .i64 0] 131)).heap.size≤w.heap.size):=by
  rintro(h0|h0)
  ·have:=(h.sa _ h0).2;omega
  ·simp at h0;omega
 obtain⟨i0,hi0,hz0,hz1,hz2⟩:=info_parts infoU64_
 have q4:v.r.gone.length+1≤maxLen:=by unfold goneMax at hg;unfold maxLen;omega
 have q5:(v.r.gone.length+1)*8≤140737488355328:=by unfold goneMax at hg;omega
 have htn:((t.toNat:Nat):Int)=t:=by have:=ht.1;omega
 have HA:=Lib.hid ha
 have HE:=Lib.hid he1
 have HW:=Lib.hid hw
 have HWAS:=Lib.hid hwas
 have HO:=Lib.hid ho
 have HB:=Lib.hid h.base
 have HM:=Lib.hid hm
 have HR:=Lib.hid hR
 have HRS:=Lib.hid hRS
 have HT:=Lib.hid ht
 have HTK:=Lib.hid htk
 have HTN:=Lib.hid htn
 clear h he he1 ha har harw hw hwas ho hm hR hRS ht htk hg htn
 simp at c1 c2 s0
 have hstep:∀(w1:World) vl' vf' vq',Kept (fun b=>SA b∨(w.alloc (.cells #[.int .u8 so,.int .i64 t,.int .i64 0] 131)).heap.size≤b) (w.alloc (.cells #[.int .u8 so,.int .i64 t,.int .i64 0] 131)) w1→
   ARep (fun b=>SA b∨(w.alloc (.cells #[.int .u8 so,.int .i64 t,.int .i64 0] 131)).heap.size≤b) w1 x.ga (A.out key) vl' vf' vq' bm→
   ∃SA1,RunR B w1 x SA1 p key (A.out key) v∧Row w1 w.heap.size 131 [.int .u8 so,.int .i64 t,.int .i64 0]∧Kept (fun b=>B≤b) w w1∧ErrC B ea w1∧¬SA1 w.heap.size:=by
  intro w1 vl' vf' vq' hk har'
  exact⟨_,HA.out.setArena hk ⟨vl',vf',vq',bm,har'⟩,HR.out.kept hk HRS.out,((Kept.refl (fun b=>B≤b) w).alloc HB.out _).trans (HA.out.keptB hk),HE.out.kept (HA.out.keptB hk) (fun b hb=>hb),fun h=>HRS.out h.1⟩
 have HS:=Lib.hid hstep
 clear hstep
 have hw0:∃was,resident p.decls (A.where_ key)=was:=⟨_,rfl⟩
 obtain⟨was,hwas⟩:=hw0
 have hwas2:=HWAS.out
 rw[hwas]at hwas2 ⊢
 have HWAS2:=Lib.hid hwas2
 clear HWAS hwas hwas2
 cases hfl:afull p.decls (A.out key) t with
 |true=>
  have HFL:=Lib.hid hfl
  clear hfl
  rcases hso with⟨rfl,_⟩|⟨rfl,_⟩
  all_goals
   go_enter Tryz.func54,Tryz.ntmps54
   go_wp2_with (first|(go_at_call 25;refine HW.out.mono ?_;rintro e w' ⟨rfl,rfl⟩)|(go_at_call 91;refine HWAS2.out.mono ?_;rintro e w' ⟨rfl,rfl⟩))
   refine HO.out.mono ?_
   rintro e w1 ⟨rfl,hk,vl',vf',vq',har'⟩
   obtain⟨SA1,hr,hrow,hk1,he2,hns⟩:=HS.out w1 vl' vf' vq' hk har'
   have hfull:=full_any hr HM.out.ok' hp (HM.out.len.trans HM.out.ql) HT.out
   rw[HFL.out]at hfull
   have HFULL:=Lib.hid hfull
   have b1:=hrow.cell 1
   have ef:=he2.full
   have HK1:=Lib.hid hk1
   clear hk har' hr hrow hk1 he2 hns hfull
   simp at b1
   go_wp2_with (go_at_call 89;refine HFULL.out.mono ?_;rintro e w2 ⟨rfl,nf,rfl⟩)
   go_ret
   exact⟨HK1.out.drewN _,rfl⟩
 |false=>
  have HFL:=Lib.hid hfl
  have hcin:=HM.out.cin t HT.out HTK.out hfl
  have HCIN:=Lib.hid hcin
  clear hfl hcin
  have hin:∀(w3:World) (x3:RV) (v3:VS) SA1,RunR B w3 x3 SA1 p key (A.out key) v3→Calls Tryz.prog 92 #[.pointer (some ⟨x3.ga,0,none⟩),.int .u64 key,.int .i64 (A.outFreq key),.int .i64 t,.bool tl] w3 fun e w'=>
    e= .returned (.tuple #[])∧Kept (fun b=>B≤b) w3 w'∧∃SA2,RunR B w' x3 SA2 p key ((A.out key).in_ key (A.outFreq key) t.toNat tl) v3:=by
   intro w3 x3 v3 SA1 hr
   obtain⟨vl3,vf3,vq3,bm3,har3⟩:=hr.arena
   have h1:=in_any har3 (RunR.up _ SA1) HM.out.ok' (by have:=HM.out.q8;rw[HM.out.len];omega) key (A.outFreq key) t.toNat tl HCIN.out
   rw[HTN.out]at h1
   refine h1.mono ?_
   rintro e w' ⟨rfl,hk4,vl4,vf4,vq4,har4⟩
   exact⟨rfl,hr.keptB hk4,_,hr.setArena hk4 ⟨vl4,vf4,vq4,bm3,har4⟩⟩
  have HIN:=Lib.hid hin
  clear hin
  cases hdt:(was&&!resident p.decls t)with
  |false=>
   have hcase:was=false∨was=true∧resident p.decls t=true:=by
    cases was
    ·exact .inl rfl
    ·right
     cases hr:resident p.decls t with
     |true=>exact⟨rfl,rfl⟩
     |false=>rw[hr]at hdt;cases hdt
   clear hdt
   rcases hso with⟨rfl,rfl⟩|⟨rfl,rfl⟩
   all_goals
    rcases hcase with rfl|⟨rfl,hrt⟩
    all_goals
     go_enter Tryz.func54,Tryz.ntmps54
     go_wp2_with (first|(go_at_call 25;refine HW.out.mono ?_;rintro e w' ⟨rfl,rfl⟩)|(go_at_call 91;refine HWAS2.out.mono ?_;rintro e w' ⟨rfl,rfl⟩))
     refine HO.out.mono ?_
     rintro e w1 ⟨rfl,hk,vl',vf',vq',har'⟩
     obtain⟨SA1,hr,hrow,hk1,he2,hns⟩:=HS.out w1 vl' vf' vq' hk har'
     have hfull:=full_any hr HM.out.ok' hp (HM.out.len.trans HM.out.ql) HT.out
     rw[HFL.out]at hfull
     have HFULL:=Lib.hid hfull
     have b0:=hrow.cell 0
     have b1:=hrow.cell 1
     have x2:=hr.row.cell 2
     have HK1:=Lib.hid hk1
     have HR1:=Lib.hid hr
     clear hk har' hr hrow hk1 he2 hns hfull
     simp at b0 b1 x2
     go_wp2_with (go_at_call 89;refine HFULL.out.mono ?_;rintro e w2 ⟨rfl,nf,rfl⟩)
     first
      |(refine wp_qtail 11 (by kernel_rfl) (by kernel_rfl) ?_)
      |(have hrest:=resident_any (HR1.out.grown (w':=w1.drewN nf) ((Kept.refl _ _).drewN _) HR1.out.base) hp (.inr HT.out)
        rw[hrt]at hrest
        have HREST:=Lib.hid hrest
        clear hrest
        go_wp2_with (go_at_call 91;refine HREST.out.mono ?_;rintro e w' ⟨rfl,rfl⟩)
        refine wp_qtail 11 (by kernel_rfl) (by kernel_rfl) ?_)
     simp only[List.take_succ_cons,List.take_zero,List.drop_succ_cons,List.drop_zero]
     repeat (go_big_quiet_step (fail))
     refine wpQuiet_nil ?_
     intro nq
     have hi:=fun k=>HIN.out (w1.drewN k) x v SA1 (HR1.out.grown ((Kept.refl _ _).drewN k) HR1.out.base)
     have HI:=Lib.hid hi
     clear hi
     go_wp2_with (go_at_call 92;refine(HI.out _).mono ?_;rintro e w' ⟨rfl,hk4,hr4⟩;have HR4:=Lib.hid hr4;have HK4:=Lib.hid hk4;clear hk4 hr4)
     go_ret
     obtain⟨SA2,hr4⟩:=HR4.out
     exact⟨(HK1.out.drewN _).trans HK4.out,rfl,SA2,x.vou,hr4⟩
  |true=>
   have hcase:was=true∧resident p.decls t=false:=by
    cases was
    ·cases hdt
    ·cases hr:resident p.decls t with
     |true=>rw[hr]at hdt;cases hdt
     |false=>exact⟨rfl,rfl⟩
   obtain⟨rfl,hrt⟩:=hcase
   have HRT:=Lib.hid hrt
   clear hdt hrt
   rcases hso with⟨rfl,rfl⟩|⟨rfl,rfl⟩
   all_goals
    go_enter Tryz.func54,Tryz.ntmps54
    go_wp2_with (first|(go_at_call 25;refine HW.out.mono ?_;rintro e w' ⟨rfl,rfl⟩)|(go_at_call 91;refine HWAS2.out.mono ?_;rintro e w' ⟨rfl,rfl⟩))
    refine HO.out.mono ?_
    rintro e w1 ⟨rfl,hk,vl',vf',vq',har'⟩
    obtain⟨SA1,hr,hrow,hk1,he2,hns⟩:=HS.out w1 vl' vf' vq' hk har'
    have hfull:=full_any hr HM.out.ok' hp (HM.out.len.trans HM.out.ql) HT.out
    rw[HFL.out]at hfull
    have HFULL:=Lib.hid hfull
    have b1:=hrow.cell 1
    have HK1:=Lib.hid hk1
    have HR1:=Lib.hid hr
    have HROW:=Lib.hid hrow
    clear hk har' hr hrow hk1 he2 hns hfull
    simp at b1
    go_wp2_with (go_at_call 89;refine HFULL.out.mono ?_;rintro e w2 ⟨rfl,nf,rfl⟩)
    have hr2:=HR1.out.grown (w':=w1.drewN nf) ((Kept.refl _ _).drewN _) HR1.out.base
    have hrest:=resident_any hr2 hp (.inr HT.out)
    rw[HRT.out]at hrest
    have HREST:=Lib.hid hrest
    have hap:=hr2.appD key
    have d2:(w1.drewN nf).cell? ⟨x.gr,2,none⟩=some (.int .u64 key):=hr2.row.cell 2
    have d6:(w1.drewN nf).cell? ⟨x.gr,6,none⟩=some x.vou:=hr2.row.cell 6
    have df:∀j,(w1.drewN nf).frozen? ⟨x.gr,j,none⟩=false:=fun j=>hr2.row.frozen j
    have dl:x.gr<(w1.drewN nf).heap.size:=hr2.row.lt
    have hk2:=HK1.out.drewN nf
    have hrow2:=HROW.out.drewN nf
    have HAP:=Lib.hid hap
    have HK2:=Lib.hid hk2
    have HROW2:=Lib.hid hrow2
    clear hr2 hrest hap HK1 HR1 HROW HFULL hk2 hrow2
    go_wp2_with (go_at_call 91;refine HREST.out.mono ?_;rintro e w' ⟨rfl,rfl⟩)
    clear HREST b1
    generalize w1.drewN nf=W at*
    have dn:¬x.gr=W.heap.size:=by omega
    obtain⟨gr,gg,gp,gs,ga,vd,bmv,bcv,lp,vst,vlo,vou,vva⟩:=x
    obtain⟨av,cv,rfl⟩:∃a c,vou= .slice a v.r.gone.length c:=HAP.out.run.out.shape
    have b4:((W.alloc (.cells #[.int .u64 key] 32)).drew).cell? ⟨gr,6,none⟩=some (.slice av v.r.gone.length cv):=HAP.out.run.row.cell 6
    have fz:((W.alloc (.cells #[.int .u64 key] 32)).drew).frozen? ⟨gr,6,none⟩=false:=HAP.out.run.row.frozen 6
    have hBo:Row ((W.alloc (.cells #[.int .u64 key] 32)).drew) w.heap.size 131 [.int .u8 _,.int .i64 t,.int .i64 0]:=(HROW2.out.alloc (.cells #[.int .u64 key] 32)).drew
    have hBn:¬((Value.slice av v.r.gone.length cv).ownBlock=some w.heap.size∨((W.alloc (.cells #[.int .u64 key] 32)).drew).heap.size≤w.heap.size):=by
     rintro(h0|h0)
     ·exact HAP.out.run.out.ne_row hBo (by decide) h0
     ·have:=HROW2.out.lt;simp at h0;omega
    have B4:=Lib.hid b4
    have FZ:=Lib.hid fz
    have HBO:=Lib.hid hBo
    have HBN:=Lib.hid hBn
    clear b4 fz hBo hBn
    simp only at*
    go_region_law (first
     |(refine step_append1 Tryz.underlying22 hi0 hz0 hz1 hz2 rfl (by decide) HAP.out.run.out HAP.out.base rfl _ _ (by rfl) (by rfl) ⟨W.heap.size,0,none⟩ 1 1 [.int .u64 key] (by rfl) (by rfl) HAP.out.cells HAP.out.one q4 q5 (by omega) ?_;intro g2 cap2 w2 hs2 hk2 hloc;have e1:=(hk2.cell (p:=⟨gr,6,none⟩) HAP.out.gr).trans B4.out;have e2:=(hk2.frozen (p:=⟨gr,6,none⟩) HAP.out.gr).trans FZ.out;have Hs2:=Lib.hid hs2;have Hk2:=Lib.hid hk2;have HL2:=Lib.hid hloc;clear hs2 hk2 hloc))
    all_goals
     have hfin:=HAP.out.done w2 g2 cap2 Hs2.out Hk2.out HL2.out
     have hrow3:=HBO.out.kept Hk2.out HBN.out
     have hne3:¬w.heap.size=gr:=hrow3.ne_ (HAP.out.run.row.kept Hk2.out HAP.out.gr) (by decide)
     have hrow4:=hrow3.far (p:=⟨gr,6,none⟩) hne3 (.slice (some ⟨g2,0,none⟩) (v.r.gone.length+1) cap2)
     have b0:=hrow4.cell 0
     have b1:=hrow4.cell 1
     have x1:=hfin.2.row.cell 1
     have x2:=hfin.2.row.cell 2
     have hi:=fun k=>HIN.out _ _ _ _ (hfin.2.grown (w':=(w2.setCell ⟨gr,6,none⟩ (.slice (some ⟨g2,0,none⟩) (v.r.gone.length+1) cap2)).drewN k) ((Kept.refl _ _).drewN k) hfin.2.base)
     have HI:=Lib.hid hi
     have HFIN:=Lib.hid hfin.1
     clear hfin hrow3 hrow4 hi e1 e2
     simp at x1 x2 b0 b1
     go_wp2
     refine wp_qtail 11 (by kernel_rfl) (by kernel_rfl) ?_
     simp only[List.take_succ_cons,List.take_zero,List.drop_succ_cons,List.drop_zero]
     repeat (go_big_quiet_step (fail))
     refine wpQuiet_nil ?_
     intro nq
     go_wp2_with (go_at_call 92;refine(HI.out _).mono ?_;rintro e w' ⟨rfl,hk4,hr4⟩;have HR4:=Lib.hid hr4;have HK4:=Lib.hid hk4;clear hk4 hr4)
     go_ret
     obtain⟨SA2,hr4⟩:=HR4.out
     exact⟨((HK2.out.trans HFIN.out).drewN _).trans HK4.out,rfl,SA2,_,hr4⟩
end
end Go.Proofs.YtepoejiigmhlbaaGreatDoor.Ev
namespace Go.Proofs.YtepoejiigmhlbaaGreatDoor.Ev
open Go Go.RowKit
def OutAsk (B:Nat) (w:World) (x:RV) (SA:Nat→Prop) (p:Policy) (key:Int) (A:Arena) (v':VS) (e:Ending) (w':World):Prop:=
 e= .returned (.tuple #[])∧Kept (fun b=>B≤b) w w'∧∃u,RunR B w' {x with vst:=u} SA p key A v'
section
variable {B:Nat} {w:World} {x:RV} {SA:Nat→Prop} {p:Policy} {key:Int} {A:Arena} {v:VS}
set_option maxRecDepth 100000 in
set_option maxHeartbeats 1000000 in
theorem ask_num (h:RunR B w x SA p key A v) (hl:v.stack.length≤1) (n:Int):
  Calls Tryz.prog 53 #[.pointer (some ⟨x.gr,0,none⟩),.agg #[.int .u8 9,.int .i64 n,.int .i64 0]] w (OutAsk B w x SA p key A {v with stack:=n::v.stack}):=by
 have ha:=h.grown ((Kept.refl _ w).alloc (Nat.le_refl _) (.cells #[.int .u8 9,.int .i64 n,.int .i64 0] 131)) h.base
 have hp:=push_any ha hl n
 have HP:=Lib.hid hp
 have HB:=Lib.hid h.base
 clear h ha hp hl
 go_enter Tryz.func53,Tryz.ntmps53
 go_wp2_with fail
 refine HP.out.mono ?_
 rintro e w' ⟨rfl,hk,u,hr⟩
 go_wp2
 go_end0
 exact⟨rfl,((Kept.refl _ w).alloc HB.out _).trans hk,u,hr⟩
set_option maxRecDepth 100000 in
set_option maxHeartbeats 1000000 in
theorem ask_var (h:RunR B w x SA p key A v) (hl:v.stack.length≤1) (hv8:v.r.s.vars.length≤8) {n:Int} (hn:Ix v.r.s.vars.length n):
  Calls Tryz.prog 53 #[.pointer (some ⟨x.gr,0,none⟩),.agg #[.int .u8 10,.int .i64 n,.int .i64 0]] w (OutAsk B w x SA p key A {v with stack:=v.r.s.var n::v.stack}):=by
 have ha:=h.grown ((Kept.refl _ w).alloc (Nat.le_refl _) (.cells #[.int .u8 10,.int .i64 n,.int .i64 0] 131)) h.base
 have hp:=push_any (w:=(w.alloc (.cells #[.int .u8 10,.int .i64 n,.int .i64 0] 131)).drew) (ha.grown (Kept.refl _ _).drew ha.base) hl (v.r.s.var n)
 obtain⟨m,rfl⟩:∃m:Nat,n=(m:Int):=⟨n.toNat,by unfold Ix at hn;omega⟩
 have hm:m<v.r.s.vars.length:=by unfold Ix at hn;omega
 obtain⟨g,cap,e,_,hcap,hcm,hgl⟩:=h.vars.form (by omega)
 have hc:w.cell? ⟨g,m,none⟩=some (.int .i64 (v.r.s.var m)):=by
  have h1:=h.vars
  rw[e]at h1
  have h2:=h1.1.cellAt m (by simpa using hm)
  refine h2.trans ?_
  unfold St.var
  rw[Int.toNat_natCast,List.getElem?_map,List.getElem?_eq_getElem hm]
  rfl
 have c1:=h.row.cell 1
 have s1:=h.srow.cell 1
 have r1:=h.row.lt
 have r2:=h.srow.lt
 rw[e]at s1
 have q1:¬x.gr=w.heap.size:=by omega
 have q2:¬x.gs=w.heap.size:=by omega
 have q3:¬g=w.heap.size:=by omega
 have HP:=Lib.hid hp
 have HB:=Lib.hid h.base
 generalize v.r.s.var m=V at*
 generalize v.r.s.vars.length=D at*
 unfold maxLen at hcm
 clear h ha hp hl e hn
 simp at c1 s1
 go_enter Tryz.func53,Tryz.ntmps53
 go_wp2_with fail
 (refine wp_tail 12 (by kernel_rfl) (by kernel_rfl) ?_;simp only[List.take_succ_cons,List.take_zero,List.drop_succ_cons,List.drop_zero];repeat still_step)
 refine wpStill_nil ?_
 go_wp2_with fail
 refine HP.out.mono ?_
 rintro e w' ⟨rfl,hk,u,hr⟩
 go_wp2
 go_end0
 exact⟨rfl,(((Kept.refl _ w).alloc HB.out _).drew).trans hk,u,hr⟩
set_option maxRecDepth 100000 in
set_option maxHeartbeats 1000000 in
theorem ask_len (h:RunR B w x SA p key A v) (hl:v.stack.length≤1) (ok:A.Ok) (h8:A.qs.length≤8) {n:Int} (hn:Ix A.qs.length n):
  Calls Tryz.prog 53 #[.pointer (some ⟨x.gr,0,none⟩),.agg #[.int .u8 11,.int .i64 n,.int .i64 0]] w (OutAsk B w x SA p key A {v with stack:=(alen A n:Int)::v.stack}):=by
 have ha:=h.grown ((Kept.refl _ w).alloc (Nat.le_refl _) (.cells #[.int .u8 11,.int .i64 n,.int .i64 0] 131)) h.base
 have ha2:=ha.grown (w':=(w.alloc (.cells #[.int .u8 11,.int .i64 n,.int .i64 0] 131)).drew) (Kept.refl _ _).drew ha.base
 have hp:=push_any ha2 hl (alen A n:Int)
 obtain⟨m,rfl⟩:∃m:Nat,n=(m:Int):=⟨n.toNat,by unfold Ix at hn;omega⟩
 obtain⟨vl,vf,vq,bm,har⟩:=ha2.ar
 have hln:=len_any har ok m (by unfold Ix at hn;omega) (by omega)
 have c1:=h.row.cell 1
 have s0:=h.srow.cell 0
 have r1:=h.row.lt
 have r2:=h.srow.lt
 have q1:¬x.gr=w.heap.size:=by omega
 have q2:¬x.gs=w.heap.size:=by omega
 have e:alen A (m:Int)=A.len m:=by unfold alen;rw[Int.toNat_natCast]
 rw[e]at hp ⊢
 have HP:=Lib.hid hp
 have HL:=Lib.hid hln
 have HB:=Lib.hid h.base
 clear h ha ha2 hp hl e hn har hln ok h8
 simp at c1 s0
 go_enter Tryz.func53,Tryz.ntmps53
 go_wp2_with fail
 go_region_with (first|(go_at_call 86;refine HL.out.mono ?_;rintro e w' ⟨rfl,rfl⟩)|(go_at_call 85;refine HP.out.mono ?_;rintro e w' ⟨rfl,hk,u,hr⟩))
 all_goals
  go_wp2
  go_end0
  exact⟨rfl,(((Kept.refl _ w).alloc HB.out _).drew).trans hk,u,hr⟩
set_option maxRecDepth 100000 in
set_option maxHeartbeats 1000000 in
theorem ask_freq (h:RunR B w x SA p key A v) (hl:v.stack.length≤1) (ok:A.Ok):
  Calls Tryz.prog 53 #[.pointer (some ⟨x.gr,0,none⟩),.agg #[.int .u8 12,.int .i64 0,.int .i64 0]] w (OutAsk B w x SA p key A {v with stack:=A.freqOf key::v.stack}):=by
 have ha:=h.grown ((Kept.refl _ w).alloc (Nat.le_refl _) (.cells #[.int .u8 12,.int .i64 0,.int .i64 0] 131)) h.base
 have ha2:=ha.grown (w':=(w.alloc (.cells #[.int .u8 12,.int .i64 0,.int .i64 0] 131)).drew) (Kept.refl _ _).drew ha.base
 have hp:=push_any ha2 hl (A.freqOf key)
 obtain⟨vl,vf,vq,bm,har⟩:=ha2.ar
 have hln:=freq_any har ok key
 have c1:=h.row.cell 1
 have c2:=h.row.cell 2
 have s0:=h.srow.cell 0
 have r1:=h.row.lt
 have r2:=h.srow.lt
 have q1:¬x.gr=w.heap.size:=by omega
 have q2:¬x.gs=w.heap.size:=by omega
 have HP:=Lib.hid hp
 have HL:=Lib.hid hln
 have HB:=Lib.hid h.base
 clear h ha ha2 hp hl har hln ok
 simp at c1 c2 s0
 go_enter Tryz.func53,Tryz.ntmps53
 go_wp2_with fail
 go_region_with (first|(go_at_call 87;refine HL.out.mono ?_;rintro e w' ⟨rfl,rfl⟩)|(go_at_call 85;refine HP.out.mono ?_;rintro e w' ⟨rfl,hk,u,hr⟩))
 all_goals
  go_wp2
  go_end0
  exact⟨rfl,(((Kept.refl _ w).alloc HB.out _).drew).trans hk,u,hr⟩
set_option maxRecDepth 100000 in
set_option maxHeartbeats 1000000 in
theorem ask_not (h:RunR B w x SA p key A v):
  Calls Tryz.prog 53 #[.pointer (some ⟨x.gr,0,none⟩),.agg #[.int .u8 16,.int .i64 0,.int .i64 0]] w (OutAsk B w x SA p key A {v with yes:=!v.yes}):=by
 have ha:=h.grown ((Kept.refl _ w).alloc (Nat.le_refl _) (.cells #[.int .u8 16,.int .i64 0,.int .i64 0] 131)) h.base
 have hy0:=h.setYes (!v.yes)
 have hy:=hy0.grown ((Kept.refl _ _).alloc (Nat.le_refl _) (.cells #[.int .u8 16,.int .i64 0,.int .i64 0] 131)) hy0.base
 have c4:=h.row.cell 4
 have f:=fun j=>h.row.frozen j
 have r1:=h.row.lt
 have q1:¬x.gr=w.heap.size:=by omega
 have HY:=Lib.hid hy
 have HG:=Lib.hid h.gr0
 have HB:=Lib.hid h.base
 clear h ha hy hy0
 simp at c4
 go_enter Tryz.func53,Tryz.ntmps53
 go_wp2
 go_end0
 exact⟨rfl,((Kept.refl _ w).setCell (p:=⟨x.gr,4,none⟩) HG.out _).alloc (Nat.le_trans HB.out (by simp[World.setCell])) _,_,HY.out⟩
set_option maxRecDepth 100000 in
set_option maxHeartbeats 1000000 in
theorem ask_full (h:RunR B w x SA p key A v) (ok:A.Ok) (hp:p.decls.length≤8) (hA:A.qs.length=p.decls.length) {q:Int} (hq:Ix p.decls.length q):
  Calls Tryz.prog 53 #[.pointer (some ⟨x.gr,0,none⟩),.agg #[.int .u8 14,.int .i64 q,.int .i64 0]] w (OutAsk B w x SA p key A {v with yes:=afull p.decls A q}):=by
 have ha:=h.grown ((Kept.refl _ w).alloc (Nat.le_refl _) (.cells #[.int .u8 14,.int .i64 q,.int .i64 0] 131)) h.base
 have hf:=full_any ha ok hp hA hq
 have c4:=h.row.cell 4
 have f:=fun j=>h.row.frozen j
 have r1:=h.row.lt
 have q1:¬x.gr=w.heap.size:=by omega
 have HA:=Lib.hid ha
 have HF:=Lib.hid hf
 have HG:=Lib.hid h.gr0
 have HB:=Lib.hid h.base
 clear h ha hf ok hp hA hq
 simp at c4
 go_enter Tryz.func53,Tryz.ntmps53
 go_wp2_with fail
 refine HF.out.mono ?_
 rintro e w' ⟨rfl,nq,rfl⟩
 go_wp2
 go_end0
 exact⟨rfl,(((Kept.refl _ w).alloc HB.out _).drewN _).setCell (p:=⟨x.gr,4,none⟩) HG.out _,_,(HA.out.grown (w':=(w.alloc (.cells #[.int .u8 14,.int .i64 q,.int .i64 0] 131)).drewN nq) ((Kept.refl _ _).drewN _) HA.out.base).setYes _⟩
set_option maxRecDepth 100000 in
set_option maxHeartbeats 1000000 in
theorem ask_less (h:RunR B w x SA p key A v) {b a:Int} {st:List Int} (hs:v.stack=b::a::st) (hl:v.stack.length≤2):
  Calls Tryz.prog 53 #[.pointer (some ⟨x.gr,0,none⟩),.agg #[.int .u8 13,.int .i64 0,.int .i64 0]] w (OutAsk B w x SA p key A {v with stack:=st,yes:=decide (a<b)}):=by
 have ha:=h.grown ((Kept.refl _ w).alloc (Nat.le_refl _) (.cells #[.int .u8 13,.int .i64 0,.int .i64 0] 131)) h.base
 have hp:=pop_any ha hs hl
 have HP:=Lib.hid hp
 have HB:=Lib.hid h.base
 have hl2:(a::st).length≤2:=by have:=congrArg List.length hs;simp only[List.length_cons]at this ⊢;omega
 have HL:=Lib.hid hl2
 have HG:=Lib.hid h.gr0
 clear h ha hp hs hl hl2
 go_enter Tryz.func53,Tryz.ntmps53
 go_wp2_with fail
 refine HP.out.mono ?_
 rintro e w1 ⟨rfl,hk1,u1,hr1⟩
 have hp2:=pop_any hr1 rfl HL.out
 have HP2:=Lib.hid hp2
 have HK1:=Lib.hid hk1
 clear hp2 hk1 hr1
 go_wp2_with fail
 refine HP2.out.mono ?_
 rintro e w2 ⟨rfl,hk2,u2,hr2⟩
 have c4:=hr2.row.cell 4
 have f:∀j,w2.frozen? ⟨x.gr,j,none⟩=false:=fun j=>hr2.row.frozen j
 have HR:=Lib.hid hr2
 have HK2:=Lib.hid hk2
 clear hr2 hk2
 simp at c4
 go_wp2
 go_end0
 exact⟨rfl,((((Kept.refl _ w).alloc HB.out _).trans HK1.out).trans HK2.out).setCell (p:=⟨x.gr,4,none⟩) HG.out _,_,HR.out.setYes _⟩
end
end Go.Proofs.YtepoejiigmhlbaaGreatDoor.Ev
namespace Go.Proofs.YtepoejiigmhlbaaGreatDoor.Ev
open Go Go.RowKit
section
variable {B:Nat} {w:World} {x:RV} {SA:Nat→Prop} {p:Policy} {key:Int} {A:Arena} {v:VS}
set_option maxRecDepth 100000 in
set_option maxHeartbeats 1000000 in
theorem ask_warm0 (h:RunR B w x SA p key A v) (ok:A.Ok) (h8:A.qs.length≤8) {n:Int} (hn:Ix A.qs.length n) (h0:alen A n=0):
  Calls Tryz.prog 53 #[.pointer (some ⟨x.gr,0,none⟩),.agg #[.int .u8 15,.int .i64 n,.int .i64 0]] w (OutAsk B w x SA p key A {v with yes:=false}):=by
 have ha:=h.grown ((Kept.refl _ w).alloc (Nat.le_refl _) (.cells #[.int .u8 15,.int .i64 n,.int .i64 0] 131)) h.base
 have ha2:=ha.grown (w':=(w.alloc (.cells #[.int .u8 15,.int .i64 n,.int .i64 0] 131)).drew) (Kept.refl _ _).drew ha.base
 obtain⟨m,rfl⟩:∃m:Nat,n=(m:Int):=⟨n.toNat,by unfold Ix at hn;omega⟩
 have e:A.len m=0:=by have:=h0;unfold alen at this;rw[Int.toNat_natCast]at this;exact this
 obtain⟨vl,vf,vq,bm,har⟩:=ha.ar
 have hln:=fun k=>(len_any (har.drewN k) ok m (by unfold Ix at hn;omega) (by omega)).mono fun e' w' h=>(⟨by rw[h.1,e];rfl,h.2.symm⟩:e'= .returned (.int .i64 0)∧w'=(w.alloc (.cells #[.int .u8 15,.int .i64 m,.int .i64 0] 131)).drewN k)
 have c1:=h.row.cell 1
 have c4:=h.row.cell 4
 have f:=fun j=>h.row.frozen j
 have s0:=h.srow.cell 0
 have r1:=h.row.lt
 have r2:=h.srow.lt
 have q1:¬x.gr=w.heap.size:=by omega
 have q2:¬x.gs=w.heap.size:=by omega
 have hy2:=fun k=>(ha.grown (w':=(w.alloc (.cells #[.int .u8 15,.int .i64 m,.int .i64 0] 131)).drewN k) ((Kept.refl _ _).drewN k) ha.base).setYes false
 have HL:=Lib.hid hln
 have HB:=Lib.hid h.base
 have HG:=Lib.hid h.gr0
 have HY:=Lib.hid hy2
 clear h ha ha2 e hn har hln ok h8 h0 hy2
 simp at c1 s0 c4
 go_enter Tryz.func53,Tryz.ntmps53
 go_wp2_with fail
 refine wp_qtail 33 (by kernel_rfl) (by kernel_rfl) ?_
 simp only[List.take_succ_cons,List.take_zero,List.drop_succ_cons,List.drop_zero]
 repeat (go_big_quiet_step ((go_at_call 86;exact Calls.quiet_of_same (HL.out _))))
 refine wpQuiet_nil ?_
 intro nq
 go_wp2
 go_end0
 exact⟨rfl,(((Kept.refl _ w).alloc HB.out _).drewN _).setCell (p:=⟨x.gr,4,none⟩) HG.out _,_,HY.out _⟩
set_option maxRecDepth 100000 in
set_option maxHeartbeats 1000000 in
theorem ask_warm1 (h:RunR B w x SA p key A v) (ok:A.Ok) (h8:A.qs.length≤8) {n:Int} (hn:Ix A.qs.length n) (h0:0<alen A n):
  Calls Tryz.prog 53 #[.pointer (some ⟨x.gr,0,none⟩),.agg #[.int .u8 15,.int .i64 n,.int .i64 0]] w (OutAsk B w x SA p key A {v with yes:=decide (0<A.freqOf (A.tail n.toNat))}):=by
 have ha:=h.grown ((Kept.refl _ w).alloc (Nat.le_refl _) (.cells #[.int .u8 15,.int .i64 n,.int .i64 0] 131)) h.base
 have ha2:=ha.grown (w':=(w.alloc (.cells #[.int .u8 15,.int .i64 n,.int .i64 0] 131)).drew) (Kept.refl _ _).drew ha.base
 obtain⟨m,rfl⟩:∃m:Nat,n=(m:Int):=⟨n.toNat,by unfold Ix at hn;omega⟩
 rw[Int.toNat_natCast]
 have e:0<A.len m:=by have:=h0;unfold alen at this;rw[Int.toNat_natCast]at this;exact this
 have hql:m<A.qs.length:=by unfold Ix at hn;omega
 obtain⟨vl,vf,vq,bm,har⟩:=ha.ar
 have hln:=fun k=>(len_any (har.drewN k) ok m hql (by omega)).mono fun e' w' h=>(⟨h.1,h.2.symm⟩:e'= .returned (.int .i64 (A.len m))∧w'=(w.alloc (.cells #[.int .u8 15,.int .i64 m,.int .i64 0] 131)).drewN k)
 have htl:=fun k=>tail_any (har.drewN k) ok m hql (by omega)
 have hfr:=fun k=>(freq_any (har.drewN k) ok (A.tail m)).mono fun e' w' h=>(⟨h.1,h.2.symm⟩:e'= .returned (.int .i64 (A.freqOf (A.tail m)))∧w'=(w.alloc (.cells #[.int .u8 15,.int .i64 m,.int .i64 0] 131)).drewN k)
 have c1:=h.row.cell 1
 have c4:=h.row.cell 4
 have f:=fun j=>h.row.frozen j
 have s0:=h.srow.cell 0
 have r1:=h.row.lt
 have r2:=h.srow.lt
 have q1:¬x.gr=w.heap.size:=by omega
 have q2:¬x.gs=w.heap.size:=by omega
 have hy2:=fun k=>(ha.grown (w':=(w.alloc (.cells #[.int .u8 15,.int .i64 m,.int .i64 0] 131)).drewN k) ((Kept.refl _ _).drewN k) ha.base).setYes (decide (0<A.freqOf (A.tail m)))
 generalize A.freqOf (A.tail m)=F at*
 generalize A.tail m=T at*
 have ed:decide ((A.len m:Int)>0)=true:=by simp;omega
 generalize A.len m=L at*
 have HL:=Lib.hid hln
 have HT:=Lib.hid htl
 have HF:=Lib.hid hfr
 have HB:=Lib.hid h.base
 have HG:=Lib.hid h.gr0
 have HY:=Lib.hid hy2
 clear h ha ha2 hn har hln htl hfr ok h8 h0 hy2 hql
 simp at c1 s0 c4
 have el:(0:Int)<L:=by omega
 go_enter Tryz.func53,Tryz.ntmps53
 go_wp2_with fail
 refine wp_qtail 33 (by kernel_rfl) (by kernel_rfl) ?_
 simp only[List.take_succ_cons,List.take_zero,List.drop_succ_cons,List.drop_zero]
 repeat (go_big_quiet_step (first|(go_at_call 86;exact Calls.quiet_of_same (HL.out _))|(go_at_call 90;exact Calls.quiet_of (HT.out _))|(go_at_call 87;exact Calls.quiet_of_same (HF.out _))))
 refine wpQuiet_nil ?_
 intro nq
 go_wp2
 go_end0
 exact⟨rfl,(((Kept.refl _ w).alloc HB.out _).drewN _).setCell (p:=⟨x.gr,4,none⟩) HG.out _,_,HY.out _⟩
end
end Go.Proofs.YtepoejiigmhlbaaGreatDoor.Ev
namespace Go.Proofs.YtepoejiigmhlbaaGreatDoor.Ev
open Go Go.RowKit
section
variable {B:Nat} {ea:Nat→Addr} {w:World} {x:RV} {SA:Nat→Prop} {p:Policy} {key:Int} {A:Arena} {ns:List (List Nat)} {v:VS}
theorem RunR.at_ (h:RunR B w x SA p key A v) (n:Nat):RunR B w x SA p key A {v with pc:=n}:=
 ⟨h.ro,h.row,h.srow,h.stack,h.loops,h.out,h.vars,h.ar,h.gr0,h.gs0,h.sa,h.sr,h.ss,h.s1,h.s2,h.s3,h.s4,h.a1,h.a2,h.a3⟩
theorem do_aprim (h:RunR B w x SA p key A v) (he:ErrC B ea w) (hp:PolW p) (hA:AInv A ns v.r.s.q) (hS:SInv p v.r.s) (hg:v.r.gone.length<goneMax) {y:Prim} (hy:PrimOk p.decls y):
  Calls Tryz.prog 54 #[.pointer (some ⟨x.gr,0,none⟩),.agg (encStep (.prim y)).toArray] w (OutDo B ea w x p key v (aprim p key y ⟨A,v.r.s.vars,v.r.gone⟩)):=by
 have hql:A.qs.length=p.decls.length:=by rw[←hA.qlen,hS.q]
 have h8:=hp.decls.len
 cases y with
 |put q tl=>
  have:=do_put h he h8 hg tl hy.1 hy.2 (move_ok hA hS hp key)
  cases tl<;>exact this
 |evict q=>exact do_last h he hp hg (y:=.evict q) hy rfl hy hA.ok hql (fun _=>move_ok hA hS hp _)
 |cool q=>exact do_last h he hp hg (y:=.cool q) hy rfl hy hA.ok hql (fun _=>move_ok hA hS hp _)
 |shift q t tl=>
  have:=do_last h he hp hg (y:=.shift q t tl) hy rfl hy.1 hA.ok hql (fun _=>move_ok hA hS hp _)
  cases tl<;>exact this
 |inc n=>
  obtain⟨z,y1,y2,y3,y4⟩:=var_some hS hy
  have g0:0≤v.r.s.var n:=by rw[y2];exact y3
  have g9:v.r.s.var n≤99:=by have:=(max_le hp hy).2.1;rw[y2];omega
  exact do_var (by_:=1) (n:=n) h h8 hS.v hy (.inl rfl) g0 g9 (max_le hp hy).2.1
 |dec n=>
  obtain⟨z,y1,y2,y3,y4⟩:=var_some hS hy
  have g0:0≤v.r.s.var n:=by rw[y2];exact y3
  have g9:v.r.s.var n≤99:=by have:=(max_le hp hy).2.1;rw[y2];omega
  exact do_var (by_:= -1) (n:=n) h h8 hS.v hy (.inr rfl) g0 g9 (max_le hp hy).2.1
 |drop=>exact do_drop h h8 hg (move_ok hA hS hp key)
 |bump=>exact do_bump h hp hA.ok
def OutP (B:Nat) (ea:Nat→Addr) (w:World) (x:RV) (p:Policy) (key:Int) (v:VS) (res:Except Nat Run) (e:Ending) (w':World):Prop:=
 Kept (fun b=>B≤b) w w'∧match res with
  | .error k=>e= .returned (errV ea k)
  | .ok r'=>e= .returned .nilIface∧∃SA' u A' ns',RunR B w' {x with vou:=u} SA' p key A' {v with r:=r'}∧AInv A' ns' r'.s.q∧SInv p r'.s
theorem do_prim (h:RunR B w x SA p key A v) (he:ErrC B ea w) (hp:PolW p) (hA:AInv A ns v.r.s.q) (hS:SInv p v.r.s) (hg:v.r.gone.length<goneMax) {y:Prim} (hy:PrimOk p.decls y):
  Calls Tryz.prog 54 #[.pointer (some ⟨x.gr,0,none⟩),.agg (encStep (.prim y)).toArray] w (OutP B ea w x p key v (prim p key y v.r)):=by
 have hst:=prim_st hA hS hp key y hy v.r.gone
 refine(do_aprim h he hp hA hS hg hy).mono ?_
 rintro e w' ⟨hk,hr⟩
 refine⟨hk,?_⟩
 have er:(⟨v.r.s,v.r.gone⟩:Run)=v.r:=rfl
 rw[er]at hst
 cases hx:prim p key y v.r with
 |error k=>
  rw[hx]at hst
  simp only at hst
  rw[hst]at hr
  exact hr
 |ok r'=>
  rw[hx]at hst
  obtain⟨A',ns',h1,h2,h3⟩:=hst
  rw[h1]at hr
  obtain⟨he',SA',u,hR⟩:=hr
  refine⟨he',SA',u,A',ns',?_,h2,h3⟩
  exact⟨hR.ro,hR.row,hR.srow,hR.stack,hR.loops,hR.out,hR.vars,hR.ar,hR.gr0,hR.gs0,hR.sa,hR.sr,hR.ss,hR.s1,hR.s2,hR.s3,hR.s4,hR.a1,hR.a2,hR.a3⟩
def isAsk:Ins→Bool
 | .num _=>true
 | .var _=>true
 | .len _=>true
 | .freq=>true
 | .less=>true
 | .full _=>true
 | .warm _=>true
 | .not=>true
 |_=>false
theorem ask_any (h:RunR B w x SA p key A v) (hp:PolW p) (hA:AInv A ns v.r.s.q) (hS:SInv p v.r.s) (hl:v.stack.length≤2) {i:Ins} (hi:isAsk i=true) {v':VS} (hv:vstep p key v i=some (.inl v')):
  Calls Tryz.prog 53 #[.pointer (some ⟨x.gr,0,none⟩),.agg (encStep i).toArray] w (OutAsk B w x SA p key A v')∧v'.pc=v.pc+1∧v'.r=v.r∧v'.loops=v.loops∧v'.stack.length≤2:=by
 have hql:A.qs.length=p.decls.length:=by rw[←hA.qlen,hS.q]
 have h8:=hp.decls.len
 have hst:(⟨v.r.s.q,v.r.s.vars⟩:St)=v.r.s:=rfl
 cases i with
 |num n=>
  simp only[vstep]at hv
  split at hv
  ·injection hv with hv;injection hv with hv;subst hv
   rename_i h1
   exact⟨ask_num (h.at_ (v.pc+1)) h1 n,rfl,rfl,rfl,by simp;omega⟩
  ·cases hv
 |var n=>
  simp only[vstep]at hv
  split at hv
  ·injection hv with hv;injection hv with hv;subst hv
   rename_i h1
   have hvl:v.r.s.vars.length=p.decls.length:=hS.v
   exact⟨ask_var (h.at_ (v.pc+1)) h1.2 (by show v.r.s.vars.length≤8;omega) (by show Ix v.r.s.vars.length n;rw[hvl];exact h1.1),rfl,rfl,rfl,by have:=h1.2;simp;omega⟩
  ·cases hv
 |len n=>
  simp only[vstep]at hv
  split at hv
  ·injection hv with hv;injection hv with hv;subst hv
   rename_i h1
   have hq:Ix v.r.s.q.length n:=by rw[hS.q];exact h1.1
   have e:=alen_st (s:=v.r.s) hA hq
   have:=ask_len (h.at_ (v.pc+1)) h1.2 hA.ok (by omega) (n:=n) (by rw[hql];exact h1.1)
   rw[e]at this
   exact⟨this,rfl,rfl,rfl,by have:=h1.2;simp;omega⟩
  ·cases hv
 |freq=>
  simp only[vstep]at hv
  split at hv
  ·injection hv with hv;injection hv with hv;subst hv
   rename_i h1
   have e:=hA.freq_ v.r.s.vars key
   rw[hst]at e
   have:=ask_freq (h.at_ (v.pc+1)) h1 hA.ok
   rw[e]at this
   exact⟨this,rfl,rfl,rfl,by simp;omega⟩
  ·cases hv
 |less=>
  simp only[vstep]at hv
  split at hv
  ·injection hv with hv;injection hv with hv;subst hv
   rename_i b a st hs
   have hsl:v.stack.length=st.length+2:=by rw[hs];rfl
   exact⟨ask_less (h.at_ (v.pc+1)) hs hl,rfl,rfl,rfl,by simp;omega⟩
  ·cases hv
 |full n=>
  simp only[vstep]at hv
  split at hv
  ·injection hv with hv;injection hv with hv;subst hv
   rename_i h1
   have hq:Ix v.r.s.q.length n:=by rw[hS.q];exact h1
   have e:=alen_st (s:=v.r.s) hA hq
   have:=ask_full (h.at_ (v.pc+1)) hA.ok h8 hql h1
   unfold afull at this
   rw[e]at this
   exact⟨this,rfl,rfl,rfl,hl⟩
  ·cases hv
 |warm n=>
  simp only[vstep]at hv
  split at hv
  ·injection hv with hv;injection hv with hv;subst hv
   rename_i h1
   have hq:Ix v.r.s.q.length n:=by rw[hS.q];exact h1
   have hqa:Ix A.qs.length n:=by rw[hql];exact h1
   have e:=alen_st (s:=v.r.s) hA hq
   by_cases h0:alen A n=0
   ·have:=ask_warm0 (h.at_ (v.pc+1)) hA.ok (by omega) hqa h0
    have e2:(decide (0<(v.r.s.queue n).length)&&decide (0<(lastEnt (v.r.s.queue n)).freq))=false:=by
     rw[←e,h0];rfl
    rw[e2]
    exact⟨this,rfl,rfl,rfl,hl⟩
   ·have:=ask_warm1 (h.at_ (v.pc+1)) hA.ok (by omega) hqa (by omega)
    have hne:v.r.s.queue n≠ []:=by intro e3;rw[e3]at e;exact h0 e
    have hk:n.toNat<A.qs.length:=by unfold Ix at hqa;omega
    have hn:((n.toNat:Nat):Int)=n:=by have:=h1.1;omega
    have ht:=hA.tail_ v.r.s.vars hk (by rw[hst,hn];exact hne)
    rw[hst,hn]at ht
    have hf:=hA.freq_ v.r.s.vars (A.tail n.toNat)
    rw[hst]at hf
    have hfd:=hA.find_tail v.r.s.vars hk (by rw[hst,hn];exact hne)
    rw[hst,hn,←ht]at hfd
    have e2:freqOf v.r.s (A.tail n.toNat)=(lastEnt (v.r.s.queue n)).freq:=by
     unfold freqOf
     rw[hfd]
     simp only
     rw[hn]
     rfl
    rw[hf,e2]at this
    have e4:(decide (0<(v.r.s.queue n).length)&&decide (0<(lastEnt (v.r.s.queue n)).freq))=decide (0<(lastEnt (v.r.s.queue n)).freq):=by
     rw[←e,decide_eq_true (by omega)];rfl
    rw[e4]
    exact⟨this,rfl,rfl,rfl,hl⟩
  ·cases hv
 |not=>
  simp only[vstep]at hv
  injection hv with hv;injection hv with hv;subst hv
  exact⟨ask_not (h.at_ (v.pc+1)),rfl,rfl,rfl,hl⟩
 |_=>cases hi
end
end Go.Proofs.YtepoejiigmhlbaaGreatDoor.Ev
namespace Go.Proofs.YtepoejiigmhlbaaGreatDoor.Ev
open Go
theorem wp_scope_ghost {P:Program} {a:Act} {w:World} {Q:Exit→Act→World→Prop} {c X:Code} (l:Nat) (J:Nat→Act→World→Prop) (hf:findLabel c l=some (Code.skip.seq X))
  (first:(∀k a w,J k a w→X.wp P (Exit.jump l (fun a' w'=>∃k',J k' a' w') Q) a w)→c.wp P (Exit.jump l (fun a' w'=>∃k',J k' a' w') Q) a w)
  (pass:∀k a w,J k a w→X.wp P (Exit.jump l (fun a' w'=>∃k',k'<k∧J k' a' w') Q) a w):(Code.scope c).wp P Q a w:=by
 have first:=first fun k a w hJ=>Code.wp_mono (fun e a w h=>by
  cases e with
  |goto l'=>obtain⟨h1,k',_,h2⟩:=h;exact⟨h1,k',h2⟩
  |_=>exact h) (pass k a w hJ)
 have pass:∀k a w,J k a w→(Code.skip.seq X).wp P (Exit.jump l (fun a' w'=>∃k',k'<k∧J k' a' w') Q) a w:=fun k a w h=>wp_seq (wp_skip (pass k a w h))
 intro b k cs
 have hg:gotoIn l (.inScope c::k)=some (.code (Code.skip.seq X):: .inScope c::k):=by simp[gotoIn,hf]
 have key:∀n a w,J n a w→∃e a' w',Q e a' w'∧Arrives P (lone (b.at a (.code (Code.skip.seq X):: .inScope c::k)) cs w) b k cs e a' w':=by
  intro n
  induction n using Nat.strongRecOn with
  |_ n ih=>
   intro a w hJ
   obtain⟨e,a₁,w₁,hq,harr⟩:=pass n a w hJ b (.inScope c::k) cs
   cases e with
   |normal=>exact⟨.normal,a₁,w₁,hq,Steps.trans harr (.one step_inScope)⟩
   |exit id=>exact⟨.exit id,a₁,w₁,hq,fun k' hk=>harr k' (by simp[exitTo,hk])⟩
   |goto l'=>
    obtain⟨rfl,n',hlt,hJ'⟩:=hq
    obtain⟨e₂,a₂,w₂,hq₂,harr₂⟩:=ih n' hlt a₁ w₁ hJ'
    exact⟨e₂,a₂,w₂,hq₂,.of_steps (harr _ hg) harr₂⟩
   |ret=>exact⟨_,a₁,w₁,hq,harr⟩
   |panic ch=>exact⟨_,a₁,w₁,hq,harr⟩
   |outgrown=>exact⟨_,a₁,w₁,hq,harr⟩
 obtain⟨e,a₁,w₁,hq,harr⟩:=first b (.inScope c::k) cs
 cases e with
 |normal=>exact⟨.normal,a₁,w₁,hq,.head step_scope (Steps.trans harr (.one step_inScope))⟩
 |exit id=>exact⟨.exit id,a₁,w₁,hq,fun k' hk=>.head step_scope (harr k' (by simp[exitTo,hk]))⟩
 |goto l'=>
  obtain⟨rfl,n',hJ'⟩:=hq
  obtain⟨e₂,a₂,w₂,hq₂,harr₂⟩:=key n' a₁ w₁ hJ'
  exact⟨e₂,a₂,w₂,hq₂,.of_steps (.head step_scope (harr _ hg)) harr₂⟩
 |ret=>exact⟨_,a₁,w₁,hq,.of_steps (.one step_scope) harr⟩
 |panic ch=>exact⟨_,a₁,w₁,hq,.of_steps (.one step_scope) harr⟩
 |outgrown=>exact⟨_,a₁,w₁,hq,.of_steps (.one step_scope) harr⟩
theorem frame_u (a:Act) (F:(Nat→Value)→Act) (h:a=F (fun i=>a.tmps.getD i undef)):∃u,a=F u:=⟨_,h⟩
end Go.Proofs.YtepoejiigmhlbaaGreatDoor.Ev
namespace Go.Proofs.YtepoejiigmhlbaaGreatDoor.Ev
open Go Go.RowKit
structure StB (B:Nat) (w:World) (gs ga:Nat) (vva:Value) (SA:Nat→Prop) (A:Arena) (vars:List Int):Prop where
 srow:Row w gs 71 [.pointer (some ⟨ga,0,none⟩),vva]
 vars:Sl (fun b=>B≤b) w 3 1 vva vars.length (vars.map encI)
 ar:∃vl vf vq bm,ARep SA w ga A vl vf vq bm
 gs0:B≤gs
 sa:∀b,SA b→B≤b∧b<w.heap.size
 ss:¬SA gs
 s4:∀b,vva.ownBlock=some b→¬SA b
section
variable {B:Nat} {ea:Nat→Addr} {w:World} {x:RV} {SA:Nat→Prop} {p:Policy} {key:Int} {A:Arena} {ns:List (List Nat)} {v:VS}
theorem RunR.state (h:RunR B w x SA p key A v):StB B w x.gs x.ga x.vva SA A v.r.s.vars:=⟨h.srow,h.vars,h.ar,h.gs0,h.sa,h.ss,h.s4⟩
theorem RunR.setLoop (h:RunR B w x SA p key A v) {g cap:Nat} (e:x.vlo= .slice (some ⟨g,0,none⟩) v.loops.length cap) (c:Nat) (n:Int):
  RunR B (w.setCell ⟨g,c,none⟩ (.int .i64 n)) x SA p key A {v with loops:=v.loops.set c n}:=by
 have hs:=h.loops.set1 encI (i:=c) e n
 have k3:Kept (fun b=>b=g) w (w.setCell ⟨g,c,none⟩ (.int .i64 n)):=Kept.one _ ⟨g,c,none⟩ _
 have hown:x.vlo.ownBlock=some g:=by rw[e];rfl
 obtain⟨vl,vf,vq,bm,har⟩:=h.ar
 exact⟨h.ro.kept k3 (fun b hb=>hb▸h.loops.2 g hown),h.row.kept k3 (fun e=>h.loops.ne_row h.row (by decide) (e▸hown)),h.srow.kept k3 (fun e=>h.loops.ne_row h.srow (by decide) (e▸hown)),h.stack.kept k3 (fun b hb e=>h.a1 b hb (e▸hown)),hs,
  h.out.kept k3 (fun b hb e=>h.loops.apart_ne h.out (by decide) b (e▸hown) hb),h.vars.kept k3 (fun b hb e=>h.a3 b (e▸hown) hb),⟨vl,vf,vq,bm,har.kept k3 (fun b hb e=>h.s2 b (e▸hown) hb)⟩,h.gr0,h.gs0,
  fun b hb=>⟨(h.sa b hb).1,Nat.lt_of_lt_of_le (h.sa b hb).2 k3.size⟩,h.sr,h.ss,h.s1,h.s2,h.s3,h.s4,h.a1,h.a2,h.a3⟩
def OutRun (B:Nat) (ea:Nat→Addr) (w0:World) (gs:Nat) (p:Policy) (res:Except Nat Run) (e:Ending) (w':World):Prop:=
 Kept (fun b=>B≤b) w0 w'∧match res with
  | .error k=>e= .returned (.tuple #[.slice none 0 0,errV ea k])
  | .ok r=>∃vou ga vva SA A ns,e= .returned (.tuple #[vou,.nilIface])∧StB B w' gs ga vva SA A r.s.vars∧AInv A ns r.s.q∧SInv p r.s∧
    Sl (fun b=>B≤b) w' 32 1 vou r.gone.length (r.gone.map encU)∧(∀b,vou.ownBlock=some b→¬SA b∧b≠gs∧vva.ownBlock≠some b)
def runFrame (gg gs gr gl n cap pc:Nat) (ev key:Int) (u:Nat→Value):Act:=
 {tmps:=#[.pointer (some ⟨gg,0,none⟩),.pointer (some ⟨gs,0,none⟩),.int .i64 ev,.int .u64 key,u 4,u 5,u 6,u 7,.slice none 0 0,.nilIface,.slice (some ⟨gl,0,none⟩) n cap,.bool true,.pointer (some ⟨gr,0,none⟩),.int .i64 pc,u 14,u 15,u 16,u 17,u 18,u 19,u 20,u 21,u 22,u 23,u 24,u 25,u 26,u 27,u 28,u 29,u 30,u 31,u 32,u 33,u 34,u 35,u 36,u 37,u 38,u 39,u 40,u 41,u 42,u 43,u 44,u 45,u 46,u 47,u 48,u 49,u 50,u 51,u 52,u 53,u 54,u 55,u 56,u 57,u 58,u 59,u 60,u 61,u 62,u 63,u 64,u 65,u 66,u 67,u 68,u 69,u 70,u 71,u 72,u 73,u 74,u 75,u 76,u 77,u 78,u 79,u 80,u 81,u 82,u 83,u 84,u 85,u 86,u 87,u 88,u 89,u 90,u 91,u 92,u 93,u 94,u 95,u 96,u 97,u 98,u 99,u 100,u 101,u 102,u 103,u 104,u 105,u 106,u 107,u 108,u 109],defers:=[]}
def RunJ (B:Nat) (ea:Nat→Addr) (w0:World) (x:RV) (p:Policy) (ev key:Int) (code:List Ins) (gl cap:Nat) (res:Except Nat Run) (k:Nat) (a:Act) (w:World):Prop:=
 ∃(v:VS) (st ou:Value) (SA:Nat→Prop) (A:Arena) (ns:List (List Nat)),(∃u,a=runFrame x.gg x.gs x.gr gl code.length cap v.pc ev key u)∧vrun p key code k v=some res∧
  RunR B w {x with vst:=st,vou:=ou} SA p key A v∧AInv A ns v.r.s.q∧SInv p v.r.s∧v.stack.length≤2∧(∀n∈v.loops,0≤n∧n≤50)∧Kept (fun b=>B≤b) w0 w
end
end Go.Proofs.YtepoejiigmhlbaaGreatDoor.Ev
namespace Go.Proofs.YtepoejiigmhlbaaGreatDoor.Ev
theorem exec_keeps {p:Policy} {key:Int} (P:Run→Prop) (hP:∀x r r',PrimOk p.decls x→P r→prim p key x r= .ok r'→P r'):∀(b:Blk) (r r':Run),BlkOk p.decls b→P r→exec p key b r= .ok r'→P r'
 | .nil,r,r',_,h,e=>by rw[exec]at e;injection e with e;rw[←e];exact h
 | .prim x b,r,r',hb,h,e=>by
  rw[exec]at e
  split at e
  ·rename_i r1 e1
   exact exec_keeps P hP b r1 r' hb.2 (hP x r r1 hb.1 h e1) e
  ·cases e
 | .ite c t o el b,r,r',⟨_,h1,h2,h3,_⟩,h,e=>by
  rw[exec]at e
  split at e
  ·rename_i r1 e1
   refine exec_keeps P hP b r1 r' h3 ?_ e
   split at e1
   ·exact exec_keeps P hP t r r1 h1 h e1
   ·split at e1
    ·exact exec_keeps P hP el r r1 h2 h e1
    ·injection e1 with e1;rw[←e1];exact h
  ·cases e
 | .rep n c x b,r,r',⟨_,h1,h2,_⟩,h,e=>by
  rw[exec]at e
  split at e
  ·rename_i r1 e1
   refine exec_keeps P hP b r1 r' h2 ?_ e
   have lp:∀(m:Nat) (r r1:Run),P r→loopN (fun s=>evalCond p.decls key s c) (exec p key x) m r= .ok r1→P r1:=by
    intro m
    induction m with
    |zero=>intro r r1 h e;rw[loopN]at e;injection e with e;rw[←e];exact h
    |succ m ih=>
     intro r r1 h e
     rw[loopN]at e
     split at e
     ·split at e
      ·rename_i r2 e2
       exact ih r2 r1 (exec_keeps P hP x r r2 h1 h e2) e
      ·cases e
     ·injection e with e;rw[←e];exact h
   exact lp _ _ _ h e1
  ·cases e
def AtQ (s:St) (i:Nat) (x:Int):Prop:=∃l,s.q[i]?=some l∧x∈l.map (·.key)
structure Once (s:St):Prop where
 nd:∀(i:Nat) l,s.q[i]?=some l→(l.map (·.key)).Nodup
 one:∀i j x,AtQ s i x→AtQ s j x→i=j
theorem AInv.once {A:Arena} {ns:List (List Nat)} {s:St} (h:AInv A ns s.q):Once s:=by
 have at_:∀i x,AtQ s i x→∃l n,ns[i]?=some l∧n∈l∧(A.node n).key=x:=by
  rintro i x ⟨l,hl,hx⟩
  rw[h.ent,List.getElem?_map]at hl
  cases hn:ns[i]? with
  |none=>rw[hn]at hl;cases hl
  |some m=>
   rw[hn]at hl
   simp only[Option.map_some,Option.some.injEq]at hl
   subst hl
   rw[List.map_map]at hx
   obtain⟨n,hn1,hn2⟩:=List.mem_map.1 hx
   exact⟨m,n,rfl,hn1,hn2⟩
 constructor
 ·intro i l hl
  rw[h.ent,List.getElem?_map]at hl
  cases hn:ns[i]? with
  |none=>rw[hn]at hl;cases hl
  |some m=>
   rw[hn]at hl
   simp only[Option.map_some,Option.some.injEq]at hl
   subst hl
   rw[List.map_map]
   have hnd:=h.nodup i m hn
   have inj:∀a∈m,∀b∈m,(A.node a).key=(A.node b).key→a=b:=fun a ha b hb e=>(h.uniq hn ha hn hb e).1
   have:∀(m':List Nat),m'.Nodup→(∀a∈m',a∈m)→(m'.map ((fun e:Ent=>e.key)∘entOf A)).Nodup:=by
    intro m'
    induction m' with
    |nil=>intro _ _;exact List.nodup_nil
    |cons a m' ih=>
     intro hd hs
     have h1:=List.nodup_cons.1 hd
     rw[List.map_cons,List.nodup_cons]
     refine⟨fun hm=>?_,ih h1.2 (fun b hb=>hs b (List.mem_cons_of_mem _ hb))⟩
     obtain⟨b,hb,e⟩:=List.mem_map.1 hm
     have:=inj b (hs b (List.mem_cons_of_mem _ hb)) a (hs a (List.mem_cons_self ..)) e
     exact h1.1 (this▸hb)
   exact this m hnd (fun a ha=>ha)
 ·intro i j x hi hj
  obtain⟨l,n,h1,h2,h3⟩:=at_ i x hi
  obtain⟨l',n',h4,h5,h6⟩:=at_ j x hj
  exact(h.uniq h1 h2 h4 h5 (h3.trans h6.symm)).2
theorem placeFrom_at {key:Int}:∀{L:List Ent} {i j:Nat},placeFrom key L i=some j→i≤j∧∃e,L[j-i]?=some e∧e.key=key
 | [],_,_,h=>by cases h
 |e::L,i,j,h=>by
  unfold placeFrom at h
  split at h
  ·rename_i hk
   injection h with h
   subst h
   exact⟨Nat.le_refl _,e,by simp,hk⟩
  ·obtain⟨h1,x,h2,h3⟩:=placeFrom_at h
   refine⟨by omega,x,?_,h3⟩
   have:j-i=(j-(i+1))+1:=by omega
   rw[this]
   exact h2
theorem placeFrom_no {key:Int}:∀{L:List Ent} {i:Nat},placeFrom key L i=none→∀e∈L,e.key≠key
 | [],_,_,_,h=>by cases h
 |e::L,i,h,x,hx=>by
  unfold placeFrom at h
  split at h
  ·cases h
  ·rename_i hk
   rcases List.mem_cons.1 hx with rfl|hx
   ·exact hk
   ·exact placeFrom_no h x hx
theorem whereFrom_at {key:Int}:∀{q:List (List Ent)} {a k i:Nat},whereFrom key q a=some (k,i)→a≤k∧∃l e,q[k-a]?=some l∧l[i]?=some e∧e.key=key
 | [],_,_,_,h=>by cases h
 |l::q,a,k,i,h=>by
  unfold whereFrom at h
  split at h
  ·rename_i j hj
   injection h with h
   injection h with h1 h2
   subst h1 h2
   obtain⟨_,e,h3,h4⟩:=placeFrom_at hj
   exact⟨Nat.le_refl _,l,e,by simp,h3,h4⟩
  ·obtain⟨h1,l',e,h2,h3⟩:=whereFrom_at h
   refine⟨by omega,l',e,?_,h3⟩
   have:k-a=(k-(a+1))+1:=by omega
   rw[this]
   exact h2
theorem whereFrom_no {key:Int}:∀{q:List (List Ent)} {a:Nat},whereFrom key q a=none→∀l∈q,∀e∈l,e.key≠key
 | [],_,_,_,h=>by cases h
 |l::q,a,h,m,hm=>by
  unfold whereFrom at h
  split at h
  ·cases h
  ·rename_i hj
   rcases List.mem_cons.1 hm with rfl|hm
   ·exact placeFrom_no hj
   ·exact whereFrom_no h m hm
theorem find_in {s:St} {key:Int} {k i:Nat} (h:s.find key=some (k,i)):∃l e,s.q[k]?=some l∧l[i]?=some e∧e.key=key∧s.queue (k:Int)=l∧entAt (s.queue (k:Int)) i=e:=by
 obtain⟨_,l,e,h1,h2,h3⟩:=whereFrom_at h
 rw[Nat.sub_zero]at h1
 have hq:s.queue (k:Int)=l:=by unfold St.queue;simp[h1]
 exact⟨l,e,h1,h2,h3,hq,by unfold entAt;rw[hq,h2];rfl⟩
theorem find_atQ {s:St} {key:Int} {k i:Nat} (h:s.find key=some (k,i)):AtQ s k key:=by
 obtain⟨l,e,h1,h2,h3,_⟩:=find_in h
 exact⟨l,h1,List.mem_map.2 ⟨e,List.mem_of_getElem? h2,h3⟩⟩
theorem find_no {s:St} {key:Int} (h:s.find key=none) (i:Nat):¬AtQ s i key:=by
 rintro⟨l,h1,h2⟩
 obtain⟨e,h3,h4⟩:=List.mem_map.1 h2
 exact whereFrom_no h l (List.mem_of_getElem? h1) e h3 h4
theorem get_set {α:Type} {l:List α} {k j:Nat} {x y:α} (h:(l.set k x)[j]?=some y):(j=k∧k<l.length∧y=x)∨(j≠k∧l[j]?=some y):=by
 rw[List.getElem?_set]at h
 split at h
 ·rename_i e
  split at h
  ·injection h with h
   exact .inl ⟨e.symm,by assumption,h.symm⟩
  ·cases h
 ·rename_i e
  exact .inr ⟨fun e'=>e e'.symm,h⟩
theorem at_set {s:St} {k:Nat} {l l':List Ent} (hk:s.q[k]?=some l) (j:Nat) (x:Int):
  AtQ {s with q:=s.q.set k l'} j x↔(j=k∧x∈l'.map (·.key))∨(j≠k∧AtQ s j x):=by
 have hlt:=(List.getElem?_eq_some_iff.1 hk).1
 constructor
 ·rintro⟨m,h1,h2⟩
  rcases get_set h1 with⟨e,_,rfl⟩|⟨e,h3⟩
  ·exact .inl ⟨e,h2⟩
  ·exact .inr ⟨e,m,h3,h2⟩
 ·rintro(⟨rfl,h⟩|⟨e,m,h1,h2⟩)
  ·exact⟨l',by rw[List.getElem?_set,if_pos rfl,if_pos hlt],h⟩
  ·exact⟨m,by rw[List.getElem?_set_ne (fun e'=>e e'.symm)];exact h1,h2⟩
structure Cons (p:Policy) (key:Int) (s0:St) (r:Run):Prop where
 inv:∃A ns,AInv A ns r.s.q
 si:SInv p r.s
 told:∀(i:Nat) x,resident p.decls (i:Int)=true→AtQ s0 i x→(∃j:Nat,resident p.decls (j:Int)=true∧AtQ r.s j x)∨x∈r.gone
 old:∀j x,AtQ r.s j x→x=key∨∃i,AtQ s0 i x
 nov:∀(j:Nat) x,AtQ r.s j x→(declAt p.decls (j:Int)).kind≠2
theorem mem_erase_keys {l:List Ent} {i:Nat} {x:Int} (h:x∈(l.eraseIdx i).map (·.key)):x∈l.map (·.key):=by
 obtain⟨e,h1,h2⟩:=List.mem_map.1 h
 exact List.mem_map.2 ⟨e,List.mem_of_mem_eraseIdx h1,h2⟩
theorem mem_erase_other {l:List Ent} {i:Nat} {e:Ent} {x:Int} (he:l[i]?=some e) (hx:x∈l.map (·.key)):x=e.key∨x∈(l.eraseIdx i).map (·.key):=by
 obtain⟨y,h1,h2⟩:=List.mem_map.1 hx
 obtain⟨j,hj⟩:=List.getElem?_of_mem h1
 by_cases hij:j=i
 ·subst hij
  rw[he]at hj
  injection hj with hj
  left
  rw[←h2,←hj]
 ·right
  refine List.mem_map.2 ⟨y,?_,h2⟩
  rw[List.mem_eraseIdx_iff_getElem?]
  exact⟨j,hij,hj⟩
theorem out_at {s:St} {k i:Nat} {l:List Ent} {e:Ent} (hk:s.q[k]?=some l) (he:l[i]?=some e) (j:Nat) (x:Int):
  (AtQ (s.out k i) j x→AtQ s j x)∧(AtQ s j x→AtQ (s.out k i) j x∨(j=k∧x=e.key)):=by
 have ho:s.out k i={s with q:=s.q.set k (l.eraseIdx i)}:=by unfold St.out;rw[hk];rfl
 rw[ho]
 constructor
 ·intro h
  rcases(at_set hk j x).1 h with⟨rfl,h1⟩|⟨_,h1⟩
  ·exact⟨l,hk,mem_erase_keys h1⟩
  ·exact h1
 ·intro h
  by_cases hj:j=k
  ·subst hj
   obtain⟨m,h1,h2⟩:=h
   rw[hk]at h1
   injection h1 with h1
   subst h1
   rcases mem_erase_other he h2 with h3|h3
   ·exact .inr ⟨rfl,h3⟩
   ·exact .inl ((at_set hk j x).2 (.inl ⟨rfl,h3⟩))
  ·exact .inl ((at_set hk j x).2 (.inr ⟨hj,h⟩))
theorem comes_at {l:List Decl} {e:Ent} {f t:Int} {tl:Bool} {r r':Run} (h:comes l e f t tl r= .ok r') (ht:Ix r.s.q.length t):
  (∀(j:Nat) x,AtQ r'.s j x↔AtQ r.s j x∨(j=t.toNat∧x=e.key))∧r'.gone=(if resident l t then r.gone else if resident l f then r.gone++[e.key]else r.gone):=by
 obtain⟨h1,h2⟩:=ht
 have hlt:t.toNat<r.s.q.length:=by omega
 have hk:r.s.q[t.toNat]?=some (r.s.queue t):=by unfold St.queue;rw[List.getElem?_eq_getElem hlt];rfl
 unfold comes at h
 split at h
 ·cases h
 ·injection h with h
  have hs:r'.s={r.s with q:=r.s.q.set t.toNat (if tl then r.s.queue t++[e]else e::r.s.queue t)}:=by
   rw[←h]
   split
   ·rfl
   ·unfold Run.leaves
    split<;>rfl
  refine⟨fun j x=>?_,?_⟩
  ·rw[hs,at_set hk]
   have hm:x∈(if tl then r.s.queue t++[e]else e::r.s.queue t).map (·.key)↔x∈(r.s.queue t).map (·.key)∨x=e.key:=by
    split
    ·simp
    ·simp only[List.map_cons,List.mem_cons]
     exact or_comm
   rw[hm]
   constructor
   ·rintro(⟨a,b|b⟩|⟨a,b⟩)
    ·exact .inl ⟨_,a▸hk,b⟩
    ·exact .inr ⟨a,b⟩
    ·exact .inl b
   ·rintro(a|⟨a,b⟩)
    ·by_cases hj:j=t.toNat
     ·obtain⟨m,m1,m2⟩:=a
      rw[hj,hk]at m1
      injection m1 with m1
      subst m1
      exact .inl ⟨hj,.inl m2⟩
     ·exact .inr ⟨hj,a⟩
    ·exact .inl ⟨a,.inr b⟩
  ·rw[←h]
   split
   ·rfl
   ·unfold Run.leaves
    split<;>rfl
theorem setFreq_keys (l:List Ent) (i:Nat) (f:Int):(setFreq l i f).map (·.key)=l.map (·.key):=by
 unfold setFreq
 rw[List.map_set]
 refine List.ext_getElem? fun j=>?_
 rw[List.getElem?_set]
 split
 ·rename_i e
  subst e
  rw[List.getElem?_map]
  split
  ·rename_i h
   rw[List.length_map]at h
   rw[List.getElem?_eq_getElem h]
   simp[entAt,List.getElem?_eq_getElem h]
  ·rename_i h
   rw[List.length_map]at h
   rw[List.getElem?_eq_none (by omega)];rfl
 ·rfl
section
variable {p:Policy} {key:Int} {s0:St} {r r':Run}
theorem freq_at {s:St} {k:Int} (i:Nat) (f:Int) (j:Nat) (x:Int):AtQ (s.setQueue k (setFreq (s.queue k) i f)) j x↔AtQ s j x:=by
 unfold St.setQueue
 by_cases hlt:k.toNat<s.q.length
 ·have hk:s.q[k.toNat]?=some (s.queue k):=by unfold St.queue;rw[List.getElem?_eq_getElem hlt];rfl
  rw[at_set hk,setFreq_keys]
  constructor
  ·rintro(⟨rfl,h⟩|⟨_,h⟩)
   ·exact⟨_,hk,h⟩
   ·exact h
  ·intro h
   by_cases hj:j=k.toNat
   ·obtain⟨m,m1,m2⟩:=h
    rw[hj,hk]at m1
    injection m1 with m1
    subst m1
    exact .inl ⟨hj,m2⟩
   ·exact .inr ⟨hj,h⟩
 ·rw[List.set_eq_of_length_le (by omega)]
theorem Cons.move (h:Cons p key s0 r) {k i:Nat} {l:List Ent} {e:Ent} (hk:r.s.q[k]?=some l) (he:l[i]?=some e)
  (h1:∃A ns,AInv A ns r'.s.q) (h2:SInv p r'.s) (hat:∀(j:Nat) x,AtQ r'.s j x→AtQ (r.s.out k i) j x∨(x=e.key∧(declAt p.decls (j:Int)).kind≠2)) (hat2:∀(j:Nat) x,AtQ (r.s.out k i) j x→AtQ r'.s j x)
  (hg:∀x∈r.gone,x∈r'.gone) (hto:(∃t:Nat,resident p.decls (t:Int)=true∧AtQ r'.s t e.key)∨(resident p.decls (k:Int)=true→e.key∈r'.gone)):Cons p key s0 r':=by
 have hek:AtQ r.s k e.key:=⟨l,hk,List.mem_map.2 ⟨e,List.mem_of_getElem? he,rfl⟩⟩
 obtain⟨A,ns,hA⟩:=h.inv
 refine⟨h1,h2,fun i' x hr hx=>?_,fun j x hx=>?_,fun j x hx=>(hat j x hx).elim (fun h3=>h.nov j x ((out_at hk he j x).1 h3)) (fun h3=>h3.2)⟩
 ·rcases h.told i' x hr hx with⟨j,hj,hx⟩|hx
  ·rcases(out_at hk he j x).2 hx with h3|⟨h3,h4⟩
   ·exact .inl ⟨j,hj,hat2 j x h3⟩
   ·rcases hto with⟨t,ht,h5⟩|h5
    ·exact .inl ⟨t,ht,h4▸h5⟩
    ·exact .inr (h4▸h5 (h3▸hj))
  ·exact .inr (hg x hx)
 ·rcases hat j x hx with h3|h3
  ·exact h.old j x ((out_at hk he j x).1 h3)
  ·rw[h3.1];exact h.old k _ hek
theorem dropLast_out {s:St} {q:Int} (hq:Ix s.q.length q) (hne:s.queue q≠ []):
  ∃l e,s.q[q.toNat]?=some l∧l[l.length-1]?=some e∧lastEnt (s.queue q)=e∧s.setQueue q (s.queue q).dropLast=s.out q.toNat (l.length-1)∧s.queue q=l:=by
 obtain⟨h1,h2⟩:=hq
 have hlt:q.toNat<s.q.length:=by omega
 have hk:s.q[q.toNat]?=some (s.queue q):=by unfold St.queue;rw[List.getElem?_eq_getElem hlt];rfl
 have hl:(s.queue q).length-1<(s.queue q).length:=by
  have:=List.length_pos_iff.2 hne
  omega
 refine⟨s.queue q,_,hk,List.getElem?_eq_getElem hl,?_,?_,rfl⟩
 ·unfold lastEnt entAt
  rw[List.getElem?_eq_getElem hl];rfl
 ·unfold St.setQueue St.out
  rw[hk]
  show({s with q:=s.q.set q.toNat (s.queue q).dropLast}:St)={s with q:=s.q.set q.toNat ((s.queue q).eraseIdx ((s.queue q).length-1))}
  rw[dropLast_eraseIdx]
theorem Cons.step (hp:PolW p) (h:Cons p key s0 r) (x:Prim) (hx:PrimOk p.decls x) (e:prim p key x r= .ok r'):Cons p key s0 r':=by
 obtain⟨A,ns,hA⟩:=h.inv
 have hst:=prim_st hA h.si hp key x hx r.gone
 have er:(⟨r.s,r.gone⟩:Run)=r:=rfl
 rw[er,e]at hst
 obtain⟨A',ns',_,hA',hS'⟩:=hst
 have hinv:∃A ns,AInv A ns r'.s.q:=⟨A',ns',hA'⟩
 have hql:=h.si.q
 have same:(∀j x,AtQ r'.s j x↔AtQ r.s j x)→r'.gone=r.gone→Cons p key s0 r':=fun h1 h2=>
  ⟨hinv,hS',fun i y hr hy=>(h.told i y hr hy).imp (fun⟨j,a,b⟩=>⟨j,a,(h1 j y).2 b⟩) (fun hg=>h2▸hg),fun j y hy=>h.old j y ((h1 j y).1 hy),fun j y hy=>h.nov j y ((h1 j y).1 hy)⟩
 cases x with
 |inc v=>
  simp only[prim]at e
  injection e with e
  refine same (fun j y=>?_) ?_
  ·rw[←e];split<;>exact Iff.rfl
  ·rw[←e];split<;>rfl
 |dec v=>
  simp only[prim]at e
  injection e with e
  refine same (fun j y=>?_) ?_
  ·rw[←e];split<;>exact Iff.rfl
  ·rw[←e];split<;>rfl
 |bump=>
  simp only[prim]at e
  split at e
  ·injection e with e
   refine same (fun j y=>?_) ?_
   ·rw[←e]
    split
    ·exact freq_at _ _ _ _
    ·exact Iff.rfl
   ·rw[←e];split<;>rfl
  ·injection e with e
   exact same (fun j y=>by rw[←e]) (by rw[←e])
 |cool q=>
  simp only[prim]at e
  split at e
  ·cases e
  ·injection e with e
   refine same (fun j y=>?_) ?_
   ·rw[←e]
    split
    ·exact freq_at _ _ _ _
    ·exact Iff.rfl
   ·rw[←e];split<;>rfl
 |evict q=>
  simp only[prim]at e
  split at e
  ·cases e
  ·rename_i hne
   injection e with e
   obtain⟨l,en,h1,h2,h3,h4,_⟩:=dropLast_out (by rw[hql];exact hx) hne
   have hq:((q.toNat:Nat):Int)=q:=by have:=hx.1;omega
   rw[h3,h4,leaves_eq]at e
   refine h.move h1 h2 hinv hS' (fun j y hy=>.inl (by rw[←e]at hy;exact hy)) (fun j y hy=>by rw[←e];exact hy) (fun y hy=>?_) (.inr (fun hr=>?_))
   ·rw[←e]
    show y∈(if _ then _ else _)
    split
    ·exact List.mem_append_left _ hy
    ·exact hy
   ·rw[←e]
    show en.key∈(if _ then _ else _)
    rw[hq]at hr
    rw[if_pos hr]
    simp
 |drop=>
  simp only[prim]at e
  split at e
  ·rename_i k i hf
   injection e with e
   obtain⟨l,en,h1,h2,h3,_,_⟩:=find_in hf
   rw[leaves_eq]at e
   refine h.move h1 h2 hinv hS' (fun j y hy=>.inl (by rw[←e]at hy;exact hy)) (fun j y hy=>by rw[←e];exact hy) (fun y hy=>?_) (.inr (fun hr=>?_))
   ·rw[←e]
    show y∈(if _ then _ else _)
    split
    ·exact List.mem_append_left _ hy
    ·exact hy
   ·rw[←e,h3]
    show key∈(if _ then _ else _)
    rw[if_pos hr]
    simp
  ·injection e with e
   exact same (fun j y=>by rw[←e]) (by rw[←e])
 |put q tl=>
  simp only[prim]at e
  split at e
  ·rename_i k i hf
   obtain⟨l,en,h1,h2,h3,_,h5⟩:=find_in hf
   rw[h5]at e
   have hlen:(r.s.out k i).q.length=r.s.q.length:=by simp[St.out]
   obtain⟨a,b⟩:=comes_at e (by show Ix (r.s.out k i).q.length q;rw[hlen,hql];exact hx.1)
   have hq:((q.toNat:Nat):Int)=q:=by have:=hx.1.1;omega
   refine h.move h1 h2 hinv hS' (fun j y hy=>((a j y).1 hy).imp id (fun h=>⟨h.2,by rw[h.1];rw[hq];exact hx.2⟩)) (fun j y hy=>(a j y).2 (.inl hy)) (fun y hy=>?_) ?_
   ·rw[b]
    split
    ·exact hy
    ·split
     ·exact List.mem_append_left _ hy
     ·exact hy
   ·cases hr:resident p.decls q with
    |true=>exact .inl ⟨q.toNat,by rw[hq];exact hr,(a _ _).2 (.inr ⟨rfl,rfl⟩)⟩
    |false=>exact .inr (fun hk=>by rw[b,hr,hk];simp)
  ·rename_i hf
   obtain⟨a,b⟩:=comes_at e (by rw[hql];exact hx.1)
   have hnr:resident p.decls (-1)=false:=rfl
   refine⟨hinv,hS',fun i y hr hy=>(h.told i y hr hy).imp (fun⟨j,c,d⟩=>⟨j,c,(a j y).2 (.inl d)⟩) (fun hg=>?_),fun j y hy=>?_,fun j y hy=>?_⟩
   ·rw[b,hnr]
    split<;>exact hg
   ·rcases(a j y).1 hy with h1|⟨_,h1⟩
    ·exact h.old j y h1
    ·exact .inl h1
   ·rcases(a j y).1 hy with h1|⟨h1,_⟩
    ·exact h.nov j y h1
    ·have hq:((q.toNat:Nat):Int)=q:=by have:=hx.1.1;omega
     rw[h1,hq];exact hx.2
 |shift q t tl=>
  simp only[prim]at e
  split at e
  ·cases e
  ·rename_i hne
   obtain⟨l,en,h1,h2,h3,h4,_⟩:=dropLast_out (by rw[hql];exact hx.1) hne
   have hq:((q.toNat:Nat):Int)=q:=by have:=hx.1.1;omega
   have ht:((t.toNat:Nat):Int)=t:=by have:=hx.2.1.1;omega
   rw[h3,h4]at e
   have hlen:(r.s.out q.toNat (l.length-1)).q.length=r.s.q.length:=by simp[St.out]
   obtain⟨a,b⟩:=comes_at e (by show Ix (r.s.out q.toNat (l.length-1)).q.length t;rw[hlen,hql];exact hx.2.1)
   refine h.move h1 h2 hinv hS' (fun j y hy=>((a j y).1 hy).imp id (fun h=>⟨h.2,by rw[h.1];rw[ht];exact hx.2.2⟩)) (fun j y hy=>(a j y).2 (.inl hy)) (fun y hy=>?_) ?_
   ·rw[b]
    split
    ·exact hy
    ·split
     ·exact List.mem_append_left _ hy
     ·exact hy
   ·cases hr:resident p.decls t with
    |true=>exact .inl ⟨t.toNat,by rw[ht];exact hr,(a _ _).2 (.inr ⟨rfl,rfl⟩)⟩
    |false=>exact .inr (fun hk=>by rw[hq]at hk;rw[b,hr,hk];simp)
theorem exec_cons (hp:PolW p) {A:Arena} {ns:List (List Nat)} {s:St} (hA:AInv A ns s.q) (hS:SInv p s) {b:Blk} (hV:∀(j:Nat) x,AtQ s j x→(declAt p.decls (j:Int)).kind≠2) (hb:BlkOk p.decls b) (e:exec p key b ⟨s,[]⟩= .ok r'):Cons p key s r':=
 exec_keeps (Cons p key s) (fun x r r' hx h e=>h.step hp x hx e) b ⟨s,[]⟩ r' hb ⟨⟨A,ns,hA⟩,hS,fun i x hr hx=>.inl ⟨i,hr,hx⟩,fun j x hx=>.inr ⟨j,hx⟩,hV⟩ e
end
end Go.Proofs.YtepoejiigmhlbaaGreatDoor.Ev
namespace Go.Proofs.YtepoejiigmhlbaaGreatDoor.Ev
theorem low_ne {c:UInt8} (h:low c=true):blank c=false:=by
 unfold low at h
 unfold blank
 simp only[Bool.and_eq_true,decide_eq_true_eq,UInt8.le_iff_toNat_le]at h
 rw[Bool.or_eq_false_iff,beq_eq_false_iff_ne,beq_eq_false_iff_ne]
 exact⟨by rintro rfl;simp at h,by rintro rfl;simp at h⟩
theorem fig_ne {c:UInt8} (h:fig c=true):blank c=false∧low c=false:=by
 unfold fig at h
 simp only[Bool.and_eq_true,decide_eq_true_eq,UInt8.le_iff_toNat_le]at h
 constructor
 ·unfold blank
  rw[Bool.or_eq_false_iff,beq_eq_false_iff_ne,beq_eq_false_iff_ne]
  exact⟨by rintro rfl;simp at h,by rintro rfl;simp at h⟩
 ·unfold low
  rw[Bool.and_eq_false_iff]
  left
  simp only[decide_eq_false_iff_not,UInt8.le_iff_toNat_le]
  simp at h ⊢
  omega
theorem digitsNat_one {n:Nat} (h:n<10):digitsNat n=[UInt8.ofNat (48+n)]:=by rw[digitsNat,if_pos h]
theorem digitsNat_more {n:Nat} (h:¬n<10):digitsNat n=digitsNat (n/10)++[UInt8.ofNat (48+n%10)]:=by rw[digitsNat,if_neg h]
theorem fig_ofNat {n:Nat} (h:n<10):fig (UInt8.ofNat (48+n))=true∧(UInt8.ofNat (48+n)).toNat=48+n:=by
 have e:(UInt8.ofNat (48+n)).toNat=48+n:=by simp;omega
 refine⟨?_,e⟩
 unfold fig
 simp only[Bool.and_eq_true,decide_eq_true_eq,UInt8.le_iff_toNat_le,e]
 exact⟨by simp,by simp;omega⟩
theorem digitsNat_ok:∀(k n:Nat),n<10^(k+1)→digitsNat n≠ []∧(digitsNat n).length≤k+1∧(∀c∈digitsNat n,fig c=true)∧atoi (digitsNat n)=n:=by
 intro k
 induction k with
 |zero=>
  intro n h
  have h':n<10:=by simpa using h
  rw[digitsNat_one h']
  refine⟨by simp,by simp,fun c hc=>?_,?_⟩
  ·simp only[List.mem_singleton]at hc;subst hc;exact(fig_ofNat h').1
  ·unfold atoi
   simp only[List.foldl_cons,List.foldl_nil,(fig_ofNat h').2]
   omega
 |succ k ih=>
  intro n h
  by_cases h10:n<10
  ·rw[digitsNat_one h10]
   refine⟨by simp,by simp,fun c hc=>?_,?_⟩
   ·simp only[List.mem_singleton]at hc;subst hc;exact(fig_ofNat h10).1
   ·unfold atoi
    simp only[List.foldl_cons,List.foldl_nil,(fig_ofNat h10).2]
    omega
  ·have h1:n/10<10^(k+1):=by
    rw[Nat.div_lt_iff_lt_mul (by omega)]
    have e:10^(k+1+1)=10^(k+1)*10:=Nat.pow_succ _ _
    omega
   obtain⟨a,b,c,d⟩:=ih (n/10) h1
   have hm:n%10<10:=Nat.mod_lt _ (by omega)
   rw[digitsNat_more h10]
   refine⟨by simp,by simp;omega,fun x hx=>?_,?_⟩
   ·rcases List.mem_append.1 hx with hx|hx
    ·exact c x hx
    ·simp only[List.mem_singleton]at hx;subst hx;exact(fig_ofNat hm).1
   ·unfold atoi at d ⊢
    rw[List.foldl_append,d]
    simp only[List.foldl_cons,List.foldl_nil,(fig_ofNat hm).2]
    omega
theorem digits_ok {n:Int} (h0:0≤n) (h:n≤999):digits n≠ []∧(digits n).length≤3∧(∀c∈digits n,fig c=true)∧atoi (digits n)=n:=by
 obtain⟨a,b,c,d⟩:=digitsNat_ok 2 n.toNat (by omega)
 exact⟨a,b,c,by unfold digits;rw[d];omega⟩
end Go.Proofs.YtepoejiigmhlbaaGreatDoor.Ev
namespace Go.Proofs.YtepoejiigmhlbaaGreatDoor.Ev
abbrev T2:=Bytes×Bytes
def tk (w:Bytes):T2:=(w,w)
section
variable {l:List Decl} (hl:DeclsW l)
include hl
end
end Go.Proofs.YtepoejiigmhlbaaGreatDoor.Ev
namespace Go.Proofs.YtepoejiigmhlbaaGreatDoor.Ev
section
variable {s:Bytes} {st:PS} {t2:T2} {ts:List T2} {d:Bytes}
theorem find_at {l:List Decl} (hn:(l.map (·.name)).Nodup) {k:Nat} {x:Decl} (hk:l[k]?=some x):find l x.name=(k:Int):=by
 have:∀(l:List Decl) (j k:Nat),(l.map (·.name)).Nodup→l[k]?=some x→findFrom x.name l j=((j+k:Nat):Int):=by
  intro l
  induction l with
  |nil=>intro j k _ h;simp at h
  |cons y l ih=>
   intro j k hn hk
   have hn':=List.nodup_cons.1 hn
   cases k with
   |zero=>simp at hk;subst hk;rw[findFrom,if_pos rfl];rfl
   |succ k=>
    have hk':l[k]?=some x:=by simpa using hk
    have hne:y.name≠x.name:=by
     intro e
     refine hn'.1 ?_
     show y.name∈_
     rw[e]
     exact List.mem_map.2 ⟨x,List.mem_of_getElem? hk',rfl⟩
    rw[findFrom,if_neg hne,ih (j+1) k hn'.2 hk']
    congr 1;omega
 have:=this l 0 k hn hk
 unfold find
 rw[this]
 simp
end
end Go.Proofs.YtepoejiigmhlbaaGreatDoor.Ev
namespace Go.Proofs.YtepoejiigmhlbaaGreatDoor.Ev
def alnum (c:UInt8):Bool:=low c||fig c
def addIf (k last w:Bytes) (q:List Bytes):List Bytes:=if last=k then q++[w]else q
def nm:Bytes→Bytes→Bytes→List Bytes→List Bytes→List Bytes×List Bytes
 | [],cur,last,q,g=>if cur=[]then(q,g)else(addIf kQueue last cur q,addIf kGhost last cur g)
 |c::r,cur,last,q,g=>
  if alnum c then nm r (cur++[c]) last q g
  else if cur=[]then nm r [] last q g
  else if cur=kOn then(addIf kQueue last cur q,addIf kGhost last cur g)
  else nm r [] cur (addIf kQueue last cur q) (addIf kGhost last cur g)
theorem nm_word:∀(w d cur last:Bytes) (q g:List Bytes),(∀c∈w,alnum c=true)→nm (w++d) cur last q g=nm d (cur++w) last q g
 | [],d,cur,last,q,g,_=>by rw[List.nil_append,List.append_nil]
 |c::w,d,cur,last,q,g,h=>by
  rw[List.cons_append,nm,if_pos (h c (List.mem_cons_self ..)),nm_word w d _ last q g (fun x hx=>h x (List.mem_cons_of_mem _ hx)),List.append_assoc]
  rfl
theorem nm_end {w:Bytes} (h1:w≠ []) (hw:∀c∈w,alnum c=true) {x:UInt8} (hx:alnum x=false) (d last:Bytes) (q g:List Bytes) (hon:w≠kOn):
  nm (w++x::d) [] last q g=nm d [] w (addIf kQueue last w q) (addIf kGhost last w g):=by
 rw[nm_word w _ _ _ _ _ hw,List.nil_append,nm,if_neg (by rw[hx];decide),if_neg h1,if_neg hon]
theorem nm_skip {x:UInt8} (hx:alnum x=false) (d last:Bytes) (q g:List Bytes):nm (x::d) [] last q g=nm d [] last q g:=by
 rw[nm,if_neg (by rw[hx];decide),if_pos rfl]
theorem alnum_low {w:Bytes} (h:∀c∈w,low c=true):∀c∈w,alnum c=true:=fun c hc=>by unfold alnum;rw[h c hc];rfl
theorem alnum_fig {w:Bytes} (h:∀c∈w,fig c=true):∀c∈w,alnum c=true:=fun c hc=>by unfold alnum;rw[h c hc];simp
theorem fig_low {c:UInt8} (h:fig c=true):low c=false:=(fig_ne h).2
theorem digits_ne {n:Int} (h0:0≤n) (h:n≤999) {k:Bytes} (hk:∃c r,k=c::r∧low c=true):digits n≠k:=by
 obtain⟨a,_,c,_⟩:=digits_ok h0 h
 obtain⟨x,r,rfl,hx⟩:=hk
 intro e
 have:fig x=true:=c x (by rw[e];exact List.mem_cons_self ..)
 rw[fig_low this]at hx
 cases hx
theorem name_ne {w:Bytes} (h:NameT w):w≠kQueue∧w≠kGhost∧w≠kOn∧w≠ []:=by
 obtain⟨h1,_,_,h4⟩:=h
 refine⟨fun e=>h4 (e▸by decide),fun e=>h4 (e▸by decide),fun e=>h4 (e▸by decide),fun e=>?_⟩
 rw[e]at h1;simp at h1
def declQ (l:List Decl) (k:Nat):List Bytes:=(l.filter (fun d=>d.kind==k)).map (·.name)
theorem nm_decl {d:Decl} (hd:DeclW d) (rest last:Bytes) (hl:last≠kQueue∧last≠kGhost) (q g:List Bytes):
  nm (showDecl d++rest) [] last q g=nm rest [] (digits d.max) (q++declQ [d] 0) (g++declQ [d] 1):=by
 have hn:=name_ne hd.name
 have hlow:=alnum_low hd.name.2.2.1
 have hmax:d.max≤999:=by have:=hd.hi;split at this<;>omega
 have hdg:=digits_ok (n:=d.max) (by have:=hd.lo;omega) hmax
 have hon:digits d.max≠kOn:=digits_ne (by have:=hd.lo;omega) hmax ⟨_,_,rfl,rfl⟩
 have e:showDecl d++rest=kindWord d.kind++32::(d.name++32::(digits d.max++59::10::rest)):=by
  unfold showDecl bSp;simp
 rw[e]
 have hk:d.kind=0∨d.kind=1∨d.kind=2:=by have:=hd.kind;omega
 have hkw:kindWord d.kind≠ []∧kindWord d.kind≠kOn∧∀c∈kindWord d.kind,alnum c=true:=by
  rcases hk with h|h|h<;>rw[h]<;>exact⟨by decide,by decide,by decide⟩
 rw[nm_end hkw.1 hkw.2.2 (by decide) _ _ _ _ hkw.2.1,nm_end hn.2.2.2 hlow (by decide) _ _ _ _ hn.2.2.1,nm_end hdg.1 (alnum_fig hdg.2.2.1) (by decide) _ _ _ _ hon,nm_skip (by decide)]
 have a1:addIf kQueue last (kindWord d.kind) q=q:=if_neg hl.1
 have a2:addIf kGhost last (kindWord d.kind) g=g:=if_neg hl.2
 have a3:∀y,addIf kQueue d.name (digits d.max) y=y:=fun y=>if_neg hn.1
 have a4:∀y,addIf kGhost d.name (digits d.max) y=y:=fun y=>if_neg hn.2.1
 rw[a1,a2,a3,a4]
 have b1:addIf kQueue (kindWord d.kind) d.name q=q++declQ [d] 0:=by
  rcases hk with h|h|h<;>simp[addIf,declQ,h,kindWord]
 have b2:addIf kGhost (kindWord d.kind) d.name g=g++declQ [d] 1:=by
  rcases hk with h|h|h<;>simp[addIf,declQ,h,kindWord]
 rw[b1,b2]
theorem declQ_cons (d:Decl) (l:List Decl) (k:Nat):declQ (d::l) k=declQ [d] k++declQ l k:=by
 unfold declQ
 rw[←List.map_append,←List.filter_append]
 rfl
theorem nm_decls:∀(l:List Decl),(∀d∈l,DeclW d)→∀(rest last:Bytes) (q g:List Bytes),last≠kQueue∧last≠kGhost→
  ∃last',last'≠kQueue∧last'≠kGhost∧nm ((l.map showDecl).flatten++rest) [] last q g=nm rest [] last' (q++declQ l 0) (g++declQ l 1)
 | [],_,rest,last,q,g,hl=>⟨last,hl.1,hl.2,by simp[declQ]⟩
 |d::l,h,rest,last,q,g,hl=>by
  have hd:=h d (List.mem_cons_self ..)
  have hmax:d.max≤999:=by have:=hd.hi;split at this<;>omega
  have h0:0≤d.max:=by have:=hd.lo;omega
  obtain⟨last',a,b,c⟩:=nm_decls l (fun x hx=>h x (List.mem_cons_of_mem _ hx)) rest (digits d.max) (q++declQ [d] 0) (g++declQ [d] 1) ⟨digits_ne h0 hmax ⟨_,_,rfl,rfl⟩,digits_ne h0 hmax ⟨_,_,rfl,rfl⟩⟩
  refine⟨last',a,b,?_⟩
  rw[List.map_cons,List.flatten_cons,List.append_assoc,nm_decl hd _ _ hl,c,declQ_cons d l 0,declQ_cons d l 1,List.append_assoc,List.append_assoc]
theorem nm_on (rest last:Bytes) (q g:List Bytes) (hl:last≠kQueue∧last≠kGhost):nm (kOn++32::rest) [] last q g=(q,g):=by
 rw[nm_word kOn _ _ _ _ _ (by decide),List.nil_append,nm,if_neg (by decide),if_neg (by decide),if_pos rfl]
 unfold addIf
 rw[if_neg hl.1,if_neg hl.2]
theorem nm_text {p:Policy} (hp:PolW p):nm (text p) [] [] [] []=(declQ p.decls 0,declQ p.decls 1):=by
 have hrest:∃r,showRules p p.decls.length++showMiss p=kOn++32::r:=by
  have:∀n,∃r,showRules p n++showMiss p=kOn++32::r:=by
   intro n
   induction n with
   |zero=>exact⟨_,rfl⟩
   |succ n ih=>
    obtain⟨r,hr⟩:=ih
    show∃r,(showRules p n++showRule p n)++showMiss p=_
    cases hx:showRules p n with
    |nil=>
     rw[List.nil_append]
     unfold showRule
     cases ruleOf p.rules (n:Int)with
     |none=>exact⟨_,rfl⟩
     |some b=>exact⟨_,rfl⟩
    |cons a b=>
     rw[hx]at hr
     injection hr with h1 h2
     cases b with
     |nil=>unfold showMiss at h2;exact absurd h2 (by simp)
     |cons a2 b2=>
      injection h2 with h3 h4
      cases b2 with
      |nil=>unfold showMiss at h4;exact absurd h4 (by simp)
      |cons a3 b3=>
       injection h4 with h5 h6
       exact⟨_,by rw[h1,h3,h5];rfl⟩
  exact this _
 obtain⟨r,hr⟩:=hrest
 have e:text p=(p.decls.map showDecl).flatten++(showFreq p.freq++(kOn++32::r)):=by
  unfold text
  rw[List.append_assoc,List.append_assoc,hr]
 rw[e]
 obtain⟨last,a,b,c⟩:=nm_decls p.decls hp.decls.each (showFreq p.freq++(kOn++32::r)) [] [] [] ⟨by decide,by decide⟩
 rw[c,List.nil_append,List.nil_append]
 unfold showFreq
 have hf:=hp.freq
 split
 ·have hdg:=digits_ok (n:=p.freq) (by omega) (by omega)
  have e2:(kFreq++bSp++digits p.freq++[59,10])++(kOn++32::r)=kFreq++32::(digits p.freq++59::10::(kOn++32::r)):=by
   unfold bSp;simp
  rw[e2,nm_end (by decide) (by decide) (by decide) _ _ _ _ (by decide),nm_end hdg.1 (alnum_fig hdg.2.2.1) (by decide) _ _ _ _ (digits_ne (by omega) (by omega) ⟨_,_,rfl,rfl⟩),nm_skip (by decide)]
  rw[nm_on _ _ _ _ ⟨digits_ne (by omega) (by omega) ⟨_,_,rfl,rfl⟩,digits_ne (by omega) (by omega) ⟨_,_,rfl,rfl⟩⟩]
  have a1:∀y x,addIf kQueue last y x=x:=fun y x=>if_neg a
  have a2:∀y x,addIf kGhost last y x=x:=fun y x=>if_neg b
  rw[a1,a2]
  rfl
 ·rw[List.nil_append,nm_on _ _ _ _ ⟨a,b⟩]
end Go.Proofs.YtepoejiigmhlbaaGreatDoor.Ev
namespace Go.Proofs.YtepoejiigmhlbaaGreatDoor.Ev
structure EInv (p:Policy) (s:St):Prop where
 si:SInv p s
 nov:∀(j:Nat) x,AtQ s j x→(declAt p.decls (j:Int)).kind≠2
 inv:∃A ns,AInv A ns s.q
def everyP (e:Eng) (l:List Bytes):List Int:=l.flatMap fun n=>(e.keys n).getD []
theorem declAt_some {l:List Decl} {i:Nat} {d:Decl} (h:l[i]?=some d):declAt l (i:Int)=d:=by
 unfold declAt;rw[Int.toNat_natCast,h];rfl
section
variable {p:Policy} {s:St} {c:Cnt}
theorem EInv.keys_at (hp:PolW p) (h:EInv p s) {i:Nat} {d:Decl} (hd:p.decls[i]?=some d) (hk:d.kind≠2):
  (⟨p,s,c⟩:Eng).keys d.name=some ((s.queue (i:Int)).map (·.key))∧(s.queue (i:Int)).length≤50:=by
 have hf:=find_at hp.decls.nodup hd
 refine⟨?_,?_⟩
 ·unfold Eng.keys
  simp only[hf]
  rw[if_neg]
  rintro(h1|h1)
  ·omega
  ·rw[declAt_some hd]at h1;exact hk h1
 ·obtain⟨A,ns,hA⟩:=h.inv
  unfold St.queue
  rw[Int.toNat_natCast]
  cases hq:s.q[i]? with
  |none=>simp
  |some l=>
   simp only[Option.getD_some]
   rw[hA.ent,List.getElem?_map]at hq
   cases hn:ns[i]? with
   |none=>rw[hn]at hq;cases hq
   |some m=>
    rw[hn]at hq
    injection hq with hq
    rw[←hq,List.length_map]
    exact hA.fifty i m hn
theorem mem_declQ {l:List Decl} {k:Nat} {n:Bytes}:n∈declQ l k↔∃(i:Nat) (d:Decl),l[i]?=some d∧d.kind=k∧d.name=n:=by
 unfold declQ
 constructor
 ·intro h
  obtain⟨d,h1,h2⟩:=List.mem_map.1 h
  obtain⟨h3,h4⟩:=List.mem_filter.1 h1
  obtain⟨i,hi⟩:=List.getElem?_of_mem h3
  exact⟨i,d,hi,by simpa using h4,h2⟩
 ·rintro⟨i,d,h1,h2,h3⟩
  exact List.mem_map.2 ⟨d,List.mem_filter.2 ⟨List.mem_of_getElem? h1,by simpa using h2⟩,h3⟩
theorem atQ_queue {i:Nat} {x:Int}:AtQ s i x↔x∈(s.queue (i:Int)).map (·.key):=by
 unfold AtQ St.queue
 rw[Int.toNat_natCast]
 constructor
 ·rintro⟨l,h1,h2⟩
  rw[h1];exact h2
 ·intro h
  cases hq:s.q[i]? with
  |none=>rw[hq]at h;simp at h
  |some l=>rw[hq]at h;exact⟨l,rfl,h⟩
theorem mem_every (hp:PolW p) (h:EInv p s) {k:Nat} (hk:k≠2) (x:Int):x∈everyP ⟨p,s,c⟩ (declQ p.decls k)↔∃(i:Nat) (d:Decl),p.decls[i]?=some d∧d.kind=k∧AtQ s i x:=by
 unfold everyP
 rw[List.mem_flatMap]
 constructor
 ·rintro⟨n,h1,h2⟩
  obtain⟨i,d,a,b,rfl⟩:=mem_declQ.1 h1
  rw[(h.keys_at hp a (by rw[b];exact hk)).1]at h2
  exact⟨i,d,a,b,atQ_queue.2 h2⟩
 ·rintro⟨i,d,a,b,h2⟩
  refine⟨d.name,mem_declQ.2 ⟨i,d,a,b,rfl⟩,?_⟩
  rw[(h.keys_at hp a (by rw[b];exact hk)).1]
  exact atQ_queue.1 h2
theorem at_once {α:Type} {l:List α} (h:l.Nodup) {i j:Nat} {x:α} (hi:l[i]?=some x) (hj:l[j]?=some x):i=j:=by
 obtain⟨h1,e1⟩:=List.getElem?_eq_some_iff.1 hi
 obtain⟨h2,e2⟩:=List.getElem?_eq_some_iff.1 hj
 exact(List.getElem_inj h).1 (e1.trans e2.symm)
theorem every_bound (hp:PolW p) (h:EInv p s) {k:Nat} (hk:k≠2) {n:Bytes} (hn:n∈declQ p.decls k):∃l,(⟨p,s,c⟩:Eng).keys n=some l∧l.length≤50:=by
 obtain⟨i,d,a,b,rfl⟩:=mem_declQ.1 hn
 obtain⟨h1,h2⟩:=h.keys_at (c:=c) hp a (by rw[b];exact hk)
 exact⟨_,h1,by rw[List.length_map];exact h2⟩
theorem EInv.once (h:EInv p s):Once s:=by
 obtain⟨A,ns,hA⟩:=h.inv
 exact hA.once
theorem nodup_flat {α:Type} {f:α→List Int}:∀{l:List α},l.Pairwise (fun a b=>∀x∈f a,x∉f b)→(∀a∈l,(f a).Nodup)→(l.flatMap f).Nodup
 | [],_,_=>List.nodup_nil
 |a::l,h,hn=>by
  rw[List.flatMap_cons,List.nodup_append]
  obtain⟨h1,h2⟩:=List.pairwise_cons.1 h
  refine⟨hn a (List.mem_cons_self ..),nodup_flat h2 (fun b hb=>hn b (List.mem_cons_of_mem _ hb)),fun x hx y hy e=>?_⟩
  obtain⟨b,hb,hy⟩:=List.mem_flatMap.1 hy
  exact h1 b hb x hx (e▸hy)
theorem every_nodup (hp:PolW p) (h:EInv p s) {k:Nat} (hk:k≠2):(everyP ⟨p,s,c⟩ (declQ p.decls k)).Nodup:=by
 have ho:=h.once
 unfold everyP
 refine nodup_flat ?_ ?_
 ·have hn:(declQ p.decls k).Nodup:=by
   unfold declQ
   exact hp.decls.nodup.sublist ((List.filter_sublist).map _)
  refine List.Pairwise.imp_of_mem ?_ hn
  intro a b ha hb hne x hx hy
  obtain⟨i,d,a1,a2,rfl⟩:=mem_declQ.1 ha
  obtain⟨j,d',b1,b2,rfl⟩:=mem_declQ.1 hb
  rw[(h.keys_at hp a1 (by rw[a2];exact hk)).1]at hx
  rw[(h.keys_at hp b1 (by rw[b2];exact hk)).1]at hy
  have:=ho.one i j x (atQ_queue.2 hx) (atQ_queue.2 hy)
  subst this
  rw[a1]at b1
  injection b1 with b1
  exact hne (by rw[b1])
 ·intro n hn
  obtain⟨i,d,a1,a2,rfl⟩:=mem_declQ.1 hn
  rw[(h.keys_at hp a1 (by rw[a2];exact hk)).1]
  show((s.queue (i:Int)).map (·.key)).Nodup
  unfold St.queue
  rw[Int.toNat_natCast]
  cases hq:s.q[i]? with
  |none=>simp
  |some l=>exact ho.nd i l hq
def wholeP (e:Eng):List Int:=everyP e (declQ e.p.decls 0)++everyP e (declQ e.p.decls 1)
theorem whole_nodup (hp:PolW p) (h:EInv p s):(wholeP ⟨p,s,c⟩).Nodup:=by
 unfold wholeP
 rw[List.nodup_append]
 refine⟨every_nodup hp h (by decide),every_nodup hp h (by decide),fun x hx y hy e=>?_⟩
 subst e
 obtain⟨i,d,a1,a2,a3⟩:=(mem_every hp h (by decide) x).1 hx
 obtain⟨j,d',b1,b2,b3⟩:=(mem_every hp h (by decide) x).1 hy
 have:=h.once.one i j x a3 b3
 subst this
 rw[a1]at b1
 injection b1 with b1
 rw[b1,b2]at a2
 cases a2
theorem res_iff {l:List Decl} {i:Nat} {d:Decl} (hd:l[i]?=some d):resident l (i:Int)=true↔d.kind=0:=by
 unfold resident
 rw[declAt_some hd]
 simp
theorem AtQ.decl (h:EInv p s) {i:Nat} {x:Int} (hx:AtQ s i x):∃d,p.decls[i]?=some d:=by
 obtain⟨l,h1,_⟩:=hx
 have:=(List.getElem?_eq_some_iff.1 h1).1
 rw[h.si.q]at this
 exact⟨_,List.getElem?_eq_getElem this⟩
theorem mem_whole (hp:PolW p) (h:EInv p s) (x:Int):x∈wholeP ⟨p,s,c⟩↔∃i,AtQ s i x:=by
 unfold wholeP
 rw[List.mem_append,mem_every hp h (by decide),mem_every hp h (by decide)]
 constructor
 ·rintro(⟨i,_,_,_,h1⟩|⟨i,_,_,_,h1⟩)<;>exact⟨i,h1⟩
 ·rintro⟨i,h1⟩
  obtain⟨d,hd⟩:=h1.decl h
  have hk:=(hp.decls.each d (List.mem_of_getElem? hd)).kind
  have hn:=h.nov i x h1
  rw[declAt_some hd]at hn
  have:d.kind=0∨d.kind=1:=by omega
  rcases this with h2|h2
  ·exact .inl ⟨i,d,hd,h2,h1⟩
  ·exact .inr ⟨i,d,hd,h2,h1⟩
theorem where_at {key:Int}:(whereQ s key= -1∧∀i,¬AtQ s i key)∨∃i:Nat,whereQ s key=(i:Int)∧AtQ s i key:=by
 unfold whereQ
 cases hf:s.find key with
 |none=>exact .inl ⟨rfl,find_no hf⟩
 |some x=>
  obtain⟨k,i⟩:=x
  exact .inr ⟨k,rfl,find_atQ hf⟩
theorem hit_iff (hp:PolW p) (h:EInv p s) (key:Int):resident p.decls (whereQ s key)=true↔key∈everyP ⟨p,s,c⟩ (declQ p.decls 0):=by
 rw[mem_every hp h (by decide)]
 rcases where_at (s:=s) (key:=key)with⟨h1,h2⟩|⟨i,h1,h2⟩
 ·rw[h1]
  constructor
  ·intro h3;cases h3
  ·rintro⟨i,_,_,_,h3⟩;exact absurd h3 (h2 i)
 ·obtain⟨d,hd⟩:=h2.decl h
  rw[h1,res_iff hd]
  constructor
  ·intro h3;exact⟨i,d,hd,h3,h2⟩
  ·rintro⟨j,d',h3,h4,h5⟩
   have:=h.once.one i j key h2 h5
   subst this
   rw[hd]at h3
   injection h3 with h3
   rw[h3];exact h4
theorem rule_blk (hp:PolW p) (k:Int):BlkOk p.decls (ruleFor p k):=by
 unfold ruleFor
 cases h:ruleOf p.rules k with
 |none=>exact trivial
 |some b=>exact rule_ok hp h
theorem access_cons (hp:PolW p) (h:EInv p s) {key:Int} {hit:Bool} {gone:List Int} {e':Eng} (ha:(⟨p,s,c⟩:Eng).access key= .ok hit gone e'):
  e'.p=p∧EInv p e'.s∧hit=resident p.decls (whereQ s key)∧e'.n=cntUp c hit gone.length∧
  (∀k∈everyP ⟨p,s,c⟩ (declQ p.decls 0),k∈everyP e' (declQ p.decls 0)∨k∈gone)∧
  (∀k∈everyP e' (declQ p.decls 0),k∈everyP ⟨p,s,c⟩ (declQ p.decls 0)∨k=key∨k∈everyP ⟨p,s,c⟩ (declQ p.decls 1)):=by
 unfold Eng.access at ha
 simp only at ha
 split at ha
 ·cases ha
 ·rename_i r hr
  injection ha with h1 h2 h3
  obtain⟨A,ns,hA⟩:=h.inv
  have hc:=exec_cons hp hA h.si h.nov (rule_blk hp _) hr
  have he:EInv p r.s:=⟨hc.si,hc.nov,hc.inv⟩
  subst h3
  refine⟨rfl,he,h1.symm,?_,?_,?_⟩
  ·rw[←h1,←h2];rfl
  ·intro k hk
   obtain⟨i,d,a1,a2,a3⟩:=(mem_every hp h (by decide) k).1 hk
   rcases hc.told i k ((res_iff a1).2 a2) a3 with⟨j,b1,b2⟩|b
   ·left
    obtain⟨d',hd'⟩:=b2.decl he
    exact(mem_every hp he (by decide) k).2 ⟨j,d',hd',(res_iff hd').1 b1,b2⟩
   ·right;rw[←h2];exact b
  ·intro k hk
   obtain⟨j,d',b1,b2,b3⟩:=(mem_every hp he (by decide) k).1 hk
   rcases hc.old j k b3 with rfl|⟨i,a⟩
   ·exact .inr (.inl rfl)
   ·have:=(mem_whole (c:=c) hp h k).2 ⟨i,a⟩
    rcases List.mem_append.1 this with h5|h5
    ·exact .inl h5
    ·exact .inr (.inr h5)
theorem remove_cons (hp:PolW p) (h:EInv p s) (key:Int):
  ((⟨p,s,c⟩:Eng).remove key).1=decide (key∈wholeP ⟨p,s,c⟩)∧((⟨p,s,c⟩:Eng).remove key).2.p=p∧((⟨p,s,c⟩:Eng).remove key).2.n=c∧EInv p ((⟨p,s,c⟩:Eng).remove key).2.s∧(((⟨p,s,c⟩:Eng).remove key).2.remove key).1=false:=by
 obtain⟨A,ns,hA⟩:=h.inv
 unfold Eng.remove
 simp only
 cases hf:s.find key with
 |none=>
  simp only
  refine⟨?_,(by first|rfl|trivial),(by first|rfl|trivial),h,by rw[hf]⟩
  have:¬key∈wholeP ⟨p,s,c⟩:=by
   rw[mem_whole hp h]
   rintro⟨i,hi⟩
   exact find_no hf i hi
  exact(decide_eq_false this).symm
 |some x=>
  obtain⟨k,i⟩:=x
  simp only
  obtain⟨l,en,h1,h2,h3,_,_⟩:=find_in hf
  have hk:=find_atQ hf
  have hmem:key∈wholeP ⟨p,s,c⟩:=(mem_whole hp h key).2 ⟨k,hk⟩
  have hA2:=out_st hA key
  obtain⟨_,_,_,b⟩:=hA2
  rw[hf]at b
  obtain⟨⟨ns',o1⟩,_⟩:=b
  have hnot:∀j,¬AtQ (s.out k i) j key:=by
   intro j hj
   have hj':=((out_at h1 h2 j key).1 hj)
   have:=h.once.one j k key hj' hk
   subst this
   obtain⟨m,m1,m2⟩:=hj
   have ho:s.out j i={s with q:=s.q.set j (l.eraseIdx i)}:=by unfold St.out;rw[h1];rfl
   rw[ho]at m1
   rcases get_set m1 with⟨_,_,rfl⟩|⟨hne,_⟩
   ·have hnd:=h.once.nd j l h1
    obtain⟨y,y1,y2⟩:=List.mem_map.1 m2
    obtain⟨a,ha1,ha2⟩:=List.mem_eraseIdx_iff_getElem?.1 y1
    have:=at_once hnd (i:=a) (j:=i) (x:=key) (by rw[List.getElem?_map,ha2];exact congrArg some y2) (by rw[List.getElem?_map,h2];exact congrArg some h3)
    exact ha1 this
   ·exact hne rfl
  refine⟨(decide_eq_true hmem).symm,(by first|rfl|trivial),(by first|rfl|trivial),⟨h.si.out k i,fun j x hx=>h.nov j x ((out_at h1 h2 j x).1 hx),_,_,o1⟩,?_⟩
  cases hf2:(s.out k i).find key with
  |none=>rfl
  |some y=>
   obtain⟨k',i'⟩:=y
   exact absurd (find_atQ hf2) (hnot k')
end
end Go.Proofs.YtepoejiigmhlbaaGreatDoor.Ev
namespace Go.Proofs.YtepoejiigmhlbaaGreatDoor.Ev
def Arena.reord (A:Arena) (sk:List Int):Arena:={A with at_:=sk.map fun k=>(k,(A.idx k).getD 0)}
theorem find_map_key (f:Int→Nat) (key:Int):∀(sk:List Int),((sk.map fun k=>(k,f k)).find? (fun y=>y.1==key)).map (·.2)=if key∈sk then some (f key)else none
 | []=>rfl
 |k::sk=>by
  by_cases h:k=key
  ·subst h;simp
  ·have h1:(k==key)=false:=by simpa using h
   have h2:¬key=k:=fun e=>h e.symm
   rw[List.map_cons,List.find?_cons]
   simp only[h1]
   rw[find_map_key f key sk]
   simp[h2]
theorem reord_idx {A:Arena} {sk:List Int} (h:∀k,k∈sk↔(A.idx k).isSome=true) (key:Int):(A.reord sk).idx key=A.idx key:=by
 show((sk.map fun k=>(k,(A.idx k).getD 0)).find? (fun y=>y.1==key)).map (·.2)=_
 rw[find_map_key]
 cases hi:A.idx key with
 |none=>
  rw[if_neg]
  intro hm
  have:=(h key).1 hm
  rw[hi]at this;cases this
 |some n=>
  rw[if_pos ((h key).2 (by rw[hi];rfl))]
  rfl
theorem AInv.reord {A:Arena} {ns:List (List Nat)} {qs:List (List Ent)} (h:AInv A ns qs) {sk:List Int} (hs:∀k,k∈sk↔(A.idx k).isSome=true) (hn:sk.Nodup):AInv (A.reord sk) ns qs:=by
 have hb:(A.reord sk).Bd:=⟨h.bd.node,h.bd.ends⟩
 refine⟨hb,h.len,h.q8,h.ends,h.dll,h.mem,h.nodup,h.fifty,h.ent,fun key n=>?_,?_,h.free,h.freen,h.cnt,h.lb⟩
 ·rw[reord_idx hs]
  exact h.idx key n
 ·show((sk.map fun k=>(k,(A.idx k).getD 0)).map (·.1)).Nodup
  rw[List.map_map]
  have:((fun x:Int×Nat=>x.1)∘fun k=>(k,(A.idx k).getD 0))=id:=by funext k;rfl
  rw[this,List.map_id]
  exact hn
end Go.Proofs.YtepoejiigmhlbaaGreatDoor.Ev
