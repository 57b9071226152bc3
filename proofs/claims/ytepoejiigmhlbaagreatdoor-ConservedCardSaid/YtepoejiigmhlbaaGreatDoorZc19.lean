/- Lemmas for a law's walk. Conditions: none. -/
import Derived.BigQuiet
import Derived.Deep.QuietTactic
import Derived.Deep.Slices
import Derived.SizedLaws
import Derived.SliceStrings
import Derived.Test.YtepoejiigmhlbaaGreatDoorZc01
import Derived.Test.YtepoejiigmhlbaaGreatDoorZc02
import Derived.Test.YtepoejiigmhlbaaGreatDoorZc05
import Derived.Test.YtepoejiigmhlbaaGreatDoorZc06
import Derived.Test.YtepoejiigmhlbaaGreatDoorZc15
import Derived.Test.YtepoejiigmhlbaaGreatDoorZc16
import Derived.Test.YtepoejiigmhlbaaGreatDoorZc17
import Derived.Test.YtepoejiigmhlbaaGreatDoorZc18
set_option linter.all false
namespace Go.Proofs.YtepoejiigmhlbaaGreatDoor.Ev
open Go Go.RowKit
section
variable {B:Nat} {ea:Nat→Addr} {S:Nat→Prop} {w wr w':World} {ge m:Nat} {e e1:Eng} {v:Value} {l:List Int}
def OutLR (w wr:World) (S:Nat→Prop) (ge:Nat) (b:Bool) (e1:Eng) (m:Nat) (x:Ending) (w':World):Prop:=
 x= .returned (.bool b)∧LoopE w w' (fun b=>S b∨wr.heap.size≤b∧b<w'.heap.size) ge e1 m∧Kept (fun b=>S b∨wr.heap.size≤b) wr w'
theorem lremove_any (h:LoopE w wr S ge e m) (key:Int):Calls Tryz.prog 15 #[.pointer (some ⟨ge,0,none⟩),.int .u64 key] wr (OutLR w wr S ge (e.remove key).1 (e.remove key).2 m):=by
 refine(eremove_any h.eng key).mono ?_
 rintro x w' ⟨rfl,hk,hE⟩
 have hn:(e.remove key).2.n=e.n:=(remove_cons (c:=e.n) h.eng.inv.1 h.eng.inv.2 key).2.2.1
 refine⟨rfl,⟨h.kept.trans (hk.mono (fun b hb=>hb.elim (fun e=>(h.lo b e).1) (fun h2=>Nat.le_trans h.kept.size h2))),?_,?_,by rw[hn];exact h.cnt⟩,hk⟩
 ·refine hE.shrink.mono (fun b hb=>?_)
  rcases hb with⟨h1|h1,h2⟩
  ·exact .inl h1
  ·exact .inr ⟨h1,h2⟩
 ·intro b hb
  rcases hb with h1|⟨h1,h2⟩
  ·exact⟨(h.lo b h1).1,Nat.lt_of_lt_of_le (h.lo b h1).2 hk.size⟩
  ·exact⟨Nat.le_trans h.kept.size h1,h2⟩
theorem OwnN.removed {l:List Bytes} (h:OwnN wr S v l) (hk:Kept (fun b=>S b∨wr.heap.size≤b) wr w'):OwnN w' (fun b=>S b∨wr.heap.size≤b∧b<w'.heap.size) v l:=by
 obtain⟨N,hs⟩:=h.sl
 refine⟨⟨N,hs.kept hk (fun b hb h2=>h2.elim (h.far b hb) (fun h3=>by have:=hs.lt hb;omega))⟩,fun b hb h2=>?_⟩
 rcases h2 with h2|⟨h2,_⟩
 ·exact h.far b hb h2
 ·have:=hs.lt hb;omega
theorem OwnN.fresh {l:List Bytes} (h:LoopE w wr S ge e m) (hs:Sl (fun b=>wr.heap.size≤b) w' 9 1 v l.length (l.map vs)):OwnN w' S v l:=
 ⟨⟨_,hs⟩,fun b hb hS=>by have:=hs.2 b hb;have:=(h.lo b hS).2;omega⟩
theorem LoopE.more (h:LoopE w wr S ge e m):LoopE w wr S ge e (m+1):=⟨h.kept,h.eng,h.lo,by
 obtain⟨a,b,c,d,f,g⟩:=h.cnt
 exact⟨a,by omega,c,by omega,f,by omega⟩⟩
theorem lcounts_any (h:LoopE w wr S ge e m):Calls Tryz.prog 11 #[.pointer (some ⟨ge,0,none⟩)] wr (OutCnt wr e.n):=ecounts_any h.eng
end
theorem text_len {p:Policy} (hp:PolW p):(text p).length≤1000000:=by
 obtain⟨b,hb⟩:∃b,missOf p.rules=some b:=Option.isSome_iff_exists.1 hp.miss
 have hd:=declsT_len hp p.decls.length (Nat.le_refl _)
 have e1:declsT p p.decls.length=(p.decls.map showDecl).flatten:=by unfold declsT;rw[List.take_length]
 rw[e1]at hd
 have h8:=hp.decls.len
 have hr:=showRules_len hp p.decls.length
 have hf:=showFreq_len hp
 have hm:(showMiss p).length≤70100:=by
  have h1:=rule_blk_wf hp (k:= -1) hb
  have h2:=showBlk_len hp.decls h1.1
  unfold showMiss
  rw[hb]
  simp only[Option.getD_some,List.length_append,List.length_cons,List.length_nil,bSp]
  omega
 unfold text
 simp only[List.length_append]
 omega
theorem access_err {e:Eng} {key:Int} {k:Nat} (ha:e.access key= .err k):1≤k:=by
 unfold Eng.access at ha
 simp only at ha
 split at ha
 ·rename_i n hn
  injection ha with ha
  subst ha
  exact(exec_err hn).1
 ·cases ha
section
variable {B:Nat} {ea:Nat→Addr} {w:World} {s:Bytes}
set_option maxRecDepth 100000 in
set_option maxHeartbeats 16000000 in
theorem cons_walk (he:Env B ea w) (ho:ErrObj B ea w) (ht:TabE w) {vk:Value} {keys:List Int} (hk:KeysR w vk keys):Calls Tryz.prog 3 #[vs s,vk] w (TrueK w):=by
 obtain⟨xk,ck,rfl⟩:=hk.shape
 obtain⟨p1,hr1,hk1⟩:=oneRead
 obtain⟨i0,hi0,hz0,hz1,hz2⟩:=info_parts infoU64_
 have hload1:=kload_any he ho hr1 hk1
 have HL1:=Lib.hid hload1
 have HE:=Lib.hid he
 have HO:=Lib.hid ho
 have HT:=Lib.hid ht
 have HK:=Lib.hid hk
 clear hr1 hk1 hload1 he ho ht hk
 unfold oneTxt vs at*
 go_enter Tryz.func3,Tryz.ntmps3
 go_wp2_with fail
 refine HL1.out.mono ?_
 rintro e w1 ⟨ge1,rfl,hk1,_⟩
 have hload2:=load_any (HE.out.kept hk1 (fun b hb=>Nat.le_trans HE.out.size hb)) (HO.out.kept hk1 (fun b hb=>Nat.le_trans HE.out.size hb)) s
 have HT1:=Lib.hid (HT.out.kept hk1 (fun b hb=>by have:=HT.out.lt;omega))
 have HL2:=Lib.hid hload2
 have K1:=Lib.hid hk1
 clear hload2 hk1 HL1
 unfold vs at HL2
 go_wp2_with fail
 refine HL2.out.mono ?_
 rintro e w2 ⟨hk2,hm⟩
 cases hr:read s with
 |error kp=>
  obtain⟨kk,pos⟩:=kp
  rw[hr]at hm
  simp only at hm
  subst hm
  have hkk:=read_err hr
  have hk0:¬((kk:Int)=0):=by omega
  have hk1:((kk:Int)!=0)=true:=by simpa using hk0
  have hk3:=Lib.hid (K1.out.trans (hk2.mono (fun b hb=>Nat.le_trans K1.out.size hb)))
  clear hr hk2
  go_wp2
  go_ret
  exact⟨rfl,hk3.out⟩
 |ok p=>
  have htl:=text_len (read_W hr)
  rw[hr]at hm
  obtain⟨ge,rfl,hE⟩:=hm
  have hp:=read_W hr
  obtain⟨ge',S0,hge,hL0,_,_⟩:=LoopE.of_load (p:=p) (x:=.returned (.pointer (some ⟨ge,0,none⟩))) K1.out ⟨ge,rfl,hk2,hE⟩
  injection hge with hge
  injection hge with hge
  injection hge with hge
  injection hge with hge
  subst hge
  have htx:=etext_any hE (HT1.out.kept hk2 (fun b hb=>by have:=HT1.out.lt;omega))
  have hnm:=fun W=>names_any (w:=W) (s:=text p) (by omega)
  rw[nm_text hp]at hnm
  have hq8:=names_few hp 0
  have hg8:=names_few hp 1
  have HP:=Lib.hid hp
  have HTX:=Lib.hid htx
  have HN:=Lib.hid hnm
  have L0:=Lib.hid hL0
  clear hr hk2 hE hp htx hnm hL0 HL2
  unfold vs at*
  go_wp2_with fail
  refine HTX.out.mono ?_
  rintro e w3 ⟨rfl,hk3⟩
  have L3:=Lib.hid (L0.out.later hk3)
  clear hk3 L0 HTX
  go_wp2_with fail
  refine(HN.out w3).mono ?_
  rintro e w4 ⟨vq,vg,rfl,hk4,hsq,hsg⟩
  have L4:=Lib.hid (L3.out.later hk4)
  have Q4:=Lib.hid (OwnN.fresh L3.out hsq)
  have G4:=Lib.hid (OwnN.fresh L3.out hsg)
  clear hk4 hsq hsg L3
  simp only at Q4 G4
  go_wp2_with fail
  go_loopg [61] keys.length (fun gg s61 wr=>∃(k:Nat) (S:Nat→Prop) (s:St) (c:Cnt),k≤keys.length∧k≤16384∧keys.length-k≤gg∧s61= .int .i64 k∧LoopE w wr S ge ⟨p,s,c⟩ k∧OwnN wr S vq (declQ p.decls 0)∧OwnN wr S vg (declQ p.decls 1))
  case atStart=>exact⟨0,S0,_,_,Nat.zero_le _,Nat.zero_le _,by omega,rfl,L4.out,Q4.out,G4.out⟩
  case round=>
   clear L4 Q4 G4
   obtain⟨k,S,s,c,hk,hk2,hg,rfl,L,NQ,NG⟩:=hrel
   by_cases hlt:k<keys.length
   ·obtain⟨key,hx⟩:∃x,keys[k]?=some x:=⟨_,List.getElem?_eq_getElem hlt⟩
    obtain⟨gk,ok,rfl,hc0,hgk,hm2⟩:=HK.out.at_ hx
    have hc:=(L.kept.cell (p:=⟨gk,ok+k,none⟩) (by simp only;omega)).trans hc0
    unfold maxLen at hm2
    have HX:=Lib.hid hx
    clear hx hc0
    by_cases hb:k=16384
    ·have e1:((k:Int)==16384)=true:=by simp;omega
     have e2:decide ((k:Int)=16384)=true:=by simp;omega
     have hk3:=Lib.hid L.kept
     clear L NQ NG hb
     go_wp2
     go_ret
     exact⟨rfl,hk3.out⟩
    ·have e1:((k:Int)==16384)=false:=by simp;omega
     have e2:decide ((k:Int)=16384)=false:=by simp;omega
     have HI:=Lib.hid L.eng.inv.2
     have cb:=Lib.hid L.cnt
     have hIn:=every_any L NQ (fun n hn=>every_bound HP.out HI.out (by decide) hn) (by omega)
     have HIN:=Lib.hid hIn
     have HL:=Lib.hid L
     have HNQ:=Lib.hid NQ
     have HNG:=Lib.hid NG
     clear hIn L NQ NG
     go_wp2_with fail
     refine HIN.out.mono ?_
     rintro y wa ⟨vin,rfl,ka,sin⟩
     have LA:=Lib.hid (HL.out.later ka)
     have QA:=Lib.hid (HNQ.out.later ka)
     have GA:=Lib.hid (HNG.out.later ka)
     have OIA:=Lib.hid (OwnL.fresh HL.out sin)
     clear ka sin HIN HL HNQ HNG
     have hGh:=every_any LA.out GA.out (fun n hn=>every_bound HP.out HI.out (by decide) hn) (by omega)
     have HGH:=Lib.hid hGh
     clear hGh
     go_wp2_with fail
     refine HGH.out.mono ?_
     rintro y wb ⟨vgh,rfl,kb,sgh⟩
     have LB:=Lib.hid (LA.out.later kb)
     have QB:=Lib.hid (QA.out.later kb)
     have GB:=Lib.hid (GA.out.later kb)
     have OIB:=Lib.hid (OIA.out.later kb)
     have OGB:=Lib.hid (OwnL.fresh LA.out sgh)
     clear kb sgh HGH LA QA GA OIA
     have hcn:=Lib.hid (lcounts_any LB.out)
     go_wp2_with fail
     refine hcn.out.mono ?_
     rintro y wn ⟨rfl,kn⟩
     have kn1:Kept (fun b=>wb.heap.size≤b) wb (wn.alloc (.cells #[.int .i64 c.hits,.int .i64 c.misses,.int .i64 c.evicted] 36)):=kn.trans ((Kept.refl _ _).alloc kn.size _)
     have RN:=Lib.hid (Row.new wn 36 [.int .i64 c.hits,.int .i64 c.misses,.int .i64 c.evicted])
     have LN:=Lib.hid (LB.out.later kn1)
     have QN:=Lib.hid (QB.out.later kn1)
     have GN:=Lib.hid (GB.out.later kn1)
     have OIN:=Lib.hid (OIB.out.later kn1)
     have OGN:=Lib.hid (OGB.out.later kn1)
     have gen:=Lib.hid (show¬ge=wn.heap.size from fun e=>by have:=LB.out.eng.lt;have:=kn.size;omega)
     unfold encCnt
     clear kn kn1 hcn LB QB GB OIB OGB
     cases ha:(⟨p,s,c⟩:Eng).access key with
     |err kk=>
      as_aux_lemma=>
       have hkk:=access_err ha
       have hk0:¬((kk:Int)=0):=by omega
       have hk1:((kk:Int)==0)=false:=by simp;omega
       have hac:=Lib.hid (lerr_any HE.out HO.out LN.out (by omega) ha)
       have HI1:=Lib.hid HI.out
       clear ha
       go_wp2_with fail
       refine hac.out.mono ?_
       rintro y wd ⟨rfl,S',hW⟩
       have LD:=Lib.hid hW.loop
       have QD:=Lib.hid (hW.ownN QN.out LN.out.mine)
       have GD:=Lib.hid (hW.ownN GN.out LN.out.mine)
       have OID:=Lib.hid (hW.own OIN.out LN.out.mine)
       have OGD:=Lib.hid (hW.own OGN.out LN.out.mine)
       have RD:=Lib.hid (RN.out.kept hW.kept (fun h=>h.elim (fun e=>gen.out e.symm) (fun h=>by simp at h;omega)))
       clear hW LN QN GN OIN OGN RN gen
       have hNow:=Lib.hid (every_any LD.out QD.out (fun n hn=>every_bound HP.out HI1.out (by decide) hn) (by omega))
       go_wp2_with fail
       refine hNow.out.mono ?_
       rintro y we ⟨vnow,rfl,ke,snow⟩
       have LE:=Lib.hid (LD.out.later ke)
       have QE:=Lib.hid (QD.out.later ke)
       have GE:=Lib.hid (GD.out.later ke)
       have OIE:=Lib.hid (OID.out.later ke)
       have OGE:=Lib.hid (OGD.out.later ke)
       have RE:=Lib.hid (RD.out.kept ke (fun h=>by have:=RD.out.lt;omega))
       have ONE:=Lib.hid (OwnL.fresh LD.out snow)
       clear ke snow hNow
       clear RD LD QD GD OID OGD
       have hThen:=Lib.hid (every_any LE.out GE.out (fun n hn=>every_bound HP.out HI1.out (by decide) hn) (by omega))
       go_wp2_with fail
       refine hThen.out.mono ?_
       rintro y wf ⟨vthen,rfl,kf,sthen⟩
       have LF:=Lib.hid (LE.out.later kf)
       have QF:=Lib.hid (QE.out.later kf)
       have GF:=Lib.hid (GE.out.later kf)
       have OIF:=Lib.hid (OIE.out.later kf)
       have OGF:=Lib.hid (OGE.out.later kf)
       have RF:=Lib.hid (RE.out.kept kf (fun h=>by have:=RE.out.lt;omega))
       have ONF:=Lib.hid (ONE.out.later kf)
       have OTF:=Lib.hid (OwnL.fresh LE.out sthen)
       clear kf sthen hThen ONE
       clear RE LE QE GE OIE OGE
       have hcm:=Lib.hid (lcounts_any LF.out)
       go_wp2_with fail
       refine hcm.out.mono ?_
       rintro y wg ⟨rfl,kg⟩
       have kg1:Kept (fun b=>wf.heap.size≤b) wf (wg.alloc (.cells #[.int .i64 c.hits,.int .i64 c.misses,.int .i64 c.evicted] 36)):=kg.trans ((Kept.refl _ _).alloc kg.size _)
       have RM:=Lib.hid (Row.new wg 36 [.int .i64 c.hits,.int .i64 c.misses,.int .i64 c.evicted])
       have RG:=Lib.hid (RF.out.kept kg1 (fun h=>by have:=RF.out.lt;omega))
       unfold encCnt
       have LG:=Lib.hid (LF.out.later kg1)
       have QG:=Lib.hid (QF.out.later kg1)
       have GG:=Lib.hid (GF.out.later kg1)
       have OIG:=Lib.hid (OIF.out.later kg1)
       have OGG:=Lib.hid (OGF.out.later kg1)
       have ONG:=Lib.hid (ONF.out.later kg1)
       have OTG:=Lib.hid (OTF.out.later kg1)
       clear kg kg1 hcm RF ONF OTF
       clear LF QF GF OIF OGF
       have n1:=every_few (c:=c) HP.out HI.out (k:=0) (by decide)
       have n2:=every_few (c:=c) HP.out HI.out (k:=1) (by decide)
       have hs1:=same_any OIG.out.lr ONG.out.lr (by omega) (by omega)
       have hs2:=fun n=>same_any (OGG.out.lr.drewN n) (OTG.out.lr.drewN n) (by omega) (by omega)
       rw[beq_self_eq_true]at hs1
       simp only[beq_self_eq_true]at hs2
       have HS1:=Lib.hid hs1
       have HS2:=Lib.hid hs2
       clear hs1 hs2 n1 n2
       go_wp2_with fail
       generalize hW:wg.alloc (.cells #[.int .i64 c.hits,.int .i64 c.misses,.int .i64 c.evicted] 36)=W at*
       have m0:=RM.out.cell 0
       have m1:=RM.out.cell 1
       have m2:=RM.out.cell 2
       have g0:=RG.out.cell 0
       have g1:=RG.out.cell 1
       have g2:=RG.out.cell 2
       simp at m0 m1 m2 g0 g1 g2
       have HWW:=Lib.hid hW
       clear hW
       refine HS1.out.mono ?_
       rintro y wz ⟨rfl,n1,rfl⟩
       go_wp2_with fail
       refine(HS2.out n1).mono ?_
       rintro y wz ⟨rfl,n2,rfl⟩
       go_wp2_with fail
       go_roundg (keys.length-(k+1))
       case measure=>omega
       case rel=>exact⟨k+1,S',s,c,by omega,by omega,by omega,by go_num,(LG.out.drewN (n1+n2)).more,QG.out.drewN (n1+n2),GG.out.drewN (n1+n2)⟩
     |ok hit gone e1=>
      have hcons:=access_cons HP.out HI.out ha
      obtain⟨p',s1,c1⟩:=e1
      obtain⟨hp1,hI1,hhit,hcnt,hgone,hcome⟩:=hcons
      simp only at hp1 hI1 hhit hcnt
      have hp2:=hp1.symm
      subst hp2
      clear hp1
      have hac:=Lib.hid (lacc_any HE.out HO.out LN.out (by omega) ha)
      have HI1:=Lib.hid hI1
      have hmost:=(access_cnt HP.out ha).2.1
      have HHIT:=Lib.hid (hhit.trans (Bool.eq_iff_iff.2 ((hit_iff (c:=c) HP.out HI.out key).trans decide_eq_true_iff.symm)))
      have HCNT:=Lib.hid hcnt
      have HGONE:=Lib.hid hgone
      have HCOME:=Lib.hid hcome
      have HND:=Lib.hid (whole_nodup (c:=c1) HP.out hI1)
      clear ha hI1 hhit hcnt hgone hcome
      go_wp2_with fail
      refine hac.out.mono ?_
      rintro y wd ⟨vout,rfl,S',hW,ood⟩
      have LD:=Lib.hid hW.loop
      have QD:=Lib.hid (hW.ownN QN.out LN.out.mine)
      have GD:=Lib.hid (hW.ownN GN.out LN.out.mine)
      have OID:=Lib.hid (hW.own OIN.out LN.out.mine)
      have OGD:=Lib.hid (hW.own OGN.out LN.out.mine)
      have RD:=Lib.hid (RN.out.kept hW.kept (fun h=>h.elim (fun e=>gen.out e.symm) (fun h=>by simp at h;omega)))
      have OOD:=Lib.hid ood
      clear hW LN QN GN OIN OGN RN gen ood
      have hNow:=Lib.hid (every_any LD.out QD.out (fun n hn=>every_bound HP.out HI1.out (by decide) hn) (by omega))
      go_wp2_with fail
      refine hNow.out.mono ?_
      rintro y we ⟨vnow,rfl,ke,snow⟩
      have LE:=Lib.hid (LD.out.later ke)
      have QE:=Lib.hid (QD.out.later ke)
      have GE:=Lib.hid (GD.out.later ke)
      have OIE:=Lib.hid (OID.out.later ke)
      have OGE:=Lib.hid (OGD.out.later ke)
      have RE:=Lib.hid (RD.out.kept ke (fun h=>by have:=RD.out.lt;omega))
      have OOE:=Lib.hid (OOD.out.later ke)
      have ONE:=Lib.hid (OwnL.fresh LD.out snow)
      clear ke snow hNow
      clear RD LD QD GD OID OGD OOD
      have hThen:=Lib.hid (every_any LE.out GE.out (fun n hn=>every_bound HP.out HI1.out (by decide) hn) (by omega))
      go_wp2_with fail
      refine hThen.out.mono ?_
      rintro y wf ⟨vthen,rfl,kf,sthen⟩
      have LF:=Lib.hid (LE.out.later kf)
      have QF:=Lib.hid (QE.out.later kf)
      have GF:=Lib.hid (GE.out.later kf)
      have OIF:=Lib.hid (OIE.out.later kf)
      have OGF:=Lib.hid (OGE.out.later kf)
      have RF:=Lib.hid (RE.out.kept kf (fun h=>by have:=RE.out.lt;omega))
      have OOF:=Lib.hid (OOE.out.later kf)
      have ONF:=Lib.hid (ONE.out.later kf)
      have OTF:=Lib.hid (OwnL.fresh LE.out sthen)
      clear kf sthen hThen ONE
      clear RE LE QE GE OIE OGE OOE
      have hcm:=Lib.hid (lcounts_any LF.out)
      go_wp2_with fail
      refine hcm.out.mono ?_
      rintro y wg ⟨rfl,kg⟩
      have kg1:Kept (fun b=>wf.heap.size≤b) wf (wg.alloc (.cells #[.int .i64 c1.hits,.int .i64 c1.misses,.int .i64 c1.evicted] 36)):=kg.trans ((Kept.refl _ _).alloc kg.size _)
      have RM:=Lib.hid (Row.new wg 36 [.int .i64 c1.hits,.int .i64 c1.misses,.int .i64 c1.evicted])
      have RG:=Lib.hid (RF.out.kept kg1 (fun h=>by have:=RF.out.lt;omega))
      unfold encCnt
      have LG:=Lib.hid (LF.out.later kg1)
      have QG:=Lib.hid (QF.out.later kg1)
      have GG:=Lib.hid (GF.out.later kg1)
      have OIG:=Lib.hid (OIF.out.later kg1)
      have OGG:=Lib.hid (OGF.out.later kg1)
      have OOG:=Lib.hid (OOF.out.later kg1)
      have ONG:=Lib.hid (ONF.out.later kg1)
      have OTG:=Lib.hid (OTF.out.later kg1)
      clear kg kg1 hcm RF ONF OTF
      clear LF QF GF OIF OGF OOF
      have n1:=every_few (c:=c) HP.out HI.out (k:=0) (by decide)
      have n2:=every_few (c:=c) HP.out HI.out (k:=1) (by decide)
      have n3:=every_few (c:=c1) HP.out HI1.out (k:=0) (by decide)
      have n4:=every_few (c:=c1) HP.out HI1.out (k:=1) (by decide)
      generalize hIn:everyP ⟨p,s,c⟩ (declQ p.decls 0)=In at*
      generalize hGh:everyP ⟨p,s,c⟩ (declQ p.decls 1)=Gh at*
      generalize hNow:everyP ⟨p,s1,c1⟩ (declQ p.decls 0)=Now at*
      generalize hThen:everyP ⟨p,s1,c1⟩ (declQ p.decls 1)=Then at*
      have HNW:=Lib.hid (And.intro hNow hThen)
      clear hIn hGh hNow hThen
      go_upto_region 23 with fail
      generalize hW:wg.alloc (.cells #[.int .i64 c1.hits,.int .i64 c1.misses,.int .i64 c1.evicted] 36)=W at*
      have m0:=RM.out.cell 0
      have m1:=RM.out.cell 1
      have m2:=RM.out.cell 2
      have g0:=RG.out.cell 0
      have g1:=RG.out.cell 1
      have g2:=RG.out.cell 2
      simp at m0 m1 m2 g0 g1 g2
      have HWW:=Lib.hid hW
      clear hW
      have aIn:=Lib.hid (fun n x=>at_any (OIG.out.lr.drewN n) (by omega) x)
      have aGh:=Lib.hid (fun n x=>at_any (OGG.out.lr.drewN n) (by omega) x)
      have aNow:=Lib.hid (fun n x=>at_any (ONG.out.lr.drewN n) (by omega) x)
      have aOut:=Lib.hid (fun n x=>at_any (OOG.out.lr.drewN n) (by omega) x)
      obtain⟨xi,ci,rfl⟩:=OIG.out.shape
      obtain⟨xn,cn,rfl⟩:=ONG.out.shape
      obtain⟨xo,co,rfl⟩:=OOG.out.shape
      obtain⟨xt,ct,rfl⟩:=OTG.out.shape
      obtain⟨b1,b2,b3,b4,b5,b6⟩:=cb.out
      have hsum:wrap64 (c1.hits+c1.misses)=c.hits+c.misses+1:=by
       rw[HCNT.out]
       unfold cntUp
       cases hit<;>simp<;>(unfold wrap64;omega)
      have HEV:RowKit.Hid (c1.evicted=c.evicted+(gone.length:Int)):=Lib.hid (by rw[HCNT.out];rfl)
      go_cut [171] (fun s171 wx=>s171= .bool false∧∃n,wx=W.drewN n)
      case first=>
       as_aux_lemma=>
        by_cases hin:key∈In
        ·have hh:hit=true:=HHIT.out.trans (decide_eq_true hin)
         subst hh
         have a1:=at_in.2 hin
         have a2:decide (0≤atI In key)=true:=by simpa using a1
         go_wp2_with fail
         refine(aIn.out 0 key).mono ?_
         rintro y wz ⟨rfl,rfl⟩
         go_wp2_with fail
         go_meet
         refine⟨?_,0,rfl⟩
         rw[HEV.out]
         simp
        ·have hh:hit=false:=HHIT.out.trans (decide_eq_false hin)
         subst hh
         have a1:=at_out hin
         have HA1:=Lib.hid (aIn.out 0 key)
         rw[a1]at HA1
         clear a1
         go_wp2_with fail
         refine HA1.out.mono ?_
         rintro y wz ⟨rfl,rfl⟩
         go_wp2_with fail
         go_meet
         refine⟨?_,0,rfl⟩
         rw[HEV.out]
         simp
      case rest=>
       as_aux_lemma=>
        obtain⟨rfl,n5,rfl⟩:=hcut
        go_upto_block 2 with fail
        go_cut [] (fun wx=>∃n,wx=W.drewN n)
        case first=>
         as_aux_lemma=>
          go_wp2_with fail
          go_loopg [174] In.length (fun gg s174 wz=>∃j:Nat,j≤In.length∧In.length-j≤gg∧s174= .int .i64 j∧∃n,wz=W.drewN n)
          case atStart=>exact⟨0,Nat.zero_le _,by omega,rfl,_,rfl⟩
          case round=>
           obtain⟨j,hj1,hj2,rfl,n6,rfl⟩:=hrel
           by_cases hjl:j<In.length
           ·obtain⟨x,hx⟩:∃x,In[j]?=some x:=⟨_,List.getElem?_eq_getElem hjl⟩
            obtain⟨gi,oi,rfl,hci,h1,h2⟩:=OIG.out.lr.at_ hx
            unfold maxLen at h2
            have hmem:=HGONE.out x (List.mem_of_getElem? hx)
            clear hx
            by_cases hnw:x∈Now
            ·have a1:=at_in.2 hnw
             have a2:decide (atI Now x<0)=false:=by simp;omega
             clear hmem hnw
             go_wp2_with fail
             refine(aNow.out _ x).mono ?_
             rintro y wz ⟨rfl,rfl⟩
             go_wp2_with fail
             go_roundg (In.length-(j+1))
             case measure=>omega
             case rel=>exact⟨j+1,by omega,by omega,by go_num,_,rfl⟩
            ·have a0:=at_out hnw
             have a1:=at_in.2 (hmem.resolve_left hnw)
             have a2:decide (atI gone x<0)=false:=by simp;omega
             have HA1:=Lib.hid (fun n=>aNow.out n x)
             rw[a0]at HA1
             clear a0 hmem hnw
             go_wp2_with fail
             refine(HA1.out _).mono ?_
             rintro y wz ⟨rfl,rfl⟩
             go_wp2_with fail
             refine(aOut.out _ x).mono ?_
             rintro y wz ⟨rfl,rfl⟩
             go_wp2_with fail
             go_roundg (In.length-(j+1))
             case measure=>omega
             case rel=>exact⟨j+1,by omega,by omega,by go_num,_,rfl⟩
           ·have hje:j=In.length:=by omega
            subst hje
            go_wp2_with fail
            go_meet
            exact⟨_,rfl⟩
        case rest=>
         as_aux_lemma=>
          obtain⟨n7,rfl⟩:=hcut
          go_upto_block 4 with fail
          go_cut [] (fun wx=>∃n,wx=W.drewN n)
          case first=>
           as_aux_lemma=>
            go_wp2_with fail
            go_loopg [191] Now.length (fun gg s191 wz=>∃j:Nat,j≤Now.length∧Now.length-j≤gg∧s191= .int .i64 j∧∃n,wz=W.drewN n)
            case atStart=>exact⟨0,Nat.zero_le _,by omega,rfl,_,rfl⟩
            case round=>
             obtain⟨j,hj1,hj2,rfl,n6,rfl⟩:=hrel
             by_cases hjl:j<Now.length
             ·obtain⟨x,hx⟩:∃x,Now[j]?=some x:=⟨_,List.getElem?_eq_getElem hjl⟩
              obtain⟨gi,oi,rfl,hci,h1,h2⟩:=ONG.out.lr.at_ hx
              unfold maxLen at h2
              have hmem:=HCOME.out x (List.mem_of_getElem? hx)
              clear hx
              by_cases hnw:x∈In
              ·have a1:=at_in.2 hnw
               have a2:decide (atI In x<0)=false:=by simp;omega
               clear hmem hnw
               go_wp2_with fail
               refine(aIn.out _ x).mono ?_
               rintro y wz ⟨rfl,rfl⟩
               go_wp2_with fail
               go_roundg (Now.length-(j+1))
               case measure=>omega
               case rel=>exact⟨j+1,by omega,by omega,by go_num,_,rfl⟩
              ·have a0:=at_out hnw
               have HA1:=Lib.hid (fun n=>aIn.out n x)
               rw[a0]at HA1
               have hmem:=hmem.resolve_left hnw
               clear a0 hnw
               by_cases hxk:x=key
               ·clear hmem
                subst hxk
                go_wp2_with fail
                refine(HA1.out _).mono ?_
                rintro y wz ⟨rfl,rfl⟩
                go_wp2_with fail
                go_roundg (Now.length-(j+1))
                case measure=>omega
                case rel=>exact⟨j+1,by omega,by omega,by go_num,_,rfl⟩
               ·have k3:(x !=key)=true:=by simpa using hxk
                have a1:=at_in.2 (hmem.resolve_left hxk)
                have a2:decide (atI Gh x<0)=false:=by simp;omega
                clear hmem
                go_wp2_with fail
                refine(HA1.out _).mono ?_
                rintro y wz ⟨rfl,rfl⟩
                go_wp2_with fail
                refine(aGh.out _ x).mono ?_
                rintro y wz ⟨rfl,rfl⟩
                go_wp2_with fail
                go_roundg (Now.length-(j+1))
                case measure=>omega
                case rel=>exact⟨j+1,by omega,by omega,by go_num,_,rfl⟩
             ·have hje:j=Now.length:=by omega
              subst hje
              go_wp2_with fail
              go_meet
              exact⟨_,rfl⟩
          case rest=>
           as_aux_lemma=>
            obtain⟨n8,rfl⟩:=hcut
            obtain⟨Nn,hsn⟩:=ONG.out.sl
            obtain⟨Nt,hst⟩:=OTG.out.sl
            have SRC1:=Lib.hid ((hsn.of_heap (w':=W.drewN n8) rfl).src)
            have SLT:=Lib.hid (hst.of_heap (w':=W.drewN n8) rfl)
            have p0:0+Now.length≤maxLen:=by unfold maxLen;omega
            have p1:(0+Now.length)*8≤140737488355328:=by omega
            have p2:(0+Now.length)+Then.length≤maxLen:=by unfold maxLen;omega
            have p3:((0+Now.length)+Then.length)*8≤140737488355328:=by omega
            obtain⟨Wh,hWh⟩:∃Wh,Wh=Now++Then:=⟨_,rfl⟩
            have EL:RowKit.Hid (0+Now.length+Then.length=Wh.length):=Lib.hid (by rw[hWh,List.length_append];omega)
            have HWh:=Lib.hid hWh
            clear hWh
            have O1:=Lib.hid (one_u Now)
            have O2:=Lib.hid (one_u Then)
            clear hsn hst
            go_upto_block 6 with(first
             |(at_builtin;refine wp_appendS Tryz.underlying22 hi0 hz0 hz1 hz2 rfl (by decide) (Sl.nil_ (fun b=>W.heap.size≤b) (W.drewN n8) 32 1) (Nat.le_refl _) rfl _ _ rfl rfl rfl SRC1.out O1.out p0 p1 ?_;intro v1 w1' hs1 hk1' hloc1;have Hs1:=Lib.hid hs1;have Hk1:=Lib.hid hk1';clear hs1 hk1')
             |(at_builtin;refine wp_appendS Tryz.underlying22 hi0 hz0 hz1 hz2 rfl (by decide) Hs1.out (Hk1.out.size) rfl _ _ rfl rfl rfl ((SLT.out.kept Hk1.out (fun b hb h2=>h2.elim (fun e=>by cases e) (fun h3=>by have:=SLT.out.lt hb;omega))).src) O2.out p2 p3 ?_;intro v2 wh hs2 hk2' hloc2;have hs3:Sl (fun b=>W.heap.size≤b) wh 32 1 v2 Wh.length (Wh.map encU):=(by rw[←EL.out,HWh.out,List.map_append];exact hs2);clear hs2;obtain⟨xw,cw,rfl⟩:=hs3.shape;have Hs2:=Lib.hid hs3;clear hs3;have Hk2:=Lib.hid hk2';clear hk2'))
            have Hsw:RowKit.Hid (Sl (fun b=>W.heap.size≤b) wh 32 1 (.slice xw Wh.length cw) Wh.length (Wh.map encU)):=Lib.hid Hs2.out
            have hkw:Kept (fun b=>W.heap.size≤b) W wh:=((Kept.refl _ W).drewN n8).trans ((Hk1.out.mono (fun b hb=>hb.elim (fun e=>by cases e) (fun h=>h))).trans (Hk2.out.mono (fun b hb=>hb.elim (fun e=>Hs1.out.2 b e) (fun h=>Nat.le_trans Hk1.out.size h))))
            have HKW:=Lib.hid hkw
            have hwl:Wh.length≤800:=by rw[←EL.out];omega
            have HND2:=Lib.hid (show Wh.Nodup by rw[HWh.out,←HNW.out.1,←HNW.out.2];exact HND.out)
            have HWM:=Lib.hid (show wholeP ⟨p,s1,c1⟩=Wh by rw[HWh.out,←HNW.out.1,←HNW.out.2];rfl)
            clear hkw SRC1 SLT p0 p1 p2 p3 O1 O2 Hs1 Hs2 Hk1 Hk2
            go_cut [] (fun wx=>∃n,wx=wh.drewN n)
            case first=>
             as_aux_lemma=>
              go_wp2_with fail
              go_loopg [217] Wh.length (fun gg s217 wz=>∃j:Nat,j≤Wh.length∧Wh.length-j≤gg∧s217= .int .i64 j∧∃n,wz=wh.drewN n)
              case atStart=>exact⟨0,Nat.zero_le _,by omega,rfl,0,rfl⟩
              case round=>
               obtain⟨j,hj1,hj2,rfl,n6,rfl⟩:=hrel
               by_cases hjl:j<Wh.length
               ·obtain⟨x,hx⟩:∃x,Wh[j]?=some x:=⟨_,List.getElem?_eq_getElem hjl⟩
                obtain⟨gw,cw',hfe,_,hcw,hcm,hgw⟩:=Hsw.out.form (by omega)
                injection hfe with e1 e2 e3
                subst e1 e3
                obtain⟨gi,oi,hgo,hci,h1,h2⟩:=Hsw.out.lr.at_ hx
                injection hgo with hgo
                injection hgo with hg1 hg2
                subst hg1 hg2
                rw[Nat.zero_add]at hci
                have a0:=at_twice HND2.out hx
                have hat:=fun n=>at_any (((Hsw.out.of_heap (w':=wh.drewN n) rfl).lr_take (k:=j) (by omega))) (by rw[List.length_take];omega) x
                rw[a0]at hat
                have HAT:=Lib.hid hat
                unfold maxLen at h2 hcm
                clear hx a0 hat
                go_wp2_with fail
                refine(HAT.out _).mono ?_
                rintro y wz ⟨rfl,rfl⟩
                go_wp2_with fail
                go_roundg (Wh.length-(j+1))
                case measure=>omega
                case rel=>exact⟨j+1,by omega,by omega,by go_num,_,rfl⟩
               ·have hje:j=Wh.length:=by omega
                subst hje
                go_wp2_with fail
                go_meet
                exact⟨_,rfl⟩
            case rest=>
             as_aux_lemma=>
              obtain⟨n9,rfl⟩:=hcut
              have LH:=Lib.hid ((LG.out.later HKW.out).drewN n9)
              have QH:=Lib.hid ((QG.out.later HKW.out).drewN n9)
              have GH:=Lib.hid ((GG.out.later HKW.out).drewN n9)
              clear m0 m1 m2 g0 g1 g2 hsum aIn aGh aNow aOut
              by_cases h7:(k:Int)%7=6
              ·have e3:((k:Int)%7==6)=true:=by simpa using h7
               have e4:decide ((k:Int)%7=6)=true:=by simpa using h7
               obtain⟨d,hd⟩:∃d:Nat,d=k/2:=⟨_,rfl⟩
               have hdk:(k:Int)/2=(d:Int):=by omega
               have hdl:d<keys.length:=by omega
               obtain⟨key2,hx2⟩:∃x,keys[d]?=some x:=⟨_,List.getElem?_eq_getElem hdl⟩
               obtain⟨gk2,ok2,hg2,hcd,hgk2,_⟩:=HK.out.at_ hx2
               injection hg2 with hg2
               injection hg2 with a1 a2
               subst a1 a2
               have hcd1:=(LH.out.kept.cell (p:=⟨gk,ok+d,none⟩) (by simp only;omega)).trans hcd
               have HCD:=Lib.hid hcd
               have hrm:=remove_cons (c:=c1) HP.out LH.out.eng.inv.2 key2
               have hr1:=lremove_any LH.out key2
               rw[hrm.1,HWM.out]at hr1
               have hat:=fun n=>at_any (Hsw.out.of_heap (w':=wh.drewN n) rfl).lr (by omega) key2
               have hb2:decide (0≤atI Wh key2)=decide (key2∈Wh):=by
                by_cases hm:key2∈Wh
                ·rw[decide_eq_true hm,decide_eq_true (at_in.2 hm)]
                ·rw[decide_eq_false hm,decide_eq_false (fun h=>hm (at_in.1 h))]
               generalize decide (key2∈Wh)=bb at*
               have HAT:=Lib.hid hat
               have HR1:=Lib.hid hr1
               have HRM:=Lib.hid hrm.2
               clear hat hr1 hrm hcd hx2 hd h7
               go_wp2_with fail
               refine(HAT.out _).mono ?_
               rintro y wz ⟨rfl,rfl⟩
               go_wp2_with fail
               refine HR1.out.mono ?_
               rintro y w5 ⟨rfl,l5,k5⟩
               have hcd2:=(l5.kept.cell (p:=⟨gk,ok+d,none⟩) (by simp only;omega)).trans HCD.out
               have Q5:=Lib.hid (QH.out.removed k5)
               have G5:=Lib.hid (GH.out.removed k5)
               have L5:=Lib.hid l5
               clear l5 k5 hcd1 HAT HR1
               generalize ((⟨p,s1,c1⟩:Eng).remove key2).2=e2 at*
               obtain⟨p2,s2,c2⟩:=e2
               have hp2:=HRM.out.1.symm
               simp only at hp2
               subst hp2
               have hrm2:=(remove_cons (c:=c2) HP.out L5.out.eng.inv.2 key2).2.1
               have hr2:=lremove_any L5.out key2
               rw[HRM.out.2.2.2]at hr2
               generalize ((⟨p,s2,c2⟩:Eng).remove key2).2=e3 at*
               obtain⟨p3,s3,c3⟩:=e3
               have hp3:=hrm2.symm
               simp only at hp3
               subst hp3
               have HR2:=Lib.hid hr2
               clear hr2 hrm2 HRM
               go_wp2_with fail
               refine HR2.out.mono ?_
               rintro y w6 ⟨rfl,l6,k6⟩
               have Q6:=Lib.hid (Q5.out.removed k6)
               have G6:=Lib.hid (G5.out.removed k6)
               have L6:=Lib.hid l6
               clear l6 k6 hcd2 HR2 L5 Q5 G5
               go_wp2_with fail
               go_roundg (keys.length-(k+1))
               case measure=>omega
               case rel=>exact⟨k+1,_,s3,c3,by omega,by omega,by omega,by go_num,L6.out,Q6.out,G6.out⟩
              ·have e3:((k:Int)%7==6)=false:=by simpa using h7
               have e4:decide ((k:Int)%7=6)=false:=by simpa using h7
               clear h7
               go_wp2_with fail
               go_roundg (keys.length-(k+1))
               case measure=>omega
               case rel=>exact⟨k+1,S',s1,c1,by omega,by omega,by omega,by go_num,LH.out,QH.out,GH.out⟩
   ·have hk3:=Lib.hid L.kept
    have hke:k=keys.length:=by omega
    clear L NQ NG
    subst hke
    go_wp2
    go_ret
    exact⟨rfl,hk3.out⟩
end
end Go.Proofs.YtepoejiigmhlbaaGreatDoor.Ev
namespace Go.Proofs.YtepoejiigmhlbaaGreatDoor.Ev
open Go Go.ChangeShapes Go.WideShapes Go.ChangeAt Go.RowKit
theorem cellsU64_:Tryz.prog.cellsOf 32=1:=by kernel_rfl
end Go.Proofs.YtepoejiigmhlbaaGreatDoor.Ev
namespace Go.Proofs.YtepoejiigmhlbaaGreatDoor.Ev
open Go Go.RowKit
theorem gNtb:Tryz.prog.globalNamed "internal/strconv.uint64pow10" =some 16:=by kernel_rfl
theorem gTtb:(Tryz.prog.globals[16]?).map (·.type)=some 289:=by kernel_rfl
theorem cellsTb:Tryz.prog.cellsOf 289=20:=by kernel_rfl
theorem tabLaid:(Rows.laid_internal_strconv_uint64pow10:DataW Unit)=Lib.tabData .u64 Lib.pow10Tab:=rfl
theorem tab_of {l:List (String×DataW Unit)} {W:World} (h:laidMetH Tryz.prog l W) (b:Bears l) (hm:("internal/strconv.uint64pow10",Rows.laid_internal_strconv_uint64pow10)∈l):TabE W:=by
 obtain⟨h1,_⟩:=laidMetH_split h b.et rfl
 obtain⟨ps,hv,hnd,hrows⟩:=h1
 obtain⟨g',t',cs,fuel,p,e1,e2,e3,e4,e5,e6⟩:=laidVars_mem hv (List.mem_filter.2 ⟨hm,rfl⟩)
 obtain rfl:=Option.some.inj (gNtb.symm.trans e1)
 obtain rfl:=Option.some.inj (gTtb.symm.trans e2)
 rw[tabLaid]at e4
 have hc:=Lib.cells_of_tab Tryz.underlying289 Tryz.underlying32 cellsU64_ cellsTb e4
 unfold TabE Lib.TabIs
 rw[e3,←hc]
end Go.Proofs.YtepoejiigmhlbaaGreatDoor.Ev
