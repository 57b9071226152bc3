/- Parts of a proof that a law's walk returns true. Conditions: none. -/
import Derived.Test.YtemppijblfflgaaGreatDoorZa00
import Derived.Test.YtemppijblfflgaaGreatDoorZa05
import Derived.Test.YtemppijblfflgaaGreatDoorZa06
import Derived.Test.YtemppijblfflgaaGreatDoorZa07
import Derived.Test.YtemppijblfflgaaGreatDoorZa08
import Derived.Test.YtemppijblfflgaaGreatDoorZa10
import Derived.Test.YtemppijblfflgaaGreatDoorZa14
import Derived.Test.YtemppijblfflgaaGreatDoorZa15
import Derived.Test.YtemppijblfflgaaGreatDoorZa19
import Derived.Test.YtemppijblfflgaaGreatDoorZa20
set_option linter.all false
set_option maxRecDepth 100000
set_option maxHeartbeats 8000000
namespace Go.Proofs.YtemppijblfflgaaGreatDoor.Ev
open Go Go.RowKit
theorem pk {n:Int} (h0:0≤n) (h:n<10):Ca n=[UInt8.ofNat (48+n.toNat)]:=by
 unfold Ca
 rw[L8 (by omega)]
theorem pm {n:Int} (h:10≤n):Ca n=Ca (n/10)++[UInt8.ofNat (48+(n%10).toNat)]:=by
 unfold Ca
 rw[Ob (by omega)]
 have e1:n.toNat/10=(n/10).toNat:=by omega
 have e2:n.toNat%10=(n%10).toNat:=by omega
 rw[e1,e2]
section
variable {w:World}
attribute [local go_sem ↓] Go.wp_at_zero Go.wp_at_succ
theorem Yt (m:Int) (h0:0≤m) (h:m<256) (W:World) (b:Nat) (hc:W.cell? ⟨b,0,none⟩=some (.int .u8 m)):(convert 68 9 (.slice (some ⟨b,0,none⟩) 1 1)).run Tryz.prog W= .ok (.string ⟨#[UInt8.ofNat m.toNat]⟩) W:=by
 have:=run_convert_bytes_back (P:=Tryz.prog) W 68 9 5 ⟨b,0,none⟩ 1 [UInt8.ofNat m.toNat] Tryz.underlying68 Tryz.underlying5 JB (fun j hj=>by
  obtain rfl:j=0:=by simpa using hj
  have e:(((UInt8.ofNat m.toNat).toNat:Nat):Int)=m:=by
   rw[UInt8.toNat_ofNat']
   omega
  show W.cell? ⟨b,0,none⟩=some (.int .u8 (((UInt8.ofNat m.toNat).toNat:Nat):Int))
  rw[e]
  exact hc)
 exact this
theorem Rv {n:Int} (h0:0≤n) (h:n<10):Calls Tryz.prog 56 #[.int .i64 n] w (Do w (Ca n)):=by
 rw[pk h0 h]
 have vX:=Yt (48+n) (by omega) (by omega)
 go_enter Tryz.func56,Tryz.ntmps56
 go_wp2
 go_ret
 have e:(48+n).toNat=48+n.toNat:=by omega
 exact⟨by rw[←e];rfl,(Af.refl _ w).alloc (Ab _) _⟩
theorem V6 {n:Int} (h0:10≤n) (h:n≤999) (hf:∀W:World,Calls Tryz.prog 56 #[.int .i64 (n/10)] W (Do W (Ca (n/10)))):Calls Tryz.prog 56 #[.int .i64 n] w (Do w (Ca n)):=by
 have hd:=pm (n:=n) (by omega)
 have vX:=Yt (48+n%10) (by omega) (by omega)
 have q1:n.tdiv 10=n/10:=Int.tdiv_eq_ediv_of_nonneg (by omega)
 have q3:n.tmod 10=n%10:=rG (by omega)
 have b1:0≤n%10:=by omega
 have b2:n%10<10:=by omega
 have b3:0≤n/10:=by omega
 have b4:n/10<100:=by omega
 generalize n/10=d at*
 generalize n%10=r at*
 have q2:IntKind.i64.wrap d=d:=E9 _ (by omega)
 have q4:IntKind.i64.wrap r=r:=E9 _ (by omega)
 have q5:IntKind.i64.wrap (48+r)=48+r:=E9 _ (by omega)
 have q6:IntKind.u8.wrap (48+r)=48+r:=by unfold IntKind.wrap;simp[IntKind.signed,IntKind.bits];omega
 have vu:∀W:World,(Op.stringOp .add (⟨(Ca d).toArray⟩:ByteArray) ⟨#[UInt8.ofNat (48+r).toNat]⟩).run Tryz.prog W= .ok (.string (⟨(Ca d).toArray⟩++⟨#[UInt8.ofNat (48+r).toNat]⟩)) W:=fun W=>by
  refine run_string_add_sum W _ _ ?_
  have:=(EM (n:=d) (by omega) (by omega)).2.1
  rw[At]
  show(Ca d).length+1≤_
  omega
 have BQ:AM (w.alloc (.cells #[.int .u8 (48+r)] 5)).drew w.heap.size 5 [.int .u8 (48+r)]:=(AM.new w 5 [.int .u8 (48+r)]).drew
 have O5:=Aa BQ
 have HF:=Aa hf
 have HD:=Aa hd
 clear hf hd BQ
 unfold Do vs at*
 go_enter Tryz.func56,Tryz.ntmps56
 go_wp2_with fail
 go_region_with (go_at_call 56;refine(HF.out _).mono ?_;rintro e w1 ⟨rfl,Bi⟩;have ks:=Bi.size;(try (have y0:=(Bi.cell (p:=⟨w.heap.size,0,none⟩) (by simp)).trans (O5.out.cell 0);simp at y0)))
 all_goals go_wp2
 all_goals go_ret
 all_goals
  refine⟨?_,?_⟩
  ·have e:(48+r).toNat=48+r.toNat:=by omega
   have e2:vs (Ca d++[UInt8.ofNat (48+r.toNat)])= .string (⟨(Ca d).toArray⟩++⟨#[UInt8.ofNat (48+r).toNat]⟩):=by
    unfold vs
    rw[←BI,e]
   unfold vs at e2
   rw[HD.out,e2]
   rfl
  ·first
   |exact(((Af.refl (fun b=>w.heap.size≤b) w).drew).trans (Bi.mono (fun b hb=>hb))).alloc ks _
   |exact(((Af.refl (fun b=>w.heap.size≤b) w).alloc (Ab _) _).drew).trans (Bi.mono (fun b hb=>by simp[Ho]at hb;omega))
theorem P5 {n:Int} (h0:0≤n) (h:n≤999):Calls Tryz.prog 56 #[.int .i64 n] w (Do w (Ca n)):=by
 by_cases h1:n<10
 ·exact Rv h0 h1
 ·refine V6 (by omega) h fun W=>?_
  by_cases h2:n/10<10
  ·exact Rv (by omega) h2
  ·refine V6 (by omega) (by omega) fun W=>Rv (by omega) (by omega)
end
structure aF (w:World) (gp:Nat) (vd vr vh vm:Value) (f:Int) (l:List Bf):Prop where
 pol:AM w gp 122 [vd,.int .i64 f,vr,vh,vm,.bool true]
 decls:Sl (fun _=>True) w 130 3 vd l.length (l.flatMap FL)
 dw:Fv l
section
variable {w w':World} {gp:Nat} {vd vr vh vm:Value} {f:Int} {l:List Bf}
theorem aF.later (h:aF w gp vd vr vh vm f l) (hk:Af (fun b=>w.heap.size≤b) w w'):aF w' gp vd vr vh vm f l:=
 ⟨h.pol.kept hk (fun e=>by have:=h.pol.lt;omega),h.decls.kept hk (fun b hb e=>by have:=h.decls.lt hb;omega),h.dw⟩
theorem aF.at_ (h:aF w gp vd vr vh vm f l) {k:Int} (hk:Ix l.length k):∃(n gd cd:Nat),k=(n:Int)∧n<l.length∧vd= .slice (some ⟨gd,0,none⟩) l.length cd∧l.length≤cd∧cd≤9223372036854775807∧gd<w.heap.size∧gp<w.heap.size∧
  w.cell? ⟨gp,0,none⟩=some (.slice (some ⟨gd,0,none⟩) l.length cd)∧w.cell? ⟨gd,n*3+1,none⟩=some (vs (AI l k))∧(AI l k).length≤8:=by
 obtain⟨n,rfl⟩:∃n:Nat,k=(n:Int):=⟨k.toNat,by have:=hk.1;omega⟩
 have hn:n<l.length:=by have:=hk.2;omega
 obtain⟨gd,cd,rfl,_,q1,q2,q3⟩:=h.decls.form (by omega)
 have hx:l[n]?=some (Au l (n:Int)):=by unfold Au;rw[A3,Ah hn];rfl
 unfold maxLen at q2
 exact⟨n,gd,cd,rfl,hn,rfl,q1,q2,q3,h.pol.lt,h.pol.cell 0,h.decls.at_ (fun _=>rfl) hx (j:=1) (by omega),Dt h.dw _⟩
theorem ky (h:aF w gp vd vr vh vm f l) (v:O0) (hv:VK l v):Calls Tryz.prog 146 #[.pointer (some ⟨gp,0,none⟩),.agg (JL v).toArray] w (Do w (Dp l v)):=by
 have k0:=fun cs=>(Af.refl (fun b=>w.heap.size≤b) w).alloc (Ab _) (.cells cs 208)
 have K0:=Aa k0
 cases v with
 |num n=>
  have HD:=Aa (fun W=>P5 (w:=W) hv.1 hv.2)
  clear h k0
  show Calls _ _ _ _ (Do w (Ca n))
  unfold JL Ih D4 vs
  go_enter dt,X7
  go_wp2_with fail
  refine(HD.out _).mono ?_
  rintro e w1 ⟨rfl,Bi⟩
  have Lv:=Aa Bi
  clear Bi
  go_wp2
  go_ret
  exact⟨rfl,(K0.out _).trans (Lv.out.mono (fun b hb=>by simp at hb;omega))⟩
 |len k=>
  obtain⟨n,gd,cd,rfl,hn,rfl,q1,q2,q3,q4,d0,d1,hl⟩:=h.at_ hv.1
  have e1:¬gp=w.heap.size:=by omega
  have e2:¬gd=w.heap.size:=by omega
  show Calls _ _ _ _ (Do w (G2++BE++AI l (n:Int)))
  generalize AI l (n:Int)=nm at*
  have s1:=B6 (P:=Tryz.prog) (a:=⟨#[108,101,110,32]⟩) (b:=⟨nm.toArray⟩) (by simp only[At,Ac,Aj];omega)
  clear h k0 hv
  unfold JL Ih D4 vs at*
  go_enter dt,X7
  go_wp2
  go_region
  go_wp2
  go_ret
  exact⟨by rw[BI];rfl,(K0.out _).drew⟩
 |var k=>
  obtain⟨n,gd,cd,rfl,hn,rfl,q1,q2,q3,q4,d0,d1,hl⟩:=h.at_ hv.1
  have e1:¬gp=w.heap.size:=by omega
  have e2:¬gd=w.heap.size:=by omega
  show Calls _ _ _ _ (Do w (AI l (n:Int)))
  generalize AI l (n:Int)=nm at*
  clear h k0 hv
  unfold JL Ih D4 vs at*
  go_enter dt,X7
  go_wp2
  go_region
  go_wp2
  go_ret
  exact⟨rfl,(K0.out _).drew⟩
 |freq=>
  clear h k0 hv
  show Calls _ _ _ _ (Do w BX)
  unfold JL Ih D4 vs at*
  go_enter dt,X7
  go_wp2
  go_ret
  exact⟨rfl,K0.out _⟩
theorem N9 (c:Da):∃b0 n1 b2 n3,EU c=[vs (DN c.k),.int .i64 (BT c.k),vs b0,.int .i64 n1,vs b2,.int .i64 n3,.int .i64 c.nots]∧JH c.k=[vs b0,.int .i64 n1,vs b2,.int .i64 n3]:=by
 obtain⟨b0,n1,b2,n3,hv⟩:∃b0 n1 b2 n3,JH c.k=[vs b0,.int .i64 n1,vs b2,.int .i64 n3]:=by
  cases c.k with
  |less a b=>exact⟨_,_,_,_,rfl⟩
  |_=>exact⟨_,_,_,_,rfl⟩
 exact⟨b0,n1,b2,n3,by unfold EU;rw[hv];rfl,hv⟩
def VD (b:Ae) (n:Int):O0:=if b=ll then .num n else if b=G2 then .len n else if b=BX then .freq else .var n
theorem ZM {v:O0} {b:Ae} {n:Int} (h1:Ih v=b) (h2:D4 v=n):VD b n=v:=by
 subst h1 h2
 cases v<;>rfl
theorem fV (h:aF w gp vd vr vh vm f l) (c:Da) (hc:XQ l c.k):Calls Tryz.prog 132 #[.pointer (some ⟨gp,0,none⟩),.agg (EU c).toArray] w (Do w (CE l c)):=by
 have k0:=fun cs=>(Af.refl (fun b=>w.heap.size≤b) w).alloc (Ab _) (.cells cs 210)
 have K0:=Aa k0
 have ml:CE l c=Nn c++Is l c.k:=rfl
 have Xk:Nn c=if Dg c.nots then H6++BE else []:=by
  unfold Nn Dg
  by_cases hn:c.nots%2=1<;>simp[hn]
 have jH:(Nn c).length≤4:=by rw[Xk];split<;>simp[BE]
 obtain⟨b0,n1,b2,n3,he,hv⟩:=N9 c
 rw[he,ml]
 clear he ml
 have simple:∀(k:Int) (kw:Ae),DN c.k=kw→(kw=DT∨kw=CF∨kw=DS)→BT c.k=k→Ix l.length k→Is l c.k=kw++BE++AI l k→
   Calls Tryz.prog 132 #[.pointer (some ⟨gp,0,none⟩),.agg #[vs (DN c.k),.int .i64 (BT c.k),vs b0,.int .i64 n1,vs b2,.int .i64 n3,.int .i64 c.nots]] w (Do w (Nn c++Is l c.k)):=by
  intro k kw e1 CV e2 Zw e3
  rw[e1,e2,e3]
  obtain⟨n,gd,cd,rfl,hn,rfl,q1,q2,q3,q4,d0,d1,hl⟩:=h.at_ Zw
  have f1:¬gp=w.heap.size:=by omega
  have f2:¬gd=w.heap.size:=by omega
  generalize AI l (n:Int)=nm at*
  generalize Nn c=nb at*
  generalize c.nots=nots at*
  have ze:=Wi nots
  have wR:=Aa ze
  clear ze
  have aD:kw.length≤5:=by rcases CV with rfl|rfl|rfl<;>simp
  have ht:(((⟨nb.toArray⟩:ByteArray)++⟨kw.toArray⟩)++⟨#[32]⟩)++⟨nm.toArray⟩=⟨(nb++(kw++BE++nm)).toArray⟩:=by rw[BI,BI,BI];simp[BE]
  have s1:=B6 (P:=Tryz.prog) (a:=⟨nb.toArray⟩) (b:=⟨kw.toArray⟩) (by simp only[At];omega)
  have s2:=B6 (P:=Tryz.prog) (a:=⟨nb.toArray⟩++⟨kw.toArray⟩) (b:=⟨#[32]⟩) (by simp only[Ag,At,Ac,Aj];omega)
  have s3:=B6 (P:=Tryz.prog) (a:=⟨nb.toArray⟩++⟨kw.toArray⟩++⟨#[32]⟩) (b:=⟨nm.toArray⟩) (by simp only[Ag,At,Ac,Aj];omega)
  have HT:=Aa ht
  clear ht k0 h hv e1 e2 e3 hc Zw
  unfold vs at*
  rcases wR.out with⟨z1,z2⟩|⟨z1,z2⟩
  ·rw[show Dg nots=false from z2,Ad Bg]at Xk
   subst Xk
   have qw:IntKind.i64.wrap ((nots:Int).tmod 2)=(nots:Int).tmod 2:=E9 _ (by omega)
   rw[z1]at qw
   clear z2 wR
   rcases CV with rfl|rfl|rfl
   all_goals
    go_enter dx,Ya
    go_wp2
    go_region
    go_wp2
    go_ret
    exact⟨AL (fun x=>Ending.returned (.string x)) HT.out,(K0.out _).drew⟩
  ·rw[show Dg nots=true from z2,Ak rfl]at Xk
   obtain rfl:nb=[110,111,116,32]:=Xk
   have qw:IntKind.i64.wrap ((nots:Int).tmod 2)=(nots:Int).tmod 2:=E9 _ (by omega)
   rw[z1]at qw
   clear z2 wR
   rcases CV with rfl|rfl|rfl
   all_goals
    go_enter dx,Ya
    go_wp2
    go_region
    go_wp2
    go_ret
    exact⟨AL (fun x=>Ending.returned (.string x)) HT.out,(K0.out _).drew⟩
 cases XW:c.k with
 |full k=>rw[XW]at simple hc;exact simple k DT rfl (.inl rfl) rfl hc.1 rfl
 |empty k=>rw[XW]at simple hc;exact simple k CF rfl (.inr (.inl rfl)) rfl hc.1 rfl
 |warm k=>rw[XW]at simple hc;exact simple k DS rfl (.inr (.inr rfl)) rfl hc.1 rfl
 |less a b=>
  rw[XW]at hc hv
  have Xp:vs (Ih a)=vs b0∧Value.int .i64 (D4 a)= .int .i64 n1∧vs (Ih b)=vs b2∧Value.int .i64 (D4 b)= .int .i64 n3:=by
   unfold JH JL at hv
   simpa only[A8,CH,J9,and_true]using hv
  have Gi:VD b0 n1=a:=ZM (WP Xp.1) (by have:=Xp.2.1;injection this)
  have Fp:VD b2 n3=b:=ZM (WP Xp.2.2.1) (by have:=Xp.2.2.2;injection this)
  have la:=IC h.dw hc.1
  have lb:=IC h.dw hc.2
  rw[←Gi]at la
  rw[←Fp]at lb
  have yL:∀W (_:Af (fun b=>w.heap.size≤b) w W) (cs:List Value) (_:AM W w.heap.size 210 cs) (bs:Ae) (m:Int),(bs=b0∧m=n1)∨(bs=b2∧m=n3)→
    Calls Tryz.prog 146 #[.pointer (some ⟨gp,0,none⟩),.agg #[vs bs,.int .i64 m]] W (fun y w'=>y= .returned (vs (Dp l (VD bs m)))∧Af (fun b=>w.heap.size≤b) w w'∧AM w' w.heap.size 210 cs):=by
   intro W hk cs hr bs m hor
   have Zu:∀v,VK l v→JL v=[vs bs,.int .i64 m]→VD bs m=v→Calls Tryz.prog 146 #[.pointer (some ⟨gp,0,none⟩),.agg #[vs bs,.int .i64 m]] W (fun y w'=>y= .returned (vs (Dp l (VD bs m)))∧Af (fun b=>w.heap.size≤b) w w'∧AM w' w.heap.size 210 cs):=by
    intro v hv he hd
    have hc:=ky (h.later hk) v hv
    rw[he]at hc
    refine hc.mono ?_
    rintro y w' ⟨h1,h2⟩
    rw[hd]
    exact⟨h1,hk.trans (h2.mono (fun b hb=>Ai hk.size hb)),hr.kept h2 (fun e=>by have:=hr.lt;omega)⟩
   rcases hor with⟨rfl,rfl⟩|⟨rfl,rfl⟩
   ·exact Zu a hc.1 (by show [vs (Ih a),.int .i64 (D4 a)]=_;rw[Xp.1,Xp.2.1]) Gi
   ·exact Zu b hc.2 (by show [vs (Ih b),.int .i64 (D4 b)]=_;rw[Xp.2.2.1,Xp.2.2.2]) Fp
  have Cp:Nn c++Is l (.less a b)=Nn c++(Dp l (VD b0 n1)++[32,60,32]++Dp l (VD b2 n3)):=by rw[Gi,Fp];rfl
  rw[Cp]
  show Calls _ _ #[.pointer (some ⟨gp,0,none⟩),.agg #[vs Eu,.int .i64 0,vs b0,.int .i64 n1,vs b2,.int .i64 n3,.int .i64 c.nots]] w _
  generalize Nn c=nb at*
  generalize c.nots=nots at*
  have ze:=Wi nots
  have wR:=Aa ze
  clear ze
  clear Cp Xp Gi Fp hc hv simple h
  generalize yS:(fun bs m=>Dp l (VD bs m))=sv at*
  have e1:∀bs m,Dp l (VD bs m)=sv bs m:=fun bs m=>by rw[←yS]
  simp only[e1]at*
  clear e1 yS XW
  have ht:(((⟨nb.toArray⟩:ByteArray)++⟨(sv b0 n1).toArray⟩)++⟨#[32,60,32]⟩)++⟨(sv b2 n3).toArray⟩=⟨(nb++(sv b0 n1++[32,60,32]++sv b2 n3)).toArray⟩:=by rw[BI,BI,BI];simp
  have s1:=B6 (P:=Tryz.prog) (a:=⟨nb.toArray⟩) (b:=⟨(sv b0 n1).toArray⟩) (by simp only[At];omega)
  have s2:=B6 (P:=Tryz.prog) (a:=⟨nb.toArray⟩++⟨(sv b0 n1).toArray⟩) (b:=⟨#[32,60,32]⟩) (by simp only[Ag,At,Ac,Aj];omega)
  have s3:=B6 (P:=Tryz.prog) (a:=⟨nb.toArray⟩++⟨(sv b0 n1).toArray⟩++⟨#[32,60,32]⟩) (b:=⟨(sv b2 n3).toArray⟩) (by simp only[Ag,At,Ac,Aj];omega)
  have HT:=Aa ht
  have rK:=Aa yL
  have r0:AM (w.alloc (.cells #[vs Eu,.int .i64 0,vs b0,.int .i64 n1,vs b2,.int .i64 n3,.int .i64 (nots:Int)] 210)).drew w.heap.size 210 [vs Eu,.int .i64 0,vs b0,.int .i64 n1,vs b2,.int .i64 n3,.int .i64 (nots:Int)]:=(AM.new w 210 _).drew
  have R0:=Aa r0
  have KD:=Aa (K0.out #[vs Eu,.int .i64 0,vs b0,.int .i64 n1,vs b2,.int .i64 n3,.int .i64 (nots:Int)]).drew
  clear ht yL k0 r0 K0
  unfold vs at*
  rcases wR.out with⟨z1,z2⟩|⟨z1,z2⟩
  ·rw[show Dg nots=false from z2,Ad Bg]at Xk
   subst Xk
   have qw:IntKind.i64.wrap ((nots:Int).tmod 2)=(nots:Int).tmod 2:=E9 _ (by omega)
   rw[z1]at qw
   clear z2 wR
   go_enter dx,Ya
   go_wp2_with fail
   go_region_law (first
    |(go_simp;go_at_call 146;refine(rK.out _ ka _ ra _ _ ?_).mono ?_;(first|exact .inl ⟨rfl,rfl⟩|exact .inr ⟨rfl,rfl⟩);rintro y w3 ⟨rfl,kb,rb⟩)
    |(go_simp;go_at_call 146;refine(rK.out _ KD.out _ R0.out _ _ ?_).mono ?_;(first|exact .inl ⟨rfl,rfl⟩|exact .inr ⟨rfl,rfl⟩);rintro y w2 ⟨rfl,ka,ra⟩;have fB:=ra.cell 2;have t8:=ra.cell 3;have Rs:=ra.cell 4;have Rr:=ra.cell 5;simp at fB t8 Rs Rr))
   all_goals go_wp2
   all_goals go_ret
   all_goals exact⟨AL (fun x=>Ending.returned (.string x)) HT.out,kb⟩
  ·rw[show Dg nots=true from z2,Ak rfl]at Xk
   obtain rfl:nb=[110,111,116,32]:=Xk
   have qw:IntKind.i64.wrap ((nots:Int).tmod 2)=(nots:Int).tmod 2:=E9 _ (by omega)
   rw[z1]at qw
   clear z2 wR
   go_enter dx,Ya
   go_wp2_with fail
   go_region_law (first
    |(go_simp;go_at_call 146;refine(rK.out _ ka _ ra _ _ ?_).mono ?_;(first|exact .inl ⟨rfl,rfl⟩|exact .inr ⟨rfl,rfl⟩);rintro y w3 ⟨rfl,kb,rb⟩)
    |(go_simp;go_at_call 146;refine(rK.out _ KD.out _ R0.out _ _ ?_).mono ?_;(first|exact .inl ⟨rfl,rfl⟩|exact .inr ⟨rfl,rfl⟩);rintro y w2 ⟨rfl,ka,ra⟩;have fB:=ra.cell 2;have t8:=ra.cell 3;have Rs:=ra.cell 4;have Rr:=ra.cell 5;simp at fB t8 Rs Rr))
   all_goals go_wp2
   all_goals go_ret
   all_goals exact⟨AL (fun x=>Ending.returned (.string x)) HT.out,kb⟩
end
end Go.Proofs.YtemppijblfflgaaGreatDoor.Ev
namespace Go.Proofs.YtemppijblfflgaaGreatDoor.Ev
def FE (r:Except Nat GK):Prop:=
 match r with
 | .error k=>k=UK∨k=Oa
 | .ok _=>True
theorem US (l:List Bf) (en:Lo) (a b:Int) (t:Bool) (r:GK):FE (Nm l en a b t r):=by
 unfold Nm
 split
 ·exact .inl rfl
 ·exact trivial
theorem pM (p:AF) (key:Int) (x:D9) (r:GK):FE (prim p key x r):=by
 cases x with
 |put q t=>
  unfold prim
  simp only
  split
  ·exact US _ _ _ _ _ _
  ·exact US _ _ _ _ _ _
 |evict q=>
  unfold prim
  simp only
  split
  ·exact .inr rfl
  ·exact trivial
 |cool q=>
  unfold prim
  simp only
  split
  ·exact .inr rfl
  ·exact trivial
 |shift q b t=>
  unfold prim
  simp only
  split
  ·exact .inr rfl
  ·exact US _ _ _ _ _ _
 |inc v=>exact trivial
 |dec v=>exact trivial
 |drop=>
  unfold prim
  simp only
  split<;>exact trivial
 |bump=>
  unfold prim
  simp only
  split<;>exact trivial
theorem eC {c:St→Bool} {f:GK→Except Nat GK} (hf:∀r,FE (f r)):∀(n:Nat) (r:GK),FE (IV c f n r)
 |0,r=>trivial
 |n+1,r=>by
  unfold IV
  split
  ·cases h:f r with
   |ok r'=>exact eC hf n r'
   |error k=>have:=hf r;rw[h]at this;exact this
  ·exact trivial
theorem M5 (p:AF) (key:Int):∀(b:AC) (r:GK),FE (exec p key b r)
 | .nil,r=>trivial
 | .prim x b,r=>by
  unfold exec
  cases h:prim p key x r with
  |ok r'=>exact M5 p key b r'
  |error k=>have:=pM p key x r;rw[h]at this;exact this
 | .ite c t o e b,r=>by
  unfold exec
  have h1:FE (if CW p.decls key r.s c then exec p key t r else if o then exec p key e r else .ok r):=by
   split
   ·exact M5 p key t r
   ·split
    ·exact M5 p key e r
    ·exact trivial
  cases h:(if CW p.decls key r.s c then exec p key t r else if o then exec p key e r else .ok r)with
  |ok r'=>exact M5 p key b r'
  |error k=>rw[h]at h1;exact h1
 | .rep n c x b,r=>by
  unfold exec
  have h1:=eC (c:=fun s=>CW p.decls key s c) (f:=exec p key x) (fun r=>M5 p key x r) n.toNat r
  cases h:IV (fun s=>CW p.decls key s c) (exec p key x) n.toNat r with
  |ok r'=>exact M5 p key b r'
  |error k=>rw[h]at h1;exact h1
theorem mY {p:AF} {key:Int} {b:AC} {r:GK} {k:Nat} (h:exec p key b r= .error k):1≤k∧k≤12:=by
 have:=M5 p key b r
 rw[h]at this
 rcases this with rfl|rfl<;>exact⟨by decide,by decide⟩
theorem PW {p:AF} {s:St} (hs:Hc p s) (key:Int):FG s key= -1∨Ix p.decls.length (FG s key):=by
 unfold FG
 cases hf:s.find key with
 |none=>exact .inl rfl
 |some x=>
  obtain⟨k,i⟩:=x
  obtain⟨l,h,_⟩:=mV hf
  have:=(Ap.1 h).1
  rw[hs.q]at this
  exact .inr ⟨by simp,by simp;exact this⟩
end Go.Proofs.YtemppijblfflgaaGreatDoor.Ev
namespace Go.Proofs.YtemppijblfflgaaGreatDoor.Ev
open Go Go.RowKit
def zW7 (cs:List Value):Prop:=∃(k:Ae) (n m:Int) (t:Bool) (b0:Ae) (i1:Int) (b2:Ae) (i3:Int) (b4:Ae) (i5:Int) (i6:Int) (a1:Option Addr) (n1 c1:Nat) (a2:Option Addr) (n2 c2:Nat) (o:Bool),
 cs=[vs k,.int .i64 n,.int .i64 m,.bool t,vs b0,.int .i64 i1,vs b2,.int .i64 i3,vs b4,.int .i64 i5,.int .i64 i6,.slice a1 n1 c1,.slice a2 n2 c2,.bool o]
theorem Qg (c:CK):∃b0 n1 b2 n3,JH c=[vs b0,.int .i64 n1,vs b2,.int .i64 n3]:=by
 cases c with
 |less a b=>exact⟨_,_,_,_,rfl⟩
 |_=>exact⟨_,_,_,_,rfl⟩
theorem jW.form_ {N:Nat→Prop} {w:World} {v:Value} {n:Nat} {cs:List Value} (h:jW N w v n cs):∃a c,v= .slice a n c:=h.any_
theorem AW.part {N:Nat→Prop} {w:World}:∀(b:AC) (cs:List Value),b≠.nil→AW N w b cs→∃x tl JT Nr,b=x.app tl∧x.length=1∧cs=JT++Nr∧zW7 JT∧AW N w x JT∧AW N w tl Nr∧b.length=tl.length+1∧x.size+tl.size=b.size
 | .nil,cs,h,_=>absurd rfl h
 | .prim p r,cs,_,⟨rest,h1,h2⟩=>
  ⟨.prim p .nil,r,G9 p,rest,rfl,rfl,h1,⟨_,_,_,_,_,_,_,_,_,_,_,_,_,_,_,_,_,_,rfl⟩,⟨[],by simp,rfl⟩,h2,by simp[AC.length],by simp[AC.size]⟩
 | .ite c t o e r,cs,_,⟨vt,ve,rest,h1,ht,he,hr⟩=>by
  obtain⟨ct,vY,_⟩:=id ht
  obtain⟨a1,c1,bP⟩:=vY.form_
  have Vt:∃a n c,ve= .slice a n c:=by
   cases o with
   |true=>
    rw[Ak rfl]at he
    obtain⟨ce,qF,_⟩:=he
    obtain⟨a2,c2,h⟩:=qF.form_
    exact⟨_,_,_,h⟩
   |false=>
    rw[Ad Bg]at he
    exact⟨none,0,0,he.1⟩
  obtain⟨a2,n2,c2,Vt⟩:=Vt
  obtain⟨b0,n1,b2,n3,hv⟩:=Qg c.k
  refine⟨.ite c t o e .nil,r,Lc c vt o ve,rest,rfl,rfl,h1,?_,⟨vt,ve,[],by simp,ht,he,rfl⟩,hr,by simp[AC.length],by simp[AC.size];try omega⟩
  unfold Lc EU
  rw[hv,bP,Vt]
  exact⟨_,_,_,_,_,_,_,_,_,_,_,_,_,_,_,_,_,_,rfl⟩
 | .rep n c b r,cs,_,⟨vt,rest,h1,ht,hr⟩=>by
  obtain⟨ct,vY,_⟩:=id ht
  obtain⟨a1,c1,bP⟩:=vY.form_
  obtain⟨b0,n1,b2,n3,hv⟩:=Qg c.k
  refine⟨.rep n c b .nil,r,JM n c vt,rest,rfl,rfl,h1,?_,⟨vt,[],by simp,ht,rfl⟩,hr,by simp[AC.length],by simp[AC.size];try omega⟩
  unfold JM EU
  rw[hv,bP]
  exact⟨_,_,_,_,_,_,_,_,_,_,_,_,_,_,_,_,_,_,rfl⟩
def ry (m:Nat):Prop:=∀(w:World) (gp:Nat) (vd vr vh vm:Value) (f:Int) (l:List Bf) (x:AC) (cs:List Value) (s:Ae),aF w gp vd vr vh vm f l→x.length=1→x.size≤m→x.size≤1000→EG l x→AW Lw w x cs→As l x=BE++s→
  Calls Tryz.prog 97 #[.pointer (some ⟨gp,0,none⟩),.agg cs.toArray] w (Do w s)
def jm (m:Nat):Prop:=∀(w:World) (gp:Nat) (vd vr vh vm:Value) (f:Int) (l:List Bf) (b:AC) (v:Value),aF w gp vd vr vh vm f l→b.size≤m→b.size≤1000→EG l b→C0 Lw w v b→
  Calls Tryz.prog 57 #[.pointer (some ⟨gp,0,none⟩),v] w (Do w (BJ l b))
theorem W2 {N:Nat→Prop} {w w':World} (hk:Af (fun b=>w.heap.size≤b) w w') {b:AC} {cs:List Value} (h:AW N w b cs):AW N w' b cs:=
 AW.kept (fun k _ _ hr=>hk.block k (fun hh=>by have:=hr.lt;omega)) b cs h
theorem T8 {N:Nat→Prop} {w w':World} (hk:Af (fun b=>w.heap.size≤b) w w') {b:AC} {v:Value} (h:C0 N w v b):C0 N w' v b:=
 h.kept (fun k _ _ hr=>hk.block k (fun hh=>by have:=hr.lt;omega))
structure UX (w0:World) (b:AC) (cs:List Value) (k:Nat) (wr:World) (done rest:AC) (QU Nz:List Value):Prop where
 eq:b=done.app rest
 cs:cs=QU++Nz
 csl:QU.length=k*14
 k:k+rest.length=b.length
 sz:done.size+rest.size=b.size
 stm:AW Lw w0 rest Nz
 kept:Af (fun b=>w0.heap.size≤b) w0 wr
section
variable {w0 wr:World} {k:Nat} {b done rest:AC} {cs QU Nz:List Value}
theorem UX.next {g cap:Nat} (h:UX w0 b cs k wr done rest QU Nz) (hs:Sl Lw w0 212 14 (.slice (some ⟨g,0,none⟩) b.length cap) b.length cs) (hk:k<b.length):
  ∃x tl JT Nr,rest=x.app tl∧x.length=1∧Nz=JT++Nr∧zW7 JT∧AW Lw w0 x JT∧AW Lw w0 tl Nr∧rest.length=tl.length+1∧x.size+tl.size=rest.size∧
   (∀j,j<14→wr.cell? ⟨g,k*14+j,none⟩=JT[j]?)∧g<wr.heap.size:=by
 have Cu:rest≠.nil:=by
  rintro rfl
  have:=h.k
  simp[AC.length]at this
  omega
 obtain⟨x,tl,JT,Nr,e1,e2,e3,e4,e5,e6,e7,e8⟩:=AW.part rest Nz Cu h.stm
 have uY:JT.length=14:=by
  obtain⟨_,_,_,_,_,_,_,_,_,_,_,_,_,_,_,_,_,_,rfl⟩:=e4
  rfl
 refine⟨x,tl,JT,Nr,e1,e2,e3,e4,e5,e6,e7,e8,fun j hj=>?_,AD (hs.lt rfl) h.kept.size⟩
 have hb:k*14+j<b.length*14:=by omega
 have h1:=hs.1.cellAt _ hb
 have h2:cs[k*14+j]?=JT[j]?:=by
  rw[h.cs,e3,Ck (by rw[h.csl];omega),h.csl,Dj,B7 (by omega)]
 have SX:=hs.lt (g:=g) rfl
 exact((h.kept.cell (p:=⟨g,k*14+j,none⟩) (fun hh=>by simp only at hh;omega)).trans h1).trans h2
theorem UX.step {x tl:AC} {JT Nr:List Value} {w':World} (h:UX w0 b cs k wr done rest QU Nz) (e1:rest=x.app tl) (e3:Nz=JT++Nr) (hx:JT.length=14) (e6:AW Lw w0 tl Nr)
  (e7:rest.length=tl.length+1) (e8:x.size+tl.size=rest.size) (hk:Af (fun b=>wr.heap.size≤b) wr w'):UX w0 b cs (k+1) w' (done.app x) tl (QU++JT) Nr:=
 ⟨by rw[h.eq,e1,Hq],by rw[h.cs,e3,Al],by rw[Ao,h.csl,hx];omega,by have:=h.k;omega,by rw[Jd];have:=h.sz;omega,e6,h.kept.trans (hk.mono (fun b hb=>Ai h.kept.size hb))⟩
end
theorem TH {m:Nat} (CP:ry m):jm m:=by
 intro w gp vd vr vh vm f l b v h Fw JS hW hb
 obtain⟨cs,hs,Zm⟩:=hb
 obtain⟨ag,cap,rfl⟩:=hs.any_
 have Vd:UX w b cs 0 w .nil b [] cs:=⟨by simp[AC.app],by simp,by simp,by omega,by simp[AC.size],Zm,Af.refl _ _⟩
 have OH:b.length≤1000:=by
  have:∀b:AC,b.length≤b.size:=by
   intro b
   induction b with
   |nil=>simp[AC.length]
   |prim p r ih=>simp[AC.length,AC.size];omega
   |ite c t o e r _ _ ih=>simp[AC.length,AC.size];omega
   |rep n c b r _ ih=>simp[AC.length,AC.size];omega
  have:=this b
  omega
 have LW:∀d r:AC,b=d.app r→(Bo++As l d++BE).length≤200000:=by
  intro d r e
  rw[e,Pn]at hW
  rw[e,Jd]at JS
  have:=Ed h.dw d hW.1
  simp only[Ao,Ac,Aj,BE]
  omega
 have Vh:=Aa CP
 have H:=Aa h
 have tM:=Aa hs
 have HL0:=Aa Vd
 have ya:=Aa Fw
 have wN:=Aa JS
 have HW:=Aa hW
 have XL:=Aa LW
 clear CP h hs Vd Zm Fw JS hW LW
 go_enter Tryz.func57,Tryz.ntmps57
 go_wp2_with fail
 go_loopg [10,5] b.length (fun _s us s5 wr=>∃k done rest QU Nz,k≤b.length∧b.length-k≤_s∧us= .int .i64 (k:Nat)∧s5= .string ⟨(Bo++As l done++BE).toArray⟩∧UX w b cs k wr done rest QU Nz)
 case atStart=>exact⟨0,.nil,b,[],cs,Bn _,by omega,rfl,rfl,HL0.out⟩
 case round=>
  obtain⟨k,done,rest,QU,Nz,Jj,hg,rfl,rfl,hL⟩:=hrel
  have hlen:=XL.out done rest hL.eq
  by_cases Cy:k<b.length
  ·obtain⟨g,_H,ec,_⟩:=tM.out.form (by omega)
   injection ec with ea _ ec
   subst ea ec
   obtain⟨x,tl,JT,Nr,e1,e2,e3,e4,e5,e6,e7,e8,hc,SX⟩:=hL.next tM.out Cy
   have uY:JT.length=14:=by
    obtain⟨_,_,_,_,_,_,_,_,_,_,_,_,_,_,_,_,_,_,rfl⟩:=id e4
    rfl
   have MF:=XL.out (done.app x) tl (by rw[hL.eq,e1,Hq])
   rw[Fs]at MF
   obtain⟨sx,jF⟩:=YB l x e2
   rw[jF]at MF
   have bO:=HW.out
   rw[hL.eq,e1,Pn,Pn]at bO
   have HE:=Aa (And.intro e1 (And.intro e2 (And.intro e3 (And.intro uY (And.intro e5 (And.intro e6 (And.intro e7 (And.intro e8 bO.2.1))))))))
   obtain⟨k_,n_,m_,t_,XB,Xg,XA,Xf,Xz,Xe,i6_,RW,Rz,RS,RU,Ry,RR,o_,rfl⟩:=e4
   have x0:=hc 0 (by omega)
   have x1:=hc 1 (by omega)
   have x2:=hc 2 (by omega)
   have x3:=hc 3 (by omega)
   have x4:=hc 4 (by omega)
   have x5:=hc 5 (by omega)
   have x6:=hc 6 (by omega)
   have x7:=hc 7 (by omega)
   have x8:=hc 8 (by omega)
   have x9:=hc 9 (by omega)
   have ub:=hc 10 (by omega)
   have pi:=hc 11 (by omega)
   have j8:=hc 12 (by omega)
   have x13:=hc 13 (by omega)
   have HL:=Aa hL
   have HSX:=Aa jF
   have ol:Bo++As l (done.app x)++BE=(Bo++As l done++BE)++(sx++BE):=by rw[Fs,jF];simp only[Al]
   simp only[Ao,Ac,Aj]at MF
   generalize hS:Bo++As l done++BE=S at*
   have Mh:sx.length≤200000:=by omega
   have s1:=B6 (P:=Tryz.prog) (a:=⟨sx.toArray⟩) (b:=⟨#[32]⟩) (by simp only[At,Ac,Aj];omega)
   have s2:=B6 (P:=Tryz.prog) (a:=⟨S.toArray⟩) (b:=⟨sx.toArray⟩++⟨#[32]⟩) (by simp only[Ag,At,Ac,Aj];omega)
   have A6:(⟨S.toArray⟩:ByteArray)++(⟨sx.toArray⟩++⟨#[32]⟩)=⟨(Bo++As l (done.app x)++BE).toArray⟩:=by rw[ol,BI,BI];rfl
   have Jo:=Aa A6
   clear hL hc e1 e2 e3 e5 e6 e7 e8 uY jF ol A6 hS bO MF Mh hlen
   unfold vs at*
   simp only[Eb,Bm,Ta]at x0 x1 x2 x3 x4 x5 x6 x7 x8 x9 ub pi j8 x13
   go_wp2_with fail
   have ka:Af (fun b=>wr.heap.size≤b) wr (wr.alloc (.cells #[.string ⟨k_.toArray⟩,.int .i64 n_,.int .i64 m_,.bool t_,.string ⟨XB.toArray⟩,.int .i64 Xg,.string ⟨XA.toArray⟩,.int .i64 Xf,.string ⟨Xz.toArray⟩,.int .i64 Xe,.int .i64 i6_,.slice RW Rz RS,.slice RU Ry RR,.bool o_] 212)):=(Af.refl _ wr).alloc (Ab _) _
   have CV:Af (fun b=>w.heap.size≤b) w _:=HL.out.kept.trans (ka.mono (fun b hb=>Ai HL.out.kept.size hb))
   refine(Vh.out _ gp vd vr vh vm f l x _ sx (H.out.later CV) HE.out.2.1 (by have:=HL.out.sz;have:=HE.out.2.2.2.2.2.2.2.1;have:=ya.out;omega) (by have:=HL.out.sz;have:=HE.out.2.2.2.2.2.2.2.1;have:=wN.out;omega) HE.out.2.2.2.2.2.2.2.2 (W2 CV HE.out.2.2.2.2.1) HSX.out).mono ?_
   rintro e w2 ⟨rfl,A4⟩
   have F:=Aa (HL.out.step HE.out.1 HE.out.2.2.1 HE.out.2.2.2.1 HE.out.2.2.2.2.2.1 HE.out.2.2.2.2.2.2.1 HE.out.2.2.2.2.2.2.2.1 (ka.trans (A4.mono (fun b hb=>Ai ka.size hb))))
   clear ka CV A4
   go_wp2
   go_roundg (b.length-(k+1))
   case measure=>omega
   case rel=>exact⟨k+1,_,_,_,_,by omega,by omega,by go_num,AL Value.string Jo.out,F.out⟩
  ·have Uv:rest= .nil:=by
    have:=hL.k
    cases rest with
    |nil=>rfl
    |prim p r=>simp[AC.length]at this;omega
    |ite c t o e r=>simp[AC.length]at this;omega
    |rep n c b r=>simp[AC.length]at this;omega
   have Ph:b=done:=by rw[hL.eq,Uv];exact M8 done
   have A6:BJ l b=(Bo++As l done++BE)++[125]:=by rw[Ph];simp[BJ,BE]
   have F:=Aa hL.kept
   generalize Bo++As l done++BE=S at*
   have o7:=Aa A6
   have s1:=B6 (P:=Tryz.prog) (a:=⟨S.toArray⟩) (b:=⟨#[125]⟩) (by simp only[At,Ac,Aj];omega)
   clear hL Uv Ph A6
   go_wp2
   go_ret
   exact⟨by rw[o7.out];exact AL (fun x=>Ending.returned (.string x)) (BI _ _),F.out⟩
section
variable {w:World} {gp:Nat} {vd vr vh vm:Value} {f:Int} {l:List Bf}
theorem P1 (h:aF w gp vd vr vh vm f l) (kw:Ae) (CV:kw=Hn∨kw=Db∨kw=Ew∨kw=Ia∨kw=Ib) {k:Int} (hk:Ix l.length k) (tl:Bool):
  Calls Tryz.prog 97 #[.pointer (some ⟨gp,0,none⟩),.agg ([vs kw,.int .i64 k,.int .i64 0,.bool tl]++Ge++[Bx,Bx,.bool false]).toArray] w (Do w (kw++BE++AI l k++C4 tl++Ar)):=by
 have k0:=fun cs=>(Af.refl (fun b=>w.heap.size≤b) w).alloc (Ab _) (.cells cs 212)
 have K0:=Aa k0
 obtain⟨n,gd,cd,rfl,hn,rfl,q1,q2,q3,q4,d0,d1,hl⟩:=h.at_ hk
 have f1:¬gp=w.heap.size:=by omega
 have f2:¬gd=w.heap.size:=by omega
 generalize AI l (n:Int)=nm at*
 have aD:kw.length≤5:=by rcases CV with rfl|rfl|rfl|rfl|rfl<;>simp
 have s1:=B6 (P:=Tryz.prog) (a:=⟨#[32]⟩) (b:=⟨nm.toArray⟩) (by simp only[At,Ac,Aj];omega)
 have s2:=B6 (P:=Tryz.prog) (a:=⟨kw.toArray⟩) (b:=⟨#[32]⟩++⟨nm.toArray⟩) (by simp only[Ag,At,Ac,Aj];omega)
 have s3:=B6 (P:=Tryz.prog) (a:=⟨kw.toArray⟩++(⟨#[32]⟩++⟨nm.toArray⟩)) (b:=⟨#[32,116,97,105,108]⟩) (by simp only[Ag,At,Ac,Aj];omega)
 have s4:=B6 (P:=Tryz.prog) (a:=⟨kw.toArray⟩++(⟨#[32]⟩++⟨nm.toArray⟩)++⟨#[32,116,97,105,108]⟩) (b:=⟨#[59]⟩) (by simp only[Ag,At,Ac,Aj];omega)
 have s5:=B6 (P:=Tryz.prog) (a:=⟨kw.toArray⟩++(⟨#[32]⟩++⟨nm.toArray⟩)) (b:=⟨#[59]⟩) (by simp only[Ag,At,Ac,Aj];omega)
 have ht:if tl then(⟨kw.toArray⟩:ByteArray)++(⟨#[32]⟩++⟨nm.toArray⟩)++⟨#[32,116,97,105,108]⟩++⟨#[59]⟩=⟨(kw++BE++nm++C4 tl++Ar).toArray⟩else(⟨kw.toArray⟩:ByteArray)++(⟨#[32]⟩++⟨nm.toArray⟩)++⟨#[59]⟩=⟨(kw++BE++nm++C4 tl++Ar).toArray⟩:=by
  cases tl with
  |true=>rw[Ak rfl,BI,BI,BI,BI];simp[BE,C4]
  |false=>rw[Ad Bg,BI,BI,BI];simp[BE,C4]
 have HT:=Aa ht
 clear ht k0 h hk aD
 unfold Ge Bx vs at*
 cases tl with
 |false=>
  have Qz:=HT.out
  rw[Ad Bg]at Qz
  have wL:=Aa Qz
  clear Qz
  rcases CV with rfl|rfl|rfl|rfl|rfl
  all_goals
   go_enter Kz,JC
   go_wp2
   go_region
   go_wp2
   go_ret
   exact⟨AL (fun x=>Ending.returned (.string x)) wL.out,(K0.out _).drew⟩
 |true=>
  have Qz:=HT.out
  rw[Ak rfl]at Qz
  have wL:=Aa Qz
  clear Qz
  rcases CV with rfl|rfl|rfl|rfl|rfl
  all_goals
   go_enter Kz,JC
   go_wp2
   go_region
   go_wp2
   go_ret
   exact⟨AL (fun x=>Ending.returned (.string x)) wL.out,(K0.out _).drew⟩
theorem Yq (kw:Ae) (CV:kw=EJ∨kw=EK):
  Calls Tryz.prog 97 #[.pointer (some ⟨gp,0,none⟩),.agg ([vs kw,.int .i64 0,.int .i64 0,.bool false]++Ge++[Bx,Bx,.bool false]).toArray] w (Do w (kw++Ar)):=by
 have k0:=fun cs=>(Af.refl (fun b=>w.heap.size≤b) w).alloc (Ab _) (.cells cs 212)
 have K0:=Aa k0
 have aD:kw.length≤5:=by rcases CV with rfl|rfl<;>simp
 have s1:=B6 (P:=Tryz.prog) (a:=⟨kw.toArray⟩) (b:=⟨#[59]⟩) (by simp only[At,Ac,Aj];omega)
 have ht:(⟨kw.toArray⟩:ByteArray)++⟨#[59]⟩=⟨(kw++Ar).toArray⟩:=by rw[BI]
 have HT:=Aa ht
 clear ht k0 aD
 unfold Ge Bx vs at*
 rcases CV with rfl|rfl
 all_goals
  go_enter Kz,JC
  go_wp2
  go_ret
  exact⟨AL (fun x=>Ending.returned (.string x)) HT.out,K0.out _⟩
theorem fO (h:aF w gp vd vr vh vm f l) {k j:Int} (hk:Ix l.length k) (hj:Ix l.length j) (tl:Bool):
  Calls Tryz.prog 97 #[.pointer (some ⟨gp,0,none⟩),.agg ([vs CN,.int .i64 k,.int .i64 j,.bool tl]++Ge++[Bx,Bx,.bool false]).toArray] w (Do w (CN++BE++AI l k++BE++AI l j++C4 tl++Ar)):=by
 have k0:=fun cs=>(Af.refl (fun b=>w.heap.size≤b) w).alloc (Ab _) (.cells cs 212)
 have K0:=Aa k0
 obtain⟨n,gd,cd,rfl,hn,hvd,q1,q2,q3,q4,d0,d1,hl⟩:=h.at_ hk
 obtain⟨n2,gd2,cd2,rfl,PR,vi,_,_,_,_,_,d2,Ik⟩:=h.at_ hj
 subst hvd
 injection vi with e1 _ e2
 injection e1 with e1
 injection e1 with e1
 subst e1 e2
 have f1:¬gp=w.heap.size:=by omega
 have f2:¬gd=w.heap.size:=by omega
 generalize AI l (n:Int)=nm at*
 generalize AI l (n2:Int)=bD at*
 have s1:=B6 (P:=Tryz.prog) (a:=⟨#[32]⟩) (b:=⟨nm.toArray⟩) (by simp only[Ag,At,Ac,Aj];omega)
 have s2:=B6 (P:=Tryz.prog) (a:=⟨#[115,104,105,102,116]⟩) (b:=⟨#[32]⟩++⟨nm.toArray⟩) (by simp only[Ag,At,Ac,Aj];omega)
 have s3:=B6 (P:=Tryz.prog) (a:=⟨#[32]⟩) (b:=⟨bD.toArray⟩) (by simp only[Ag,At,Ac,Aj];omega)
 have s4:=B6 (P:=Tryz.prog) (a:=⟨#[115,104,105,102,116]⟩++(⟨#[32]⟩++⟨nm.toArray⟩)) (b:=⟨#[32]⟩++⟨bD.toArray⟩) (by simp only[Ag,At,Ac,Aj];omega)
 have s5:=B6 (P:=Tryz.prog) (a:=⟨#[115,104,105,102,116]⟩++(⟨#[32]⟩++⟨nm.toArray⟩)++(⟨#[32]⟩++⟨bD.toArray⟩)) (b:=⟨#[32,116,97,105,108]⟩) (by simp only[Ag,At,Ac,Aj];omega)
 have s6:=B6 (P:=Tryz.prog) (a:=⟨#[115,104,105,102,116]⟩++(⟨#[32]⟩++⟨nm.toArray⟩)++(⟨#[32]⟩++⟨bD.toArray⟩)++⟨#[32,116,97,105,108]⟩) (b:=⟨#[59]⟩) (by simp only[Ag,At,Ac,Aj];omega)
 have s7:=B6 (P:=Tryz.prog) (a:=⟨#[115,104,105,102,116]⟩++(⟨#[32]⟩++⟨nm.toArray⟩)++(⟨#[32]⟩++⟨bD.toArray⟩)) (b:=⟨#[59]⟩) (by simp only[Ag,At,Ac,Aj];omega)
 have ht:if tl then(⟨#[115,104,105,102,116]⟩++(⟨#[32]⟩++⟨nm.toArray⟩)++(⟨#[32]⟩++⟨bD.toArray⟩)++⟨#[32,116,97,105,108]⟩++⟨#[59]⟩:ByteArray)=⟨(CN++BE++nm++BE++bD++C4 tl++Ar).toArray⟩else(⟨#[115,104,105,102,116]⟩++(⟨#[32]⟩++⟨nm.toArray⟩)++(⟨#[32]⟩++⟨bD.toArray⟩)++⟨#[59]⟩:ByteArray)=⟨(CN++BE++nm++BE++bD++C4 tl++Ar).toArray⟩:=by
  cases tl with
  |true=>rw[Ak rfl,BI,BI,BI,BI,BI,BI];simp[BE,C4]
  |false=>rw[Ad Bg,BI,BI,BI,BI,BI];simp[BE,C4]
 have HT:=Aa ht
 clear ht k0 h hk hj
 unfold Ge Bx vs at*
 cases tl with
 |false=>
  have Qz:=HT.out
  rw[Ad Bg]at Qz
  have wL:=Aa Qz
  clear Qz
  go_enter Kz,JC
  go_wp2
  go_region
  go_wp2
  go_region
  go_wp2
  go_ret
  exact⟨AL (fun x=>Ending.returned (.string x)) wL.out,(K0.out _).drew.drew⟩
 |true=>
  have Qz:=HT.out
  rw[Ak rfl]at Qz
  have wL:=Aa Qz
  clear Qz
  go_enter Kz,JC
  go_wp2
  go_region
  go_wp2
  go_region
  go_wp2
  go_ret
  exact⟨AL (fun x=>Ending.returned (.string x)) wL.out,(K0.out _).drew.drew⟩
end
section
variable {w:World} {gp:Nat} {vd vr vh vm:Value} {f:Int} {l:List Bf} {m:Nat}
theorem V7 (h:aF w gp vd vr vh vm f l) (c:Da) (hc:XQ l c.k) (cs:List Value):∀W,Af (fun b=>w.heap.size≤b) w W→AM W w.heap.size 212 cs→
  Calls Tryz.prog 132 #[.pointer (some ⟨gp,0,none⟩),.agg (EU c).toArray] W fun y w'=>y= .returned (vs (CE l c))∧Af (fun b=>w.heap.size≤b) w w'∧AM w' w.heap.size 212 cs:=fun W hk hr=>by
 refine(fV (h.later hk) c hc).mono ?_
 rintro y w' ⟨h1,h2⟩
 exact⟨h1,hk.trans (h2.mono (fun b hb=>Ai hk.size hb)),hr.kept h2 (fun e=>by have:=hr.lt;omega)⟩
theorem TI (hB:jm m) (h:aF w gp vd vr vh vm f l) {b:AC} {v:Value} (hs:b.size≤m) (Cp:b.size≤1000) (hw:EG l b) (hb:C0 Lw w v b) (cs:List Value):∀W,Af (fun b=>w.heap.size≤b) w W→AM W w.heap.size 212 cs→
  Calls Tryz.prog 57 #[.pointer (some ⟨gp,0,none⟩),v] W fun y w'=>y= .returned (vs (BJ l b))∧Af (fun b=>w.heap.size≤b) w w'∧AM w' w.heap.size 212 cs:=fun W hk hr=>by
 refine(hB W gp vd vr vh vm f l b v (h.later hk) hs Cp hw (T8 hk hb)).mono ?_
 rintro y w' ⟨h1,h2⟩
 exact⟨h1,hk.trans (h2.mono (fun b hb=>Ai hk.size hb)),hr.kept h2 (fun e=>by have:=hr.lt;omega)⟩
theorem uk (hB:jm m) (h:aF w gp vd vr vh vm f l) {c:Da} (hc:XQ l c.k) {t e:AC} {vt ve:Value} {o:Bool} (ht:C0 Lw w vt t) (he:if o then C0 Lw w ve e else ve=Bx∧e= .nil) (CP:t.size≤m) (Vu:e.size≤m) (Fw:t.size+e.size≤1000) (Zi:EG l t) (qh:EG l e):
  Calls Tryz.prog 97 #[.pointer (some ⟨gp,0,none⟩),.agg (Lc c vt o ve).toArray] w (Do w (Iw++BE++CE l c++BE++BJ l t++(if o then BE++BH++BE++BJ l e else []))):=by
 have k0:=fun cs=>(Af.refl (fun b=>w.heap.size≤b) w).alloc (Ab _) (.cells cs 212)
 obtain⟨b0,n1,b2,n3,Rn,_⟩:=N9 c
 obtain⟨gt,ct,rfl⟩:∃g c,vt= .slice g t.length c:=by obtain⟨_,h1,_⟩:=ht;exact h1.any_
 have lc:=Hj h.dw hc
 have lt:=Ef h.dw Zi
 have le:=Ef h.dw qh
 have RF:Lc c (.slice gt t.length ct) o ve=[vs Iw,.int .i64 0,.int .i64 0,.bool false,vs (DN c.k),.int .i64 (BT c.k),vs b0,.int .i64 n1,vs b2,.int .i64 n3,.int .i64 c.nots,.slice gt t.length ct,ve,.bool o]:=by unfold Lc;rw[Rn];rfl
 have hC:=V7 h c hc [vs Iw,.int .i64 0,.int .i64 0,.bool false,vs (DN c.k),.int .i64 (BT c.k),vs b0,.int .i64 n1,vs b2,.int .i64 n3,.int .i64 c.nots,.slice gt t.length ct,ve,.bool o]
 have hT:=TI hB h CP (by omega) Zi ht [vs Iw,.int .i64 0,.int .i64 0,.bool false,vs (DN c.k),.int .i64 (BT c.k),vs b0,.int .i64 n1,vs b2,.int .i64 n3,.int .i64 c.nots,.slice gt t.length ct,ve,.bool o]
 rw[RF]
 rw[Rn]at hC
 generalize qn:CE l c=sc at*
 generalize Zn:BJ l t=sb at*
 have s1:=B6 (P:=Tryz.prog) (a:=⟨#[32]⟩) (b:=⟨sc.toArray⟩) (by simp only[Ag,At,Ac,Aj];omega)
 have s2:=B6 (P:=Tryz.prog) (a:=⟨#[32]⟩++⟨sc.toArray⟩) (b:=⟨#[32]⟩) (by simp only[Ag,At,Ac,Aj];omega)
 have s3:=B6 (P:=Tryz.prog) (a:=⟨#[32]⟩++⟨sc.toArray⟩++⟨#[32]⟩) (b:=⟨sb.toArray⟩) (by simp only[Ag,At,Ac,Aj];omega)
 have s6:=B6 (P:=Tryz.prog) (a:=⟨#[105,102]⟩) (b:=⟨#[32]⟩++⟨sc.toArray⟩++⟨#[32]⟩++⟨sb.toArray⟩) (by simp only[Ag,At,Ac,Aj];omega)
 have oH:(⟨#[105,102]⟩:ByteArray)++(⟨#[32]⟩++⟨sc.toArray⟩++⟨#[32]⟩++⟨sb.toArray⟩)=⟨(Iw++BE++sc++BE++sb).toArray⟩:=by rw[BI,BI,BI,BI];simp[BE]
 have K0:=Aa k0
 have HC:=Aa hC
 have dH:=Aa hT
 have _4:=Aa oH
 cases o with
 |true=>
  rw[Ak rfl]at he
  obtain⟨ge,ce,rfl⟩:∃g c,ve= .slice g e.length c:=by obtain⟨_,h1,_⟩:=he;exact h1.any_
  have hE:=TI hB h Vu (by omega) qh he [vs Iw,.int .i64 0,.int .i64 0,.bool false,vs (DN c.k),.int .i64 (BT c.k),vs b0,.int .i64 n1,vs b2,.int .i64 n3,.int .i64 c.nots,.slice gt t.length ct,.slice ge e.length ce,.bool true]
  generalize vA:BJ l e=se at*
  have s4:=B6 (P:=Tryz.prog) (a:=⟨#[32,101,108,115,101,32]⟩) (b:=⟨se.toArray⟩) (by simp only[Ag,At,Ac,Aj];omega)
  have s5:=B6 (P:=Tryz.prog) (a:=⟨#[105,102]⟩++(⟨#[32]⟩++⟨sc.toArray⟩++⟨#[32]⟩++⟨sb.toArray⟩)) (b:=⟨#[32,101,108,115,101,32]⟩++⟨se.toArray⟩) (by simp only[Ag,At,Ac,Aj];omega)
  have Sz:(⟨#[105,102]⟩++(⟨#[32]⟩++⟨sc.toArray⟩++⟨#[32]⟩++⟨sb.toArray⟩)++(⟨#[32,101,108,115,101,32]⟩++⟨se.toArray⟩):ByteArray)=⟨(Iw++BE++sc++BE++sb++(BE++BH++BE++se)).toArray⟩:=by rw[BI,BI,BI,BI,BI,BI];simp[BE]
  have HE:=Aa hE
  have Rg:=Aa Sz
  have rq:AM (w.alloc (.cells #[vs Iw,.int .i64 0,.int .i64 0,.bool false,vs (DN c.k),.int .i64 (BT c.k),vs b0,.int .i64 n1,vs b2,.int .i64 n3,.int .i64 c.nots,.slice gt t.length ct,.slice ge e.length ce,.bool true] 212)).drew w.heap.size 212 _:=(AM.new w 212 _).drew
  have kq:=(k0 #[vs Iw,.int .i64 0,.int .i64 0,.bool false,vs (DN c.k),.int .i64 (BT c.k),vs b0,.int .i64 n1,vs b2,.int .i64 n3,.int .i64 c.nots,.slice gt t.length ct,.slice ge e.length ce,.bool true]).drew
  simp only[A0]
  clear h hB hC hT hE ht he oH Sz k0 K0 RF Rn hc Zi qh qn Zn vA _4
  unfold vs at*
  go_enter Kz,JC
  go_wp2_with fail
  go_region_law (first
   |(go_simp;go_at_call 132;refine(HC.out _ ?_ ?_).mono ?_;assumption;assumption;rintro y wq ⟨rfl,kq,rq⟩;have Tx:=rq.cell 1;have Rs:=rq.cell 4;have Rr:=rq.cell 5;have WN:=rq.cell 6;have WM:=rq.cell 7;have WL:=rq.cell 8;have WK:=rq.cell 9;have MH:=rq.cell 10;have KE:=rq.cell 11;have LO:=rq.cell 12;have Rt:=rq.cell 13;have zl:=rq.lt;simp at Tx Rs Rr WN WM WL WK MH KE LO Rt)
   |(go_simp;go_at_call 57;refine(dH.out _ ?_ ?_).mono ?_;assumption;assumption;rintro y wq ⟨rfl,kq,rq⟩;have Tx:=rq.cell 1;have Rs:=rq.cell 4;have Rr:=rq.cell 5;have WN:=rq.cell 6;have WM:=rq.cell 7;have WL:=rq.cell 8;have WK:=rq.cell 9;have MH:=rq.cell 10;have KE:=rq.cell 11;have LO:=rq.cell 12;have Rt:=rq.cell 13;have zl:=rq.lt;simp at Tx Rs Rr WN WM WL WK MH KE LO Rt))
  all_goals
   go_wp2_with fail
   refine(HE.out _ ?_ ?_).mono ?_
   assumption
   assumption
   rintro y w4 ⟨rfl,k4,r4⟩
   have Rq:=Aa k4
   clear k4 r4
   go_wp2
   go_ret
   exact⟨AL (fun x=>Ending.returned (.string x)) Rg.out,Rq.out⟩
 |false=>
  rw[Ad Bg]at he
  obtain⟨rfl,_⟩:=he
  have rq:AM (w.alloc (.cells #[vs Iw,.int .i64 0,.int .i64 0,.bool false,vs (DN c.k),.int .i64 (BT c.k),vs b0,.int .i64 n1,vs b2,.int .i64 n3,.int .i64 c.nots,.slice gt t.length ct,Bx,.bool false] 212)).drew w.heap.size 212 _:=(AM.new w 212 _).drew
  have kq:=(k0 #[vs Iw,.int .i64 0,.int .i64 0,.bool false,vs (DN c.k),.int .i64 (BT c.k),vs b0,.int .i64 n1,vs b2,.int .i64 n3,.int .i64 c.nots,.slice gt t.length ct,Bx,.bool false]).drew
  have Sz:(⟨#[105,102]⟩++(⟨#[32]⟩++⟨sc.toArray⟩++⟨#[32]⟩++⟨sb.toArray⟩):ByteArray)=⟨(Iw++BE++sc++BE++sb++[]).toArray⟩:=by rw[Bk];exact oH
  have Rg:=Aa Sz
  simp only[An,A1]
  clear h hB hC hT ht oH Sz k0 K0 RF Rn hc Zi qh qn Zn _4
  unfold Bx vs at*
  go_enter Kz,JC
  go_wp2_with fail
  go_region_law (first
   |(go_simp;go_at_call 132;refine(HC.out _ ?_ ?_).mono ?_;assumption;assumption;rintro y wq ⟨rfl,kq,rq⟩;have Tx:=rq.cell 1;have Rs:=rq.cell 4;have Rr:=rq.cell 5;have WN:=rq.cell 6;have WM:=rq.cell 7;have WL:=rq.cell 8;have WK:=rq.cell 9;have MH:=rq.cell 10;have KE:=rq.cell 11;have LO:=rq.cell 12;have Rt:=rq.cell 13;have zl:=rq.lt;simp at Tx Rs Rr WN WM WL WK MH KE LO Rt)
   |(go_simp;go_at_call 57;refine(dH.out _ ?_ ?_).mono ?_;assumption;assumption;rintro y wq ⟨rfl,kq,rq⟩;have Tx:=rq.cell 1;have Rs:=rq.cell 4;have Rr:=rq.cell 5;have WN:=rq.cell 6;have WM:=rq.cell 7;have WL:=rq.cell 8;have WK:=rq.cell 9;have MH:=rq.cell 10;have KE:=rq.cell 11;have LO:=rq.cell 12;have Rt:=rq.cell 13;have zl:=rq.lt;simp at Tx Rs Rr WN WM WL WK MH KE LO Rt))
  all_goals
   have oY:=Aa kq
   clear kq rq
   go_wp2
   go_ret
   exact⟨AL (fun x=>Ending.returned (.string x)) Rg.out,oY.out⟩
theorem pj (hB:jm m) (h:aF w gp vd vr vh vm f l) {n:Int} (XU:1≤n) (PR:n≤50) {c:Da} (hc:XQ l c.k) {t:AC} {vt:Value} (ht:C0 Lw w vt t) (CP:t.size≤m) (Fw:t.size≤1000) (Zi:EG l t):
  Calls Tryz.prog 97 #[.pointer (some ⟨gp,0,none⟩),.agg (JM n c vt).toArray] w (Do w (Bb++BE++Ca n++BE++B9++BE++CE l c++BE++BJ l t)):=by
 have k0:=fun cs=>(Af.refl (fun b=>w.heap.size≤b) w).alloc (Ab _) (.cells cs 212)
 obtain⟨b0,n1,b2,n3,Rn,_⟩:=N9 c
 obtain⟨gt,ct,rfl⟩:∃g c,vt= .slice g t.length c:=by obtain⟨_,h1,_⟩:=ht;exact h1.any_
 have lc:=Hj h.dw hc
 have lt:=Ef h.dw Zi
 have ld:=(EM (n:=n) (by omega) (by omega)).2.1
 have RF:JM n c (.slice gt t.length ct)=[vs Bb,.int .i64 n,.int .i64 0,.bool false,vs (DN c.k),.int .i64 (BT c.k),vs b0,.int .i64 n1,vs b2,.int .i64 n3,.int .i64 c.nots,.slice gt t.length ct,Bx,.bool false]:=by unfold JM;rw[Rn];rfl
 have hC:=V7 h c hc [vs Bb,.int .i64 n,.int .i64 0,.bool false,vs (DN c.k),.int .i64 (BT c.k),vs b0,.int .i64 n1,vs b2,.int .i64 n3,.int .i64 c.nots,.slice gt t.length ct,Bx,.bool false]
 have hT:=TI hB h CP Fw Zi ht [vs Bb,.int .i64 n,.int .i64 0,.bool false,vs (DN c.k),.int .i64 (BT c.k),vs b0,.int .i64 n1,vs b2,.int .i64 n3,.int .i64 c.nots,.slice gt t.length ct,Bx,.bool false]
 rw[RF]
 rw[Rn]at hC
 have _h:∀W,Af (fun b=>w.heap.size≤b) w W→AM W w.heap.size 212 [vs Bb,.int .i64 n,.int .i64 0,.bool false,vs (DN c.k),.int .i64 (BT c.k),vs b0,.int .i64 n1,vs b2,.int .i64 n3,.int .i64 c.nots,.slice gt t.length ct,Bx,.bool false]→
   Calls Tryz.prog 56 #[.int .i64 n] W fun y w'=>y= .returned (vs (Ca n))∧Af (fun b=>w.heap.size≤b) w w'∧AM w' w.heap.size 212 [vs Bb,.int .i64 n,.int .i64 0,.bool false,vs (DN c.k),.int .i64 (BT c.k),vs b0,.int .i64 n1,vs b2,.int .i64 n3,.int .i64 c.nots,.slice gt t.length ct,Bx,.bool false]:=fun W hk hr=>by
  refine(P5 (n:=n) (by omega) (by omega)).mono ?_
  rintro y w' ⟨h1,h2⟩
  exact⟨h1,hk.trans (h2.mono (fun b hb=>Ai hk.size hb)),hr.kept h2 (fun e=>by have:=hr.lt;omega)⟩
 generalize qn:CE l c=sc at*
 generalize Zn:BJ l t=sb at*
 generalize qm:Ca n=sd at*
 have s0:=B6 (P:=Tryz.prog) (a:=⟨#[114,101,112,101,97,116]⟩) (b:=⟨#[32]⟩) (by simp only[Ag,At,Ac,Aj];omega)
 have s1:=B6 (P:=Tryz.prog) (a:=⟨#[114,101,112,101,97,116]⟩++⟨#[32]⟩) (b:=⟨sd.toArray⟩) (by simp only[Ag,At,Ac,Aj];omega)
 have s2:=B6 (P:=Tryz.prog) (a:=⟨#[114,101,112,101,97,116]⟩++⟨#[32]⟩++⟨sd.toArray⟩) (b:=⟨#[32,119,104,105,108,101,32]⟩) (by simp only[Ag,At,Ac,Aj];omega)
 have s3:=B6 (P:=Tryz.prog) (a:=⟨#[114,101,112,101,97,116]⟩++⟨#[32]⟩++⟨sd.toArray⟩++⟨#[32,119,104,105,108,101,32]⟩) (b:=⟨sc.toArray⟩) (by simp only[Ag,At,Ac,Aj];omega)
 have s4:=B6 (P:=Tryz.prog) (a:=⟨#[114,101,112,101,97,116]⟩++⟨#[32]⟩++⟨sd.toArray⟩++⟨#[32,119,104,105,108,101,32]⟩++⟨sc.toArray⟩) (b:=⟨#[32]⟩) (by simp only[Ag,At,Ac,Aj];omega)
 have s5:=B6 (P:=Tryz.prog) (a:=⟨#[114,101,112,101,97,116]⟩++⟨#[32]⟩++⟨sd.toArray⟩++⟨#[32,119,104,105,108,101,32]⟩++⟨sc.toArray⟩++⟨#[32]⟩) (b:=⟨sb.toArray⟩) (by simp only[Ag,At,Ac,Aj];omega)
 have Sz:(⟨#[114,101,112,101,97,116]⟩:ByteArray)++⟨#[32]⟩++⟨sd.toArray⟩++⟨#[32,119,104,105,108,101,32]⟩++⟨sc.toArray⟩++⟨#[32]⟩++⟨sb.toArray⟩=⟨(Bb++BE++sd++BE++B9++BE++sc++BE++sb).toArray⟩:=by rw[BI,BI,BI,BI,BI,BI];simp[BE]
 have HC:=Aa hC
 have dH:=Aa hT
 have wX:=Aa _h
 have Rg:=Aa Sz
 have rq:AM (w.alloc (.cells #[vs Bb,.int .i64 n,.int .i64 0,.bool false,vs (DN c.k),.int .i64 (BT c.k),vs b0,.int .i64 n1,vs b2,.int .i64 n3,.int .i64 c.nots,.slice gt t.length ct,Bx,.bool false] 212)).drew w.heap.size 212 _:=(AM.new w 212 _).drew
 have kq:=(k0 #[vs Bb,.int .i64 n,.int .i64 0,.bool false,vs (DN c.k),.int .i64 (BT c.k),vs b0,.int .i64 n1,vs b2,.int .i64 n3,.int .i64 c.nots,.slice gt t.length ct,Bx,.bool false]).drew
 clear h hB hC hT _h ht Sz k0 RF Rn hc Zi qn Zn qm
 unfold Bx vs at*
 go_enter Kz,JC
 go_wp2_with fail
 go_region_law (first
  |(go_simp;go_at_call 132;refine(HC.out _ ?_ ?_).mono ?_;assumption;assumption;rintro y wq ⟨rfl,kq,rq⟩;have Tx:=rq.cell 1;have Rs:=rq.cell 4;have Rr:=rq.cell 5;have WN:=rq.cell 6;have WM:=rq.cell 7;have WL:=rq.cell 8;have WK:=rq.cell 9;have MH:=rq.cell 10;have KE:=rq.cell 11;have LO:=rq.cell 12;have Rt:=rq.cell 13;have zl:=rq.lt;simp at Tx Rs Rr WN WM WL WK MH KE LO Rt)
  |(go_simp;go_at_call 57;refine(dH.out _ ?_ ?_).mono ?_;assumption;assumption;rintro y wq ⟨rfl,kq,rq⟩;have Tx:=rq.cell 1;have Rs:=rq.cell 4;have Rr:=rq.cell 5;have WN:=rq.cell 6;have WM:=rq.cell 7;have WL:=rq.cell 8;have WK:=rq.cell 9;have MH:=rq.cell 10;have KE:=rq.cell 11;have LO:=rq.cell 12;have Rt:=rq.cell 13;have zl:=rq.lt;simp at Tx Rs Rr WN WM WL WK MH KE LO Rt)
  |(go_simp;go_at_call 56;refine(wX.out _ ?_ ?_).mono ?_;assumption;assumption;rintro y wq ⟨rfl,kq,rq⟩;have Tx:=rq.cell 1;have Rs:=rq.cell 4;have Rr:=rq.cell 5;have WN:=rq.cell 6;have WM:=rq.cell 7;have WL:=rq.cell 8;have WK:=rq.cell 9;have MH:=rq.cell 10;have KE:=rq.cell 11;have LO:=rq.cell 12;have Rt:=rq.cell 13;have zl:=rq.lt;simp at Tx Rs Rr WN WM WL WK MH KE LO Rt))
 all_goals
  have oY:=Aa kq
  clear kq rq
  go_wp2
  go_ret
  exact⟨AL (fun x=>Ending.returned (.string x)) Rg.out,oY.out⟩
end
theorem fN {m:Nat} (hB:jm m):ry (m+1):=by
 intro w gp vd vr vh vm f l x cs s h hl Fw JS hW CP hs
 cases x with
 |nil=>cases hl
 |prim y rest=>
  obtain rfl:=Wn rest (by simpa[AC.length]using hl)
  obtain⟨rest,rfl,rfl⟩:=CP
  rw[Bk]
  obtain rfl:=V9 hs
  have hy:=hW.1
  cases y with
  |put q t=>show Calls _ _ _ _ (Do w (Hn++BE++AI l q++Fj t++Ar));rw[P6];exact P1 h Hn (.inl rfl) hy.1 t
  |evict q=>
   have h1:=P1 h Db (.inr (.inl rfl)) hy.1 false
   have e:Db++BE++AI l q++C4 false++Ar=B8 l (.evict q):=by simp[C4,B8]
   rw[e]at h1
   exact h1
  |cool q=>
   have h1:=P1 h Ew (.inr (.inr (.inl rfl))) hy.1 false
   have e:Ew++BE++AI l q++C4 false++Ar=B8 l (.cool q):=by simp[C4,B8]
   rw[e]at h1
   exact h1
  |shift q t tl=>show Calls _ _ _ _ (Do w (CN++BE++AI l q++BE++AI l t++Fj tl++Ar));rw[P6];exact fO h hy.1.1 hy.2.1 tl
  |inc v=>
   have h1:=P1 h Ia (.inr (.inr (.inr (.inl rfl)))) hy.1 false
   have e:Ia++BE++AI l v++C4 false++Ar=B8 l (.inc v):=by simp[C4,B8]
   rw[e]at h1
   exact h1
  |dec v=>
   have h1:=P1 h Ib (.inr (.inr (.inr (.inr rfl)))) hy.1 false
   have e:Ib++BE++AI l v++C4 false++Ar=B8 l (.dec v):=by simp[C4,B8]
   rw[e]at h1
   exact h1
  |drop=>exact Yq EJ (.inl rfl)
  |bump=>exact Yq EK (.inr rfl)
 |ite c t o e rest=>
  obtain rfl:=Wn rest (by simpa[AC.length]using hl)
  obtain⟨vt,ve,rest,rfl,ht,he,rfl⟩:=CP
  rw[Bk]
  obtain rfl:=YC hs
  simp only[AC.size]at Fw JS
  refine uk hB h hW.1 ht ?_ (by omega) (by omega) (by omega) hW.2.1 hW.2.2.1
  cases o with
  |true=>exact he
  |false=>exact he
 |rep n c t rest=>
  obtain rfl:=Wn rest (by simpa[AC.length]using hl)
  obtain⟨vt,rest,rfl,ht,rfl⟩:=CP
  rw[Bk]
  obtain rfl:=YA hs
  simp only[AC.size]at Fw JS
  exact pj hB h hW.2.2.2.1 hW.2.2.2.2 hW.1 ht (by omega) (by omega) hW.2.1
theorem V3:∀m,ry m∧jm m
 |0=>by
  have h:ry 0:=by
   intro w gp vd vr vh vm f l x cs s h hl Fw
   cases x with
   |nil=>cases hl
   |prim p r=>simp[AC.size]at Fw
   |ite c t o e r=>simp[AC.size]at Fw
   |rep n c b r=>simp[AC.size]at Fw
  exact⟨h,TH h⟩
 |m+1=>by
  have h:=fN (V3 m).2
  exact⟨h,TH h⟩
end Go.Proofs.YtemppijblfflgaaGreatDoor.Ev
