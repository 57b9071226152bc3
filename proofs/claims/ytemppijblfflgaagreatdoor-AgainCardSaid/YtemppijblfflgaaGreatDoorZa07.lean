/- Parts of a proof that a law's walk returns true. Conditions: none. -/
import Derived.Test.YtemppijblfflgaaGreatDoorZa00
import Derived.Test.YtemppijblfflgaaGreatDoorZa01
import Derived.Test.YtemppijblfflgaaGreatDoorZa06
set_option linter.all false
set_option maxRecDepth 100000
set_option maxHeartbeats 8000000
namespace Go.Proofs.YtemppijblfflgaaGreatDoor.Ev
open Go Go.RowKit
section
variable {w:World} {gp:Nat} {vd vm:Value} {f:Int} {l:List Bf} {m:Nat}
theorem Wa (h:Yb w gp vd vm f l) (c:Da) (hc:XQ l c.k) (cs:List Value):∀W,Af (fun b=>w.heap.size≤b) w W→AM W w.heap.size 258 cs→
  Calls Tryz.prog 145 #[.pointer (some ⟨gp,0,none⟩),.agg (By c).toArray] W fun y w'=>y= .returned (vs (CE l c))∧Af (fun b=>w.heap.size≤b) w w'∧AM w' w.heap.size 258 cs:=fun W hk hr=>by
 refine(gz (h.later hk) c hc).mono ?_
 rintro y w' ⟨h1,h2⟩
 exact⟨h1,hk.trans (h2.mono (fun b hb=>Ai hk.size hb)),hr.kept h2 (fun e=>by have:=hr.lt;omega)⟩
theorem TU (hB:jn m) (h:Yb w gp vd vm f l) {b:AC} {v:Value} (hs:b.size≤m) (Cp:b.size≤1000) (hw:EG l b) (hb:Dv Lw w v b) (cs:List Value):∀W,Af (fun b=>w.heap.size≤b) w W→AM W w.heap.size 258 cs→
  Calls Tryz.prog 95 #[.pointer (some ⟨gp,0,none⟩),v] W fun y w'=>y= .returned (vs (BJ l b))∧Af (fun b=>w.heap.size≤b) w w'∧AM w' w.heap.size 258 cs:=fun W hk hr=>by
 refine(hB W gp vd vm f l b v (h.later hk) hs Cp hw (WB hk hb)).mono ?_
 rintro y w' ⟨h1,h2⟩
 exact⟨h1,hk.trans (h2.mono (fun b hb=>Ai hk.size hb)),hr.kept h2 (fun e=>by have:=hr.lt;omega)⟩
theorem ur (hB:jn m) (h:Yb w gp vd vm f l) {c:Da} (hc:XQ l c.k) {t e:AC} {vt ve:Value} {o:Bool} (ht:Dv Lw w vt t) (he:if o then Dv Lw w ve e else ve=Bx) (CP:t.size≤m) (Vu:e.size≤m) (Fw:t.size+e.size≤1000) (Zi:EG l t) (qh:EG l e):
  Calls Tryz.prog 131 #[.pointer (some ⟨gp,0,none⟩),.agg (Le c vt ve).toArray] w (Do w (Iw++BE++CE l c++BE++BJ l t++(if o then BE++BH++BE++BJ l e else []))):=by
 have k0:=fun cs=>(Af.refl (fun b=>w.heap.size≤b) w).alloc (Ab _) (.cells cs 258)
 obtain⟨b0,n1,b2,n3,Rn,_⟩:=PC c
 obtain⟨gt,ct,rfl⟩:∃g c,vt= .slice (some ⟨g,0,none⟩) t.length c:=by obtain⟨_,h1,_⟩:=ht;exact h1.2
 have lc:=Hj h.dw hc
 have lt:=Ef h.dw Zi
 have le:=Ef h.dw qh
 have RF:Le c (.slice (some ⟨gt,0,none⟩) t.length ct) ve=[vs Iw,.int .i64 0,.int .i64 0,.bool false,vs (Cg c.k),.int .i64 (BT c.k),vs b0,.int .i64 n1,vs b2,.int .i64 n3,.bool (Dg c.nots),.slice (some ⟨gt,0,none⟩) t.length ct,ve]:=by unfold Le;rw[Rn];rfl
 have hC:=Wa h c hc [vs Iw,.int .i64 0,.int .i64 0,.bool false,vs (Cg c.k),.int .i64 (BT c.k),vs b0,.int .i64 n1,vs b2,.int .i64 n3,.bool (Dg c.nots),.slice (some ⟨gt,0,none⟩) t.length ct,ve]
 have hT:=TU hB h CP (by omega) Zi ht [vs Iw,.int .i64 0,.int .i64 0,.bool false,vs (Cg c.k),.int .i64 (BT c.k),vs b0,.int .i64 n1,vs b2,.int .i64 n3,.bool (Dg c.nots),.slice (some ⟨gt,0,none⟩) t.length ct,ve]
 rw[RF]
 rw[Rn]at hC
 generalize qn:CE l c=sc at*
 generalize Zn:BJ l t=sb at*
 have s1:=B6 (P:=Tryz.prog) (a:=⟨#[105,102,32]⟩) (b:=⟨sc.toArray⟩) (by simp only[At,Ac,Aj];omega)
 have s2:=B6 (P:=Tryz.prog) (a:=⟨#[105,102,32]⟩++⟨sc.toArray⟩) (b:=⟨#[32]⟩) (by simp only[Ag,At,Ac,Aj];omega)
 have s3:=B6 (P:=Tryz.prog) (a:=⟨#[105,102,32]⟩++⟨sc.toArray⟩++⟨#[32]⟩) (b:=⟨sb.toArray⟩) (by simp only[Ag,At,Ac,Aj];omega)
 have oH:(⟨#[105,102,32]⟩:ByteArray)++⟨sc.toArray⟩++⟨#[32]⟩++⟨sb.toArray⟩=⟨(Iw++BE++sc++BE++sb).toArray⟩:=by rw[BI,BI,BI];simp[BE]
 have K0:=Aa k0
 have HC:=Aa hC
 have dH:=Aa hT
 have _4:=Aa oH
 cases o with
 |true=>
  rw[Ak rfl]at he
  obtain⟨ge,ce,rfl⟩:∃g c,ve= .slice (some ⟨g,0,none⟩) e.length c:=by obtain⟨_,h1,_⟩:=he;exact h1.2
  have hE:=TU hB h Vu (by omega) qh he [vs Iw,.int .i64 0,.int .i64 0,.bool false,vs (Cg c.k),.int .i64 (BT c.k),vs b0,.int .i64 n1,vs b2,.int .i64 n3,.bool (Dg c.nots),.slice (some ⟨gt,0,none⟩) t.length ct,.slice (some ⟨ge,0,none⟩) e.length ce]
  generalize vA:BJ l e=se at*
  have s4:=B6 (P:=Tryz.prog) (a:=⟨#[32,101,108,115,101,32]⟩) (b:=⟨se.toArray⟩) (by simp only[At,Ac,Aj];omega)
  have s5:=B6 (P:=Tryz.prog) (a:=⟨#[105,102,32]⟩++⟨sc.toArray⟩++⟨#[32]⟩++⟨sb.toArray⟩) (b:=⟨#[32,101,108,115,101,32]⟩++⟨se.toArray⟩) (by simp only[Ag,At,Ac,Aj];omega)
  have Sz:(⟨#[105,102,32]⟩:ByteArray)++⟨sc.toArray⟩++⟨#[32]⟩++⟨sb.toArray⟩++(⟨#[32,101,108,115,101,32]⟩++⟨se.toArray⟩)=⟨(Iw++BE++sc++BE++sb++(BE++BH++BE++se)).toArray⟩:=by rw[BI,BI,BI,BI,BI];simp[BE]
  have HE:=Aa hE
  have Rg:=Aa Sz
  have r0:AM (w.alloc (.cells #[vs Iw,.int .i64 0,.int .i64 0,.bool false,vs (Cg c.k),.int .i64 (BT c.k),vs b0,.int .i64 n1,vs b2,.int .i64 n3,.bool (Dg c.nots),.slice (some ⟨gt,0,none⟩) t.length ct,.slice (some ⟨ge,0,none⟩) e.length ce] 258)).drew w.heap.size 258 _:=(AM.new w 258 _).drew
  have R0:=Aa r0
  have KD:=Aa (k0 #[vs Iw,.int .i64 0,.int .i64 0,.bool false,vs (Cg c.k),.int .i64 (BT c.k),vs b0,.int .i64 n1,vs b2,.int .i64 n3,.bool (Dg c.nots),.slice (some ⟨gt,0,none⟩) t.length ct,.slice (some ⟨ge,0,none⟩) e.length ce]).drew
  simp only[A0]
  clear h hB hC hT hE ht he oH Sz r0 k0 K0 RF Rn hc Zi qh qn Zn vA _4
  unfold vs at*
  go_enter JD,II
  go_wp2_with fail
  go_region_law (first
   |(go_simp;go_at_call 145;refine(HC.out _ kb rb).mono ?_;rintro y w3 ⟨rfl,kz,rz⟩;have aI:=rz.cell 12;have yl:=rz.lt;simp at aI)
   |(go_simp;go_at_call 95;refine(dH.out _ ka ra).mono ?_;rintro y w3 ⟨rfl,kz,rz⟩;have aI:=rz.cell 12;have yl:=rz.lt;simp at aI)
   |(go_simp;go_at_call 145;refine(HC.out _ KD.out R0.out).mono ?_;rintro y w2 ⟨rfl,ka,ra⟩;have KE:=ra.cell 11;have LO:=ra.cell 12;simp at KE LO)
   |(go_simp;go_at_call 95;refine(dH.out _ KD.out R0.out).mono ?_;rintro y w2 ⟨rfl,kb,rb⟩;have Rs:=rb.cell 4;have Rr:=rb.cell 5;have WN:=rb.cell 6;have WM:=rb.cell 7;have WL:=rb.cell 8;have WK:=rb.cell 9;have MH:=rb.cell 10;have KE:=rb.cell 11;have LO:=rb.cell 12;simp at Rs Rr WN WM WL WK MH KE LO))
  all_goals
   have rR:=Aa kz
   have HRZ:=Aa rz
   clear kz rz
   go_wp2_with fail
   refine(HE.out _ rR.out HRZ.out).mono ?_
   rintro y w4 ⟨rfl,k4,r4⟩
   have Rq:=Aa k4
   clear k4 r4
   go_wp2
   go_ret
   exact⟨AL (fun x=>Ending.returned (.string x)) Rg.out,Rq.out⟩
 |false=>
  rw[Ad Bg]at he
  subst he
  have r0:AM (w.alloc (.cells #[vs Iw,.int .i64 0,.int .i64 0,.bool false,vs (Cg c.k),.int .i64 (BT c.k),vs b0,.int .i64 n1,vs b2,.int .i64 n3,.bool (Dg c.nots),.slice (some ⟨gt,0,none⟩) t.length ct,Bx] 258)).drew w.heap.size 258 _:=(AM.new w 258 _).drew
  have R0:=Aa r0
  have KD:=Aa (k0 #[vs Iw,.int .i64 0,.int .i64 0,.bool false,vs (Cg c.k),.int .i64 (BT c.k),vs b0,.int .i64 n1,vs b2,.int .i64 n3,.bool (Dg c.nots),.slice (some ⟨gt,0,none⟩) t.length ct,Bx]).drew
  have Sz:(⟨#[105,102,32]⟩:ByteArray)++⟨sc.toArray⟩++⟨#[32]⟩++⟨sb.toArray⟩=⟨(Iw++BE++sc++BE++sb++[]).toArray⟩:=by rw[Bk];exact oH
  have Rg:=Aa Sz
  simp only[An,A1]
  clear h hB hC hT ht oH Sz r0 k0 K0 RF Rn hc Zi qh qn Zn _4
  unfold Bx vs at*
  go_enter JD,II
  go_wp2_with fail
  go_region_law (first
   |(go_simp;go_at_call 145;refine(HC.out _ kb rb).mono ?_;rintro y w3 ⟨rfl,kz,rz⟩;have aI:=rz.cell 12;have yl:=rz.lt;simp at aI)
   |(go_simp;go_at_call 95;refine(dH.out _ ka ra).mono ?_;rintro y w3 ⟨rfl,kz,rz⟩;have aI:=rz.cell 12;have yl:=rz.lt;simp at aI)
   |(go_simp;go_at_call 145;refine(HC.out _ KD.out R0.out).mono ?_;rintro y w2 ⟨rfl,ka,ra⟩;have KE:=ra.cell 11;have LO:=ra.cell 12;simp at KE LO)
   |(go_simp;go_at_call 95;refine(dH.out _ KD.out R0.out).mono ?_;rintro y w2 ⟨rfl,kb,rb⟩;have Rs:=rb.cell 4;have Rr:=rb.cell 5;have WN:=rb.cell 6;have WM:=rb.cell 7;have WL:=rb.cell 8;have WK:=rb.cell 9;have MH:=rb.cell 10;have KE:=rb.cell 11;have LO:=rb.cell 12;simp at Rs Rr WN WM WL WK MH KE LO))
  all_goals
   have rR:=Aa kz
   clear kz rz
   go_wp2
   go_ret
   exact⟨AL (fun x=>Ending.returned (.string x)) Rg.out,rR.out⟩
theorem pu (hB:jn m) (h:Yb w gp vd vm f l) {n:Int} (XU:1≤n) (PR:n≤50) {c:Da} (hc:XQ l c.k) {t:AC} {vt:Value} (ht:Dv Lw w vt t) (CP:t.size≤m) (Fw:t.size≤1000) (Zi:EG l t):
  Calls Tryz.prog 131 #[.pointer (some ⟨gp,0,none⟩),.agg (Iz n c vt).toArray] w (Do w (Bb++BE++Ca n++BE++B9++BE++CE l c++BE++BJ l t)):=by
 have k0:=fun cs=>(Af.refl (fun b=>w.heap.size≤b) w).alloc (Ab _) (.cells cs 258)
 obtain⟨b0,n1,b2,n3,Rn,_⟩:=PC c
 obtain⟨gt,ct,rfl⟩:∃g c,vt= .slice (some ⟨g,0,none⟩) t.length c:=by obtain⟨_,h1,_⟩:=ht;exact h1.2
 have lc:=Hj h.dw hc
 have lt:=Ef h.dw Zi
 have ld:=(EM (n:=n) (by omega) (by omega)).2.1
 have RF:Iz n c (.slice (some ⟨gt,0,none⟩) t.length ct)=[vs Bb,.int .i64 n,.int .i64 0,.bool false,vs (Cg c.k),.int .i64 (BT c.k),vs b0,.int .i64 n1,vs b2,.int .i64 n3,.bool (Dg c.nots),.slice (some ⟨gt,0,none⟩) t.length ct,Bx]:=by unfold Iz;rw[Rn];rfl
 have hC:=Wa h c hc [vs Bb,.int .i64 n,.int .i64 0,.bool false,vs (Cg c.k),.int .i64 (BT c.k),vs b0,.int .i64 n1,vs b2,.int .i64 n3,.bool (Dg c.nots),.slice (some ⟨gt,0,none⟩) t.length ct,Bx]
 have hT:=TU hB h CP Fw Zi ht [vs Bb,.int .i64 n,.int .i64 0,.bool false,vs (Cg c.k),.int .i64 (BT c.k),vs b0,.int .i64 n1,vs b2,.int .i64 n3,.bool (Dg c.nots),.slice (some ⟨gt,0,none⟩) t.length ct,Bx]
 rw[RF]
 rw[Rn]at hC
 have _h:∀W,Calls Tryz.prog 94 #[.int .i64 n] W fun e w'=>e= .returned (vs (Ca n))∧w'=W:=fun W=>by
  have:=RY n.toNat (by omega) W
  rw[Ko (by omega)]at this
  have e:((n.toNat:Nat):Int)=n:=by omega
  rw[e]at this
  exact this
 generalize qn:CE l c=sc at*
 generalize Zn:BJ l t=sb at*
 generalize qm:Ca n=sd at*
 have s1:=B6 (P:=Tryz.prog) (a:=⟨#[114,101,112,101,97,116,32]⟩) (b:=⟨sd.toArray⟩) (by simp only[At,Ac,Aj];omega)
 have s2:=B6 (P:=Tryz.prog) (a:=⟨#[114,101,112,101,97,116,32]⟩++⟨sd.toArray⟩) (b:=⟨#[32,119,104,105,108,101,32]⟩) (by simp only[Ag,At,Ac,Aj];omega)
 have s3:=B6 (P:=Tryz.prog) (a:=⟨#[114,101,112,101,97,116,32]⟩++⟨sd.toArray⟩++⟨#[32,119,104,105,108,101,32]⟩) (b:=⟨sc.toArray⟩) (by simp only[Ag,At,Ac,Aj];omega)
 have s4:=B6 (P:=Tryz.prog) (a:=⟨#[114,101,112,101,97,116,32]⟩++⟨sd.toArray⟩++⟨#[32,119,104,105,108,101,32]⟩++⟨sc.toArray⟩) (b:=⟨#[32]⟩) (by simp only[Ag,At,Ac,Aj];omega)
 have s5:=B6 (P:=Tryz.prog) (a:=⟨#[114,101,112,101,97,116,32]⟩++⟨sd.toArray⟩++⟨#[32,119,104,105,108,101,32]⟩++⟨sc.toArray⟩++⟨#[32]⟩) (b:=⟨sb.toArray⟩) (by simp only[Ag,At,Ac,Aj];omega)
 have Sz:(⟨#[114,101,112,101,97,116,32]⟩:ByteArray)++⟨sd.toArray⟩++⟨#[32,119,104,105,108,101,32]⟩++⟨sc.toArray⟩++⟨#[32]⟩++⟨sb.toArray⟩=⟨(Bb++BE++sd++BE++B9++BE++sc++BE++sb).toArray⟩:=by rw[BI,BI,BI,BI,BI];simp[BE]
 have HC:=Aa hC
 have dH:=Aa hT
 have wX:=Aa _h
 have Rg:=Aa Sz
 have r0:AM (w.alloc (.cells #[vs Bb,.int .i64 n,.int .i64 0,.bool false,vs (Cg c.k),.int .i64 (BT c.k),vs b0,.int .i64 n1,vs b2,.int .i64 n3,.bool (Dg c.nots),.slice (some ⟨gt,0,none⟩) t.length ct,Bx] 258)).drew w.heap.size 258 _:=(AM.new w 258 _).drew
 have R0:=Aa r0
 have KD:=Aa (k0 #[vs Bb,.int .i64 n,.int .i64 0,.bool false,vs (Cg c.k),.int .i64 (BT c.k),vs b0,.int .i64 n1,vs b2,.int .i64 n3,.bool (Dg c.nots),.slice (some ⟨gt,0,none⟩) t.length ct,Bx]).drew
 clear h hB hC hT _h ht Sz r0 k0 RF Rn hc Zi qn Zn qm
 unfold Bx vs at*
 go_enter JD,II
 go_wp2_with fail
 go_region_law (first
  |(go_simp;go_at_call 145;refine(HC.out _ kb rb).mono ?_;rintro y w3 ⟨rfl,kz,rz⟩;have yy1:=rz.cell 1;have yl:=rz.lt;simp at yy1)
  |(go_simp;go_at_call 95;refine(dH.out _ ka ra).mono ?_;rintro y w3 ⟨rfl,kz,rz⟩;have yy1:=rz.cell 1;have yl:=rz.lt;simp at yy1)
  |(go_simp;go_at_call 94;refine(wX.out _).mono ?_;rintro y w5 ⟨rfl,rfl⟩)
  |(go_simp;go_at_call 145;refine(HC.out _ KD.out R0.out).mono ?_;rintro y w2 ⟨rfl,ka,ra⟩;have Tx:=ra.cell 1;have KE:=ra.cell 11;have zl:=ra.lt;simp at Tx KE)
  |(go_simp;go_at_call 95;refine(dH.out _ KD.out R0.out).mono ?_;rintro y w2 ⟨rfl,kb,rb⟩;have Tx:=rb.cell 1;have Rs:=rb.cell 4;have Rr:=rb.cell 5;have WN:=rb.cell 6;have WM:=rb.cell 7;have WL:=rb.cell 8;have WK:=rb.cell 9;have MH:=rb.cell 10;have zl:=rb.lt;simp at Tx Rs Rr WN WM WL WK MH))
 all_goals
  have rR:=Aa kz
  clear kz rz
  go_wp2
  go_ret
  exact⟨AL (fun x=>Ending.returned (.string x)) Rg.out,rR.out⟩
end
theorem Wn:∀(b:AC),b.length=0→b= .nil
 | .nil,_=>rfl
 | .prim p r,h=>by simp[AC.length]at h
 | .ite c t o e r,h=>by simp[AC.length]at h
 | .rep n c b r,h=>by simp[AC.length]at h
theorem V9 {l:List Bf} {p:D9} {s:Ae} (h:As l (.prim p .nil)=BE++s):s=B8 l p:=by
 rw[As,As,Bk]at h
 exact(Sb h).symm
theorem YC {l:List Bf} {c:Da} {t e:AC} {o:Bool} {s:Ae} (h:As l (.ite c t o e .nil)=BE++s):s=Iw++BE++CE l c++BE++BJ l t++(if o then BE++BH++BE++BJ l e else []):=by
 rw[As,As,Bk]at h
 exact(Sb h).symm
theorem YA {l:List Bf} {n:Int} {c:Da} {t:AC} {s:Ae} (h:As l (.rep n c t .nil)=BE++s):s=Bb++BE++Ca n++BE++B9++BE++CE l c++BE++BJ l t:=by
 rw[As,As,Bk]at h
 exact(Sb h).symm
theorem gj {m:Nat} (hB:jn m):rA (m+1):=by
 intro w gp vd vm f l x cs s h hl Fw JS hW CP hs
 cases x with
 |nil=>cases hl
 |prim y rest=>
  obtain rfl:=Wn rest (by simpa[AC.length]using hl)
  obtain⟨rest,rfl,rfl⟩:=CP
  rw[Bk]
  obtain rfl:=V9 hs
  have hy:=hW.1
  cases y with
  |put q t=>show Calls _ _ _ _ (Do w (Hn++BE++AI l q++Fj t++Ar));rw[P6];exact P9 h Hn (.inl rfl) hy.1 t
  |evict q=>
   have h1:=P9 h Db (.inr (.inl rfl)) hy.1 false
   have e:Db++BE++AI l q++C4 false++Ar=B8 l (.evict q):=by simp[C4,B8]
   rw[e]at h1
   exact h1
  |cool q=>
   have h1:=P9 h Ew (.inr (.inr (.inl rfl))) hy.1 false
   have e:Ew++BE++AI l q++C4 false++Ar=B8 l (.cool q):=by simp[C4,B8]
   rw[e]at h1
   exact h1
  |shift q t tl=>show Calls _ _ _ _ (Do w (CN++BE++AI l q++BE++AI l t++Fj tl++Ar));rw[P6];exact go h hy.1.1 hy.2.1 tl
  |inc v=>
   have h1:=P9 h Ia (.inr (.inr (.inr (.inl rfl)))) hy.1 false
   have e:Ia++BE++AI l v++C4 false++Ar=B8 l (.inc v):=by simp[C4,B8]
   rw[e]at h1
   exact h1
  |dec v=>
   have h1:=P9 h Ib (.inr (.inr (.inr (.inr rfl)))) hy.1 false
   have e:Ib++BE++AI l v++C4 false++Ar=B8 l (.dec v):=by simp[C4,B8]
   rw[e]at h1
   exact h1
  |drop=>exact Yy EJ (.inl rfl)
  |bump=>exact Yy EK (.inr rfl)
 |ite c t o e rest=>
  obtain rfl:=Wn rest (by simpa[AC.length]using hl)
  obtain⟨vt,ve,rest,rfl,ht,he,rfl⟩:=CP
  rw[Bk]
  obtain rfl:=YC hs
  simp only[AC.size]at Fw JS
  refine ur hB h hW.1 ht ?_ (by omega) (by omega) (by omega) hW.2.1 hW.2.2.1
  cases o with
  |true=>exact he
  |false=>exact he.1
 |rep n c t rest=>
  obtain rfl:=Wn rest (by simpa[AC.length]using hl)
  obtain⟨vt,rest,rfl,ht,rfl⟩:=CP
  rw[Bk]
  obtain rfl:=YA hs
  simp only[AC.size]at Fw JS
  exact pu hB h hW.2.2.2.1 hW.2.2.2.2 hW.1 ht (by omega) (by omega) hW.2.1
theorem YD:∀m,rA m∧jn m
 |0=>by
  have h:rA 0:=by
   intro w gp vd vm f l x cs s h hl Fw
   cases x with
   |nil=>cases hl
   |prim p r=>simp[AC.size]at Fw
   |ite c t o e r=>simp[AC.size]at Fw
   |rep n c b r=>simp[AC.size]at Fw
  exact⟨h,TR h⟩
 |m+1=>by
  have h:=gj (YD m).2
  exact⟨h,TR h⟩
theorem eH:(Tryz.prog.info? 201).map (·.size)=some 2:=by kernel_rfl
theorem pV:liesAt Tryz.prog Tryz.prog.depth 201 (2/Tryz.prog.cellsOf 201) 0 201 1=true:=by kernel_rfl
theorem infoByte:(Tryz.prog.info? 5).map (fun i=>(i.zero,i.size,i.bytes))=some (some (.int .u8 0),1,1):=by kernel_rfl
section
variable {B b:Nat} {bs:List Value} {w:World}
theorem ZW (h0:w.cell? ⟨b,0,none⟩=some (.pointer (some ⟨b,0,none⟩))):
  Calls Tryz.prog 129 #[.pointer (some ⟨b,0,none⟩)] w fun e w'=>e= .returned (.tuple #[])∧w'=w:=by
 obtain⟨j,hj,_⟩:=Bj.1 eH
 go_enter Tryz.func129,Tryz.ntmps129
 go_wp2
 rw[Lib.run_neq_ptr_same w _ Z5 hj]
 go_wp2
 go_end0
 exact⟨rfl,rfl⟩
theorem Xy (h0:w.cell? ⟨b,0,none⟩=some (.pointer none)) (ml:w.shape? b=some (201,2)) (hfz:w.frozen? ⟨b,0,none⟩=false):
  Calls Tryz.prog 129 #[.pointer (some ⟨b,0,none⟩)] w fun e w'=>e= .returned (.tuple #[])∧w'=w.setCell ⟨b,0,none⟩ (.pointer (some ⟨b,0,none⟩)):=by
 obtain⟨j,hj,vP⟩:=Bj.1 eH
 go_enter Tryz.func129,Tryz.ntmps129
 go_wp2
 rw[Lib.run_to_unsafe w ⟨b,0,none⟩ Z5 Tryz.underlying175 hj (by rw[vP];decide) ml (Nat.zero_lt_succ 1)]
 simp only[Result.andThen]
 rw[nU]
 go_wp2
 rw[Be Tryz.func143 (by kernel_rfl) (by kernel_rfl) (by kernel_rfl) (e:=Extern.AbiNoEscape.same) (by kernel_rfl)]
 rw[Lib.run_noEscape]
 simp only[Result.andThen]
 rw[nU]
 go_wp2
 rw[Lib.run_from_unsafe w ⟨b,0,none⟩ Tryz.underlying175 Z5 hj ml pV]
 simp only[Result.andThen]
 rw[nU]
 go_wp2
 go_end0
 exact⟨rfl,rfl⟩
theorem cQ (h:Lib.IsBuilder 201 5 B b bs w):
  Calls Tryz.prog 129 #[.pointer (some ⟨b,0,none⟩)] w fun e w'=>e= .returned (.tuple #[])∧(Lib.BuilderAt 201 5 B b (.pointer (some ⟨b,0,none⟩)) bs w'∧Below B w w'):=by
 rcases h with h|h
 ·refine(Xy h.cell0 h.shape h.frozen0).mono ?_
  rintro e w' ⟨rfl,rfl⟩
  exact⟨rfl,h.used _,(Tf B w).setCell (p:=⟨b,0,none⟩) h.1 _⟩
 ·refine(ZW h.cell0).mono ?_
  rintro e w' ⟨rfl,rfl⟩
  exact⟨rfl,h,Tf B _⟩
def zW14 (B b:Nat) (l:Ae) (w:World) (e:Ending) (w':World):Prop:=(∃n,e= .returned (.tuple #[.int .i64 n,.nilIface]))∧Lib.IsBuilder 201 5 B b (Lib.byteCells l) w'∧Af (fun k=>B≤k) w w'
theorem cO {l s:Ae} (h:Lib.IsBuilder 201 5 B b (Lib.byteCells l) w) (hlen:l.length+s.length≤140737488355328) (hBw:B≤w.heap.size):
  Calls Tryz.prog 93 #[.pointer (some ⟨b,0,none⟩),.string ⟨s.toArray⟩] w (zW14 B b (l++s) w):=by
 obtain⟨i0,hi,KX,Ls,Lr⟩:=Cj infoByte
 have xG:(Lib.byteCells l).length=l.length:=by simp[Lib.byteCells]
 have hss:(⟨s.toArray⟩:ByteArray).size=s.length:=by simp[ByteArray.size]
 have XY:Lib.byteCells l++Lib.strCells ⟨s.toArray⟩=Lib.byteCells (l++s):=by simp[Lib.byteCells,Lib.strCells]
 have Lm:=Aa XY
 have rQ:=Aa xG
 have HSS:=Aa hss
 have H:=Aa h
 generalize hx:Lib.byteCells l=xs at*
 generalize hy:(⟨s.toArray⟩:ByteArray)=sb at*
 have Ik:xs.length+sb.size≤140737488355328:=by rw[xG,hss];exact hlen
 clear hx XY xG hss h hlen hy
 go_enter Tryz.func93,Tryz.ntmps93
 go_wp2_with fail
 refine(cQ H.out).mono ?_
 rintro e w1 ⟨rfl,h1,_c⟩
 obtain⟨hB,v,LX,NZ,Cu⟩:=h1
 have c0:w1.cell? ⟨b,0,none⟩=some (.pointer (some ⟨b,0,none⟩)):=by rw[Sc LX];rfl
 have c1:w1.cell? ⟨b,1,none⟩=some v:=by rw[Sc LX];rfl
 have Aaa:=Aa NZ
 have fp:=Aa _c
 have Yg:=Aa LX
 have HNE:=Aa Cu
 clear NZ _c LX Cu
 go_wp2_with (at_builtin;refine Lib.wpList_append_own_string _ rfl _ _ 68 9 rfl B 5 i0 Tryz.underlying68 JB hi KX Ls Lr _ _ _ rfl Aaa.out sb rfl ?c3 ?c4 ?c5 ?_)
 case c3=>unfold maxLen;omega
 case c4=>omega
 case c5=>have:=fp.out.size;omega
 intro v' w2 mu my _
 have Cy:b<w1.heap.size:=by
  rcases BP b w1.heap.size with h'|h'
  ·exact h'
  ·have:=Yg.out
   simp[Ce h']at this
 have Hy:w2.heap[b]?=some (.cells #[.pointer (some ⟨b,0,none⟩),v] 201 (0,0)):=by
  rw[my.block b Cy (fun e=>HNE.out e.symm)]
  exact Yg.out
 have d0:w2.cell? ⟨b,0,none⟩=some (.pointer (some ⟨b,0,none⟩)):=by rw[Sc Hy];rfl
 have d1:w2.cell? ⟨b,1,none⟩=some v:=by rw[Sc Hy];rfl
 have f1:w2.frozen? ⟨b,1,none⟩=false:=Lib.frozen_of_heap Hy 1
 obtain⟨ao,n',cap,rfl⟩:∃ao n' cap,v'= .slice ao n' cap:=by
  rcases mu.2 with⟨hv,_⟩|⟨g,cap,cur,hv,_⟩
  ·exact⟨_,_,_,hv⟩
  ·exact⟨_,_,_,hv⟩
 have HO2:=Aa mu
 have HG:=Aa my
 have VV:=Aa Hy
 clear mu my Hy
 go_wp2
 go_ret2
 have A6:Lib.BuilderAt 201 5 B b _ _ _:=Lib.BuilderAt.put (T:=201) (e:=5) hB VV.out (bs':=xs++Lib.strCells sb) (by simpa[Lib.strCells_length]using HO2.out) (by decide)
 rw[Lm.out]at A6
 exact⟨⟨_,rfl⟩,.inr A6,Af.of_below ((fp.out.grown HG.out (by have:=fp.out.size;omega) (fun k hk=>(Aaa.out.lt k hk).1)).setCell (p:=⟨b,1,none⟩) hB _) (fun k hk=>hk)⟩
end
section
variable {B:Nat} {ea:Nat→Addr} {w:World} {g gp bm:Nat} {vd wp:Value} {s:Ae} {st:PS}
theorem kK (h:DG B ea w g gp bm vd wp s st) (ok:st.Ok s) (hk:st.t.kind=Hn):
  Calls Tryz.prog 139 #[.pointer (some ⟨g,0,none⟩)] w fun e w'=>Di B ea w g gp bm s ((name s false (next s st)).bind fun q st=>(want s Ar (take s BN st).2).bind fun _ st_=>.ok (.prim (.put q (take s BN st).1) .nil) st_) (Jq w) e w':=by
 have q0:=Fa.start h [vs Hn,.int .i64 0,.int .i64 0,.bool false,vs [],.int .i64 0,vs [],.int .i64 0,vs [],.int .i64 0,.bool false,.slice none 0 0,.slice none 0 0]
 have hn:=Dy q0.rd
 obtain⟨_,_,c2,_⟩:=AV (h.alloc (.cells #[vs [],.int .i64 0,.int .i64 0,.bool false,vs [],.int .i64 0,vs [],.int .i64 0,vs [],.int .i64 0,.bool false,.slice none 0 0,.slice none 0 0] 258)).row
 have hB:=h.env.size
 have hg:=h.g0
 rw[hk]at c2
 have Q0:=Aa q0
 have HN:=Aa hn
 have IL:=Aa ok
 clear q0 hn h ok hk
 unfold vs at*
 go_enter EV,Ei
 go_wp2_with fail
 refine HN.out.mono ?_
 rintro e w1 ⟨rfl,Bi,h1⟩
 have q1:=Q0.out.call Bi h1 rfl rfl rfl
 have Mg:=BF IL.out
 clear Bi h1
 have MX:=G0 q1.rd false
 obtain⟨e0,e1,e2,e3,e4,e5,e6,e7,e8,e9,e10,e11,e12⟩:=Br q1.rowC
 have z:=fun j=>q1.rowC.frozen j
 have Z7:=Aa q1
 have ot:=Aa MX
 have U6:=Aa Mg
 clear q1 MX Mg e0 e1 e2 e3 e4 e5 e6 e7 e8 e9 e10 e11 e12 z
 go_wp2_with fail
 refine ot.out.mono ?_
 rintro e yt ho
 cases Ke:name s false (next s st)with
 |bad k pos=>
  rw[Ke]at ho
  obtain⟨gf,rfl,hF⟩:=A9 hB hg Z7.out.kg ho
  have Fb:=Aa Ke
  clear Ke
  go_wp2
  refine⟨rfl,?_⟩
  rw[Fb.out]
  exact⟨gf,rfl,hF⟩
 |ok n0 st1=>
  rw[Ke]at ho
  obtain⟨v,rfl,rfl,N1,km,j9,MX⟩:=ho
  have N4:=(Eo U6.out Ke).1
  have Va:=N4.ok
  have p0:=Z7.out.call N1 MX N4.decls N4.freq N4.rules
  obtain⟨e0,e1,e2,e3,e4,e5,e6,e7,e8,e9,e10,e11,e12⟩:=Br p0.rowC
  have z:=fun j=>p0.rowC.frozen j
  have q2:=p0.setC 1 (.int .i64 n0)
  have Fb:=Aa Ke
  clear N1 MX Ke p0 N4
  have EZ:=True.intro
  have ht:=Gn q2.rd BN
  have QT:=Aa q2
  have HT:=Aa ht
  have Af9:=Aa Va
  clear q2 ht Va
  unfold vs at*
  go_wp2_with fail
  clear e0 e1 e2 e3 e4 e5 e6 e7 e8 e9 e10 e11 e12 z
  refine HT.out.mono ?_
  rintro e wt ⟨rfl,mv,ht⟩
  have tp:(take s BN st1).2.decls=st1.decls∧(take s BN st1).2.freq=st1.freq∧(take s BN st1).2.rules=st1.rules:=by unfold take;split<;>exact⟨rfl,rfl,rfl⟩
  have p9:=QT.out.call mv ht tp.1 tp.2.1 tp.2.2
  obtain⟨e0,e1,e2,e3,e4,e5,e6,e7,e8,e9,e10,e11,e12⟩:=Br p9.rowC
  have z:=fun j=>p9.rowC.frozen j
  have It:=p9.setC 3 (.bool (take s BN st1).1)
  clear mv ht p9 tp
  have hw:=CD It.rd Ar
  have QW:=Aa It
  have HW:=Aa hw
  clear It hw
  unfold vs at*
  go_wp2_with fail
  clear e0 e1 e2 e3 e4 e5 e6 e7 e8 e9 e10 e11 e12 z
  refine HW.out.mono ?_
  rintro e ww ho
  cases DU:want s Ar (take s BN st1).2 with
  |bad k pos=>
   rw[DU]at ho
   obtain⟨gf,rfl,hF⟩:=A9 hB hg QW.out.kg ho
   have E4:=Aa DU
   clear DU
   go_wp2
   refine⟨rfl,?_⟩
   rw[Fb.out]
   show Di _ _ _ _ _ _ _ ((want s Ar (take s BN st1).2).bind _) _ _ _
   rw[E4.out]
   exact⟨gf,rfl,hF⟩
  |ok tt Fm=>
   rw[DU]at ho
   obtain⟨v,rfl,rfl,CV,ui,ud,hw⟩:=ho
   have Gg:=(Bw DU).2.2
   have p:=QW.out.call CV hw (by rw[Gg];rfl) (by rw[Gg];rfl) (by rw[Gg];rfl)
   obtain⟨e0,e1,e2,e3,e4,e5,e6,e7,e8,e9,e10,e11,e12⟩:=Br p.rowC
   obtain⟨f0,f1,f2,f3,f4,f5,f6,f7,f8,f9,UH,f11,UG⟩:=Br p.rowR
   have z:=fun j=>p.rowC.frozen j
   have y:=fun j=>p.rowR.frozen j
   have q:=p.copy (vs Hn) (.int .i64 n0) (.int .i64 0) (.bool (take s BN st1).1) (vs []) (.int .i64 0) (vs []) (.int .i64 0) (vs []) (.int .i64 0) (.bool false) (.slice none 0 0) (.slice none 0 0)
   have E4:=Aa DU
   have Q:=Aa q
   clear CV hw DU p q Gg
   unfold GB vs at*
   go_wp2
   refine Av (AG (cs:=[vs Hn,.int .i64 n0,.int .i64 0,.bool (take s BN st1).1,vs [],.int .i64 0,vs [],.int .i64 0,vs [],.int .i64 0,.bool false,.slice none 0 0,.slice none 0 0]) DV Je GS rfl Q.out.rowR) rfl ?_
   rw[Fb.out]
   show Di _ _ _ _ _ _ _ ((want s Ar (take s BN st1).2).bind _) _ _ _
   rw[E4.out]
   exact⟨_,rfl,GX _ _ (.put n0 (take s BN st1).1),Q.out.kg,_,_,Q.out.rd⟩
theorem aV (h:DG B ea w g gp bm vd wp s st) (ok:st.Ok s) (hk:st.t.kind=Db):
  Calls Tryz.prog 139 #[.pointer (some ⟨g,0,none⟩)] w fun e w'=>Di B ea w g gp bm s ((name s false (next s st)).bind fun q st=>(want s Ar st).bind fun _ st_=>.ok (.prim (.evict q) .nil) st_) (Jq w) e w':=by
 have q0:=Fa.start h [vs Db,.int .i64 0,.int .i64 0,.bool false,vs [],.int .i64 0,vs [],.int .i64 0,vs [],.int .i64 0,.bool false,.slice none 0 0,.slice none 0 0]
 have hn:=Dy q0.rd
 obtain⟨_,_,c2,_⟩:=AV (h.alloc (.cells #[vs [],.int .i64 0,.int .i64 0,.bool false,vs [],.int .i64 0,vs [],.int .i64 0,vs [],.int .i64 0,.bool false,.slice none 0 0,.slice none 0 0] 258)).row
 have hB:=h.env.size
 have hg:=h.g0
 rw[hk]at c2
 have Q0:=Aa q0
 have HN:=Aa hn
 have IL:=Aa ok
 clear q0 hn h ok hk
 unfold vs at*
 go_enter EV,Ei
 go_wp2_with fail
 refine HN.out.mono ?_
 rintro e w1 ⟨rfl,Bi,h1⟩
 have q1:=Q0.out.call Bi h1 rfl rfl rfl
 have Mg:=BF IL.out
 clear Bi h1
 have MX:=G0 q1.rd false
 obtain⟨e0,e1,e2,e3,e4,e5,e6,e7,e8,e9,e10,e11,e12⟩:=Br q1.rowC
 have z:=fun j=>q1.rowC.frozen j
 have Z7:=Aa q1
 have ot:=Aa MX
 have U6:=Aa Mg
 clear q1 MX Mg e0 e1 e2 e3 e4 e5 e6 e7 e8 e9 e10 e11 e12 z
 go_wp2_with fail
 refine ot.out.mono ?_
 rintro e yt ho
 cases Ke:name s false (next s st)with
 |bad k pos=>
  rw[Ke]at ho
  obtain⟨gf,rfl,hF⟩:=A9 hB hg Z7.out.kg ho
  have Fb:=Aa Ke
  clear Ke
  go_wp2
  refine⟨rfl,?_⟩
  rw[Fb.out]
  exact⟨gf,rfl,hF⟩
 |ok n0 st1=>
  rw[Ke]at ho
  obtain⟨v,rfl,rfl,N1,km,j9,MX⟩:=ho
  have N4:=(Eo U6.out Ke).1
  have Va:=N4.ok
  have p0:=Z7.out.call N1 MX N4.decls N4.freq N4.rules
  obtain⟨e0,e1,e2,e3,e4,e5,e6,e7,e8,e9,e10,e11,e12⟩:=Br p0.rowC
  have z:=fun j=>p0.rowC.frozen j
  have q2:=p0.setC 1 (.int .i64 n0)
  have Fb:=Aa Ke
  clear N1 MX Ke p0 N4
  have EZ:=True.intro
  have q9:=q2.setC 3 (.bool false)
  clear q2
  have hw:=CD q9.rd Ar
  have QW:=Aa q9
  have HW:=Aa hw
  clear q9 hw
  unfold vs at*
  go_wp2_with fail
  clear e0 e1 e2 e3 e4 e5 e6 e7 e8 e9 e10 e11 e12 z
  refine HW.out.mono ?_
  rintro e ww ho
  cases DU:want s Ar st1 with
  |bad k pos=>
   rw[DU]at ho
   obtain⟨gf,rfl,hF⟩:=A9 hB hg QW.out.kg ho
   have E4:=Aa DU
   clear DU
   go_wp2
   refine⟨rfl,?_⟩
   rw[Fb.out]
   show Di _ _ _ _ _ _ _ ((want s Ar st1).bind _) _ _ _
   rw[E4.out]
   exact⟨gf,rfl,hF⟩
  |ok tt Fm=>
   rw[DU]at ho
   obtain⟨v,rfl,rfl,CV,ui,ud,hw⟩:=ho
   have Gg:=(Bw DU).2.2
   have p:=QW.out.call CV hw (by rw[Gg];rfl) (by rw[Gg];rfl) (by rw[Gg];rfl)
   obtain⟨e0,e1,e2,e3,e4,e5,e6,e7,e8,e9,e10,e11,e12⟩:=Br p.rowC
   obtain⟨f0,f1,f2,f3,f4,f5,f6,f7,f8,f9,UH,f11,UG⟩:=Br p.rowR
   have z:=fun j=>p.rowC.frozen j
   have y:=fun j=>p.rowR.frozen j
   have q:=p.copy (vs Db) (.int .i64 n0) (.int .i64 0) (.bool false) (vs []) (.int .i64 0) (vs []) (.int .i64 0) (vs []) (.int .i64 0) (.bool false) (.slice none 0 0) (.slice none 0 0)
   have E4:=Aa DU
   have Q:=Aa q
   clear CV hw DU p q Gg
   unfold GB vs at*
   go_wp2
   refine Av (AG (cs:=[vs Db,.int .i64 n0,.int .i64 0,.bool false,vs [],.int .i64 0,vs [],.int .i64 0,vs [],.int .i64 0,.bool false,.slice none 0 0,.slice none 0 0]) DV Je GS rfl Q.out.rowR) rfl ?_
   rw[Fb.out]
   show Di _ _ _ _ _ _ _ ((want s Ar st1).bind _) _ _ _
   rw[E4.out]
   exact⟨_,rfl,GX _ _ (.evict n0),Q.out.kg,_,_,Q.out.rd⟩
theorem gc (h:DG B ea w g gp bm vd wp s st) (ok:st.Ok s) (hk:st.t.kind=Ew):
  Calls Tryz.prog 139 #[.pointer (some ⟨g,0,none⟩)] w fun e w'=>Di B ea w g gp bm s ((name s false (next s st)).bind fun q st=>(want s Ar st).bind fun _ st_=>.ok (.prim (.cool q) .nil) st_) (Jq w) e w':=by
 have q0:=Fa.start h [vs Ew,.int .i64 0,.int .i64 0,.bool false,vs [],.int .i64 0,vs [],.int .i64 0,vs [],.int .i64 0,.bool false,.slice none 0 0,.slice none 0 0]
 have hn:=Dy q0.rd
 obtain⟨_,_,c2,_⟩:=AV (h.alloc (.cells #[vs [],.int .i64 0,.int .i64 0,.bool false,vs [],.int .i64 0,vs [],.int .i64 0,vs [],.int .i64 0,.bool false,.slice none 0 0,.slice none 0 0] 258)).row
 have hB:=h.env.size
 have hg:=h.g0
 rw[hk]at c2
 have Q0:=Aa q0
 have HN:=Aa hn
 have IL:=Aa ok
 clear q0 hn h ok hk
 unfold vs at*
 go_enter EV,Ei
 go_wp2_with fail
 refine HN.out.mono ?_
 rintro e w1 ⟨rfl,Bi,h1⟩
 have q1:=Q0.out.call Bi h1 rfl rfl rfl
 have Mg:=BF IL.out
 clear Bi h1
 have MX:=G0 q1.rd false
 obtain⟨e0,e1,e2,e3,e4,e5,e6,e7,e8,e9,e10,e11,e12⟩:=Br q1.rowC
 have z:=fun j=>q1.rowC.frozen j
 have Z7:=Aa q1
 have ot:=Aa MX
 have U6:=Aa Mg
 clear q1 MX Mg e0 e1 e2 e3 e4 e5 e6 e7 e8 e9 e10 e11 e12 z
 go_wp2_with fail
 refine ot.out.mono ?_
 rintro e yt ho
 cases Ke:name s false (next s st)with
 |bad k pos=>
  rw[Ke]at ho
  obtain⟨gf,rfl,hF⟩:=A9 hB hg Z7.out.kg ho
  have Fb:=Aa Ke
  clear Ke
  go_wp2
  refine⟨rfl,?_⟩
  rw[Fb.out]
  exact⟨gf,rfl,hF⟩
 |ok n0 st1=>
  rw[Ke]at ho
  obtain⟨v,rfl,rfl,N1,km,j9,MX⟩:=ho
  have N4:=(Eo U6.out Ke).1
  have Va:=N4.ok
  have p0:=Z7.out.call N1 MX N4.decls N4.freq N4.rules
  obtain⟨e0,e1,e2,e3,e4,e5,e6,e7,e8,e9,e10,e11,e12⟩:=Br p0.rowC
  have z:=fun j=>p0.rowC.frozen j
  have q2:=p0.setC 1 (.int .i64 n0)
  have Fb:=Aa Ke
  clear N1 MX Ke p0 N4
  have EZ:=True.intro
  have q9:=q2.setC 3 (.bool false)
  clear q2
  have hw:=CD q9.rd Ar
  have QW:=Aa q9
  have HW:=Aa hw
  clear q9 hw
  unfold vs at*
  go_wp2_with fail
  clear e0 e1 e2 e3 e4 e5 e6 e7 e8 e9 e10 e11 e12 z
  refine HW.out.mono ?_
  rintro e ww ho
  cases DU:want s Ar st1 with
  |bad k pos=>
   rw[DU]at ho
   obtain⟨gf,rfl,hF⟩:=A9 hB hg QW.out.kg ho
   have E4:=Aa DU
   clear DU
   go_wp2
   refine⟨rfl,?_⟩
   rw[Fb.out]
   show Di _ _ _ _ _ _ _ ((want s Ar st1).bind _) _ _ _
   rw[E4.out]
   exact⟨gf,rfl,hF⟩
  |ok tt Fm=>
   rw[DU]at ho
   obtain⟨v,rfl,rfl,CV,ui,ud,hw⟩:=ho
   have Gg:=(Bw DU).2.2
   have p:=QW.out.call CV hw (by rw[Gg];rfl) (by rw[Gg];rfl) (by rw[Gg];rfl)
   obtain⟨e0,e1,e2,e3,e4,e5,e6,e7,e8,e9,e10,e11,e12⟩:=Br p.rowC
   obtain⟨f0,f1,f2,f3,f4,f5,f6,f7,f8,f9,UH,f11,UG⟩:=Br p.rowR
   have z:=fun j=>p.rowC.frozen j
   have y:=fun j=>p.rowR.frozen j
   have q:=p.copy (vs Ew) (.int .i64 n0) (.int .i64 0) (.bool false) (vs []) (.int .i64 0) (vs []) (.int .i64 0) (vs []) (.int .i64 0) (.bool false) (.slice none 0 0) (.slice none 0 0)
   have E4:=Aa DU
   have Q:=Aa q
   clear CV hw DU p q Gg
   unfold GB vs at*
   go_wp2
   refine Av (AG (cs:=[vs Ew,.int .i64 n0,.int .i64 0,.bool false,vs [],.int .i64 0,vs [],.int .i64 0,vs [],.int .i64 0,.bool false,.slice none 0 0,.slice none 0 0]) DV Je GS rfl Q.out.rowR) rfl ?_
   rw[Fb.out]
   show Di _ _ _ _ _ _ _ ((want s Ar st1).bind _) _ _ _
   rw[E4.out]
   exact⟨_,rfl,GX _ _ (.cool n0),Q.out.kg,_,_,Q.out.rd⟩
theorem aU (h:DG B ea w g gp bm vd wp s st) (ok:st.Ok s) (hk:st.t.kind=CN):
  Calls Tryz.prog 139 #[.pointer (some ⟨g,0,none⟩)] w fun e w'=>Di B ea w g gp bm s ((name s false (next s st)).bind fun q st=>(name s false st).bind fun p st=>(want s Ar (take s BN st).2).bind fun _ st_=>.ok (.prim (.shift q p (take s BN st).1) .nil) st_) (Jq w) e w':=by
 have q0:=Fa.start h [vs CN,.int .i64 0,.int .i64 0,.bool false,vs [],.int .i64 0,vs [],.int .i64 0,vs [],.int .i64 0,.bool false,.slice none 0 0,.slice none 0 0]
 have hn:=Dy q0.rd
 obtain⟨_,_,c2,_⟩:=AV (h.alloc (.cells #[vs [],.int .i64 0,.int .i64 0,.bool false,vs [],.int .i64 0,vs [],.int .i64 0,vs [],.int .i64 0,.bool false,.slice none 0 0,.slice none 0 0] 258)).row
 have hB:=h.env.size
 have hg:=h.g0
 rw[hk]at c2
 have Q0:=Aa q0
 have HN:=Aa hn
 have IL:=Aa ok
 clear q0 hn h ok hk
 unfold vs at*
 go_enter EV,Ei
 go_wp2_with fail
 refine HN.out.mono ?_
 rintro e w1 ⟨rfl,Bi,h1⟩
 have q1:=Q0.out.call Bi h1 rfl rfl rfl
 have Mg:=BF IL.out
 clear Bi h1
 have MX:=G0 q1.rd false
 obtain⟨e0,e1,e2,e3,e4,e5,e6,e7,e8,e9,e10,e11,e12⟩:=Br q1.rowC
 have z:=fun j=>q1.rowC.frozen j
 have Z7:=Aa q1
 have ot:=Aa MX
 have U6:=Aa Mg
 clear q1 MX Mg e0 e1 e2 e3 e4 e5 e6 e7 e8 e9 e10 e11 e12 z
 go_wp2_with fail
 refine ot.out.mono ?_
 rintro e yt ho
 cases Ke:name s false (next s st)with
 |bad k pos=>
  rw[Ke]at ho
  obtain⟨gf,rfl,hF⟩:=A9 hB hg Z7.out.kg ho
  have Fb:=Aa Ke
  clear Ke
  go_wp2
  refine⟨rfl,?_⟩
  rw[Fb.out]
  exact⟨gf,rfl,hF⟩
 |ok n0 st1=>
  rw[Ke]at ho
  obtain⟨v,rfl,rfl,N1,km,j9,MX⟩:=ho
  have N4:=(Eo U6.out Ke).1
  have Va:=N4.ok
  have p0:=Z7.out.call N1 MX N4.decls N4.freq N4.rules
  obtain⟨e0,e1,e2,e3,e4,e5,e6,e7,e8,e9,e10,e11,e12⟩:=Br p0.rowC
  have z:=fun j=>p0.rowC.frozen j
  have q2:=p0.setC 1 (.int .i64 n0)
  have Fb:=Aa Ke
  clear N1 MX Ke p0 N4
  have FF:=G0 q2.rd false
  have QN1:=Aa q2
  have HN1:=Aa FF
  have VT:=Aa Va
  clear q2 FF Va
  unfold vs at*
  go_wp2_with fail
  clear e0 e1 e2 e3 e4 e5 e6 e7 e8 e9 e10 e11 e12 z
  refine HN1.out.mono ?_
  rintro e wn1 ho
  cases RE:name s false st1 with
  |bad k pos=>
   rw[RE]at ho
   obtain⟨gf,rfl,hF⟩:=A9 hB hg QN1.out.kg ho
   have fe:=Aa RE
   clear RE
   go_wp2
   refine⟨rfl,?_⟩
   rw[Fb.out]
   show Di _ _ _ _ _ _ _ ((name s false st1).bind _) _ _ _
   rw[fe.out]
   exact⟨gf,rfl,hF⟩
  |ok n1 AP=>
   rw[RE]at ho
   obtain⟨v,rfl,rfl,zE,Ak7,Ak4,XU⟩:=ho
   have _v:=(Eo VT.out RE).1
   have W5:=_v.ok
   have p1:=QN1.out.call zE XU _v.decls _v.freq _v.rules
   obtain⟨e0,e1,e2,e3,e4,e5,e6,e7,e8,e9,e10,e11,e12⟩:=Br p1.rowC
   have z:=fun j=>p1.rowC.frozen j
   have q3:=p1.setC 2 (.int .i64 n1)
   have fe:=Aa RE
   clear zE XU RE p1 _v
   have ht:=Gn q3.rd BN
   have QT:=Aa q3
   have HT:=Aa ht
   have Af9:=Aa W5
   clear q3 ht W5
   unfold vs at*
   go_wp2_with fail
   clear e0 e1 e2 e3 e4 e5 e6 e7 e8 e9 e10 e11 e12 z
   refine HT.out.mono ?_
   rintro e wt ⟨rfl,mv,ht⟩
   have tp:(take s BN AP).2.decls=AP.decls∧(take s BN AP).2.freq=AP.freq∧(take s BN AP).2.rules=AP.rules:=by unfold take;split<;>exact⟨rfl,rfl,rfl⟩
   have p9:=QT.out.call mv ht tp.1 tp.2.1 tp.2.2
   obtain⟨e0,e1,e2,e3,e4,e5,e6,e7,e8,e9,e10,e11,e12⟩:=Br p9.rowC
   have z:=fun j=>p9.rowC.frozen j
   have It:=p9.setC 3 (.bool (take s BN AP).1)
   clear mv ht p9 tp
   have hw:=CD It.rd Ar
   have QW:=Aa It
   have HW:=Aa hw
   clear It hw
   unfold vs at*
   go_wp2_with fail
   clear e0 e1 e2 e3 e4 e5 e6 e7 e8 e9 e10 e11 e12 z
   refine HW.out.mono ?_
   rintro e ww ho
   cases DU:want s Ar (take s BN AP).2 with
   |bad k pos=>
    rw[DU]at ho
    obtain⟨gf,rfl,hF⟩:=A9 hB hg QW.out.kg ho
    have E4:=Aa DU
    clear DU
    go_wp2
    refine⟨rfl,?_⟩
    rw[Fb.out]
    show Di _ _ _ _ _ _ _ ((name s false st1).bind _) _ _ _
    rw[fe.out]
    show Di _ _ _ _ _ _ _ ((want s Ar (take s BN AP).2).bind _) _ _ _
    rw[E4.out]
    exact⟨gf,rfl,hF⟩
   |ok tt Fm=>
    rw[DU]at ho
    obtain⟨v,rfl,rfl,CV,ui,ud,hw⟩:=ho
    have Gg:=(Bw DU).2.2
    have p:=QW.out.call CV hw (by rw[Gg];rfl) (by rw[Gg];rfl) (by rw[Gg];rfl)
    obtain⟨e0,e1,e2,e3,e4,e5,e6,e7,e8,e9,e10,e11,e12⟩:=Br p.rowC
    obtain⟨f0,f1,f2,f3,f4,f5,f6,f7,f8,f9,UH,f11,UG⟩:=Br p.rowR
    have z:=fun j=>p.rowC.frozen j
    have y:=fun j=>p.rowR.frozen j
    have q:=p.copy (vs CN) (.int .i64 n0) (.int .i64 n1) (.bool (take s BN AP).1) (vs []) (.int .i64 0) (vs []) (.int .i64 0) (vs []) (.int .i64 0) (.bool false) (.slice none 0 0) (.slice none 0 0)
    have E4:=Aa DU
    have Q:=Aa q
    clear CV hw DU p q Gg
    unfold GB vs at*
    go_wp2
    refine Av (AG (cs:=[vs CN,.int .i64 n0,.int .i64 n1,.bool (take s BN AP).1,vs [],.int .i64 0,vs [],.int .i64 0,vs [],.int .i64 0,.bool false,.slice none 0 0,.slice none 0 0]) DV Je GS rfl Q.out.rowR) rfl ?_
    rw[Fb.out]
    show Di _ _ _ _ _ _ _ ((name s false st1).bind _) _ _ _
    rw[fe.out]
    show Di _ _ _ _ _ _ _ ((want s Ar (take s BN AP).2).bind _) _ _ _
    rw[E4.out]
    exact⟨_,rfl,GX _ _ (.shift n0 n1 (take s BN AP).1),Q.out.kg,_,_,Q.out.rd⟩
theorem kL (h:DG B ea w g gp bm vd wp s st) (ok:st.Ok s) (hk:st.t.kind=Ia):
  Calls Tryz.prog 139 #[.pointer (some ⟨g,0,none⟩)] w fun e w'=>Di B ea w g gp bm s ((name s true (next s st)).bind fun v st=>(want s Ar st).bind fun _ st_=>.ok (.prim (.inc v) .nil) st_) (Jq w) e w':=by
 have q0:=Fa.start h [vs Ia,.int .i64 0,.int .i64 0,.bool false,vs [],.int .i64 0,vs [],.int .i64 0,vs [],.int .i64 0,.bool false,.slice none 0 0,.slice none 0 0]
 have hn:=Dy q0.rd
 obtain⟨_,_,c2,_⟩:=AV (h.alloc (.cells #[vs [],.int .i64 0,.int .i64 0,.bool false,vs [],.int .i64 0,vs [],.int .i64 0,vs [],.int .i64 0,.bool false,.slice none 0 0,.slice none 0 0] 258)).row
 have hB:=h.env.size
 have hg:=h.g0
 rw[hk]at c2
 have Q0:=Aa q0
 have HN:=Aa hn
 have IL:=Aa ok
 clear q0 hn h ok hk
 unfold vs at*
 go_enter EV,Ei
 go_wp2_with fail
 refine HN.out.mono ?_
 rintro e w1 ⟨rfl,Bi,h1⟩
 have q1:=Q0.out.call Bi h1 rfl rfl rfl
 have Mg:=BF IL.out
 clear Bi h1
 have MX:=G0 q1.rd true
 obtain⟨e0,e1,e2,e3,e4,e5,e6,e7,e8,e9,e10,e11,e12⟩:=Br q1.rowC
 have z:=fun j=>q1.rowC.frozen j
 have Z7:=Aa q1
 have ot:=Aa MX
 have U6:=Aa Mg
 clear q1 MX Mg e0 e1 e2 e3 e4 e5 e6 e7 e8 e9 e10 e11 e12 z
 go_wp2_with fail
 refine ot.out.mono ?_
 rintro e yt ho
 cases Ke:name s true (next s st)with
 |bad k pos=>
  rw[Ke]at ho
  obtain⟨gf,rfl,hF⟩:=A9 hB hg Z7.out.kg ho
  have Fb:=Aa Ke
  clear Ke
  go_wp2
  refine⟨rfl,?_⟩
  rw[Fb.out]
  exact⟨gf,rfl,hF⟩
 |ok n0 st1=>
  rw[Ke]at ho
  obtain⟨v,rfl,rfl,N1,km,j9,MX⟩:=ho
  have N4:=(Eo U6.out Ke).1
  have Va:=N4.ok
  have p0:=Z7.out.call N1 MX N4.decls N4.freq N4.rules
  obtain⟨e0,e1,e2,e3,e4,e5,e6,e7,e8,e9,e10,e11,e12⟩:=Br p0.rowC
  have z:=fun j=>p0.rowC.frozen j
  have q2:=p0.setC 1 (.int .i64 n0)
  have Fb:=Aa Ke
  clear N1 MX Ke p0 N4
  have EZ:=True.intro
  have hw:=CD q2.rd Ar
  have QW:=Aa q2
  have HW:=Aa hw
  clear q2 hw
  unfold vs at*
  go_wp2_with fail
  clear e0 e1 e2 e3 e4 e5 e6 e7 e8 e9 e10 e11 e12 z
  refine HW.out.mono ?_
  rintro e ww ho
  cases DU:want s Ar st1 with
  |bad k pos=>
   rw[DU]at ho
   obtain⟨gf,rfl,hF⟩:=A9 hB hg QW.out.kg ho
   have E4:=Aa DU
   clear DU
   go_wp2
   refine⟨rfl,?_⟩
   rw[Fb.out]
   show Di _ _ _ _ _ _ _ ((want s Ar st1).bind _) _ _ _
   rw[E4.out]
   exact⟨gf,rfl,hF⟩
  |ok tt Fm=>
   rw[DU]at ho
   obtain⟨v,rfl,rfl,CV,ui,ud,hw⟩:=ho
   have Gg:=(Bw DU).2.2
   have p:=QW.out.call CV hw (by rw[Gg];rfl) (by rw[Gg];rfl) (by rw[Gg];rfl)
   obtain⟨e0,e1,e2,e3,e4,e5,e6,e7,e8,e9,e10,e11,e12⟩:=Br p.rowC
   obtain⟨f0,f1,f2,f3,f4,f5,f6,f7,f8,f9,UH,f11,UG⟩:=Br p.rowR
   have z:=fun j=>p.rowC.frozen j
   have y:=fun j=>p.rowR.frozen j
   have q:=p.copy (vs Ia) (.int .i64 n0) (.int .i64 0) (.bool false) (vs []) (.int .i64 0) (vs []) (.int .i64 0) (vs []) (.int .i64 0) (.bool false) (.slice none 0 0) (.slice none 0 0)
   have E4:=Aa DU
   have Q:=Aa q
   clear CV hw DU p q Gg
   unfold GB vs at*
   go_wp2
   refine Av (AG (cs:=[vs Ia,.int .i64 n0,.int .i64 0,.bool false,vs [],.int .i64 0,vs [],.int .i64 0,vs [],.int .i64 0,.bool false,.slice none 0 0,.slice none 0 0]) DV Je GS rfl Q.out.rowR) rfl ?_
   rw[Fb.out]
   show Di _ _ _ _ _ _ _ ((want s Ar st1).bind _) _ _ _
   rw[E4.out]
   exact⟨_,rfl,GX _ _ (.inc n0),Q.out.kg,_,_,Q.out.rd⟩
theorem kM (h:DG B ea w g gp bm vd wp s st) (ok:st.Ok s) (hk:st.t.kind=Ib):
  Calls Tryz.prog 139 #[.pointer (some ⟨g,0,none⟩)] w fun e w'=>Di B ea w g gp bm s ((name s true (next s st)).bind fun v st=>(want s Ar st).bind fun _ st_=>.ok (.prim (.dec v) .nil) st_) (Jq w) e w':=by
 have q0:=Fa.start h [vs Ib,.int .i64 0,.int .i64 0,.bool false,vs [],.int .i64 0,vs [],.int .i64 0,vs [],.int .i64 0,.bool false,.slice none 0 0,.slice none 0 0]
 have hn:=Dy q0.rd
 obtain⟨_,_,c2,_⟩:=AV (h.alloc (.cells #[vs [],.int .i64 0,.int .i64 0,.bool false,vs [],.int .i64 0,vs [],.int .i64 0,vs [],.int .i64 0,.bool false,.slice none 0 0,.slice none 0 0] 258)).row
 have hB:=h.env.size
 have hg:=h.g0
 rw[hk]at c2
 have Q0:=Aa q0
 have HN:=Aa hn
 have IL:=Aa ok
 clear q0 hn h ok hk
 unfold vs at*
 go_enter EV,Ei
 go_wp2_with fail
 refine HN.out.mono ?_
 rintro e w1 ⟨rfl,Bi,h1⟩
 have q1:=Q0.out.call Bi h1 rfl rfl rfl
 have Mg:=BF IL.out
 clear Bi h1
 have MX:=G0 q1.rd true
 obtain⟨e0,e1,e2,e3,e4,e5,e6,e7,e8,e9,e10,e11,e12⟩:=Br q1.rowC
 have z:=fun j=>q1.rowC.frozen j
 have Z7:=Aa q1
 have ot:=Aa MX
 have U6:=Aa Mg
 clear q1 MX Mg e0 e1 e2 e3 e4 e5 e6 e7 e8 e9 e10 e11 e12 z
 go_wp2_with fail
 refine ot.out.mono ?_
 rintro e yt ho
 cases Ke:name s true (next s st)with
 |bad k pos=>
  rw[Ke]at ho
  obtain⟨gf,rfl,hF⟩:=A9 hB hg Z7.out.kg ho
  have Fb:=Aa Ke
  clear Ke
  go_wp2
  refine⟨rfl,?_⟩
  rw[Fb.out]
  exact⟨gf,rfl,hF⟩
 |ok n0 st1=>
  rw[Ke]at ho
  obtain⟨v,rfl,rfl,N1,km,j9,MX⟩:=ho
  have N4:=(Eo U6.out Ke).1
  have Va:=N4.ok
  have p0:=Z7.out.call N1 MX N4.decls N4.freq N4.rules
  obtain⟨e0,e1,e2,e3,e4,e5,e6,e7,e8,e9,e10,e11,e12⟩:=Br p0.rowC
  have z:=fun j=>p0.rowC.frozen j
  have q2:=p0.setC 1 (.int .i64 n0)
  have Fb:=Aa Ke
  clear N1 MX Ke p0 N4
  have EZ:=True.intro
  have hw:=CD q2.rd Ar
  have QW:=Aa q2
  have HW:=Aa hw
  clear q2 hw
  unfold vs at*
  go_wp2_with fail
  clear e0 e1 e2 e3 e4 e5 e6 e7 e8 e9 e10 e11 e12 z
  refine HW.out.mono ?_
  rintro e ww ho
  cases DU:want s Ar st1 with
  |bad k pos=>
   rw[DU]at ho
   obtain⟨gf,rfl,hF⟩:=A9 hB hg QW.out.kg ho
   have E4:=Aa DU
   clear DU
   go_wp2
   refine⟨rfl,?_⟩
   rw[Fb.out]
   show Di _ _ _ _ _ _ _ ((want s Ar st1).bind _) _ _ _
   rw[E4.out]
   exact⟨gf,rfl,hF⟩
  |ok tt Fm=>
   rw[DU]at ho
   obtain⟨v,rfl,rfl,CV,ui,ud,hw⟩:=ho
   have Gg:=(Bw DU).2.2
   have p:=QW.out.call CV hw (by rw[Gg];rfl) (by rw[Gg];rfl) (by rw[Gg];rfl)
   obtain⟨e0,e1,e2,e3,e4,e5,e6,e7,e8,e9,e10,e11,e12⟩:=Br p.rowC
   obtain⟨f0,f1,f2,f3,f4,f5,f6,f7,f8,f9,UH,f11,UG⟩:=Br p.rowR
   have z:=fun j=>p.rowC.frozen j
   have y:=fun j=>p.rowR.frozen j
   have q:=p.copy (vs Ib) (.int .i64 n0) (.int .i64 0) (.bool false) (vs []) (.int .i64 0) (vs []) (.int .i64 0) (vs []) (.int .i64 0) (.bool false) (.slice none 0 0) (.slice none 0 0)
   have E4:=Aa DU
   have Q:=Aa q
   clear CV hw DU p q Gg
   unfold GB vs at*
   go_wp2
   refine Av (AG (cs:=[vs Ib,.int .i64 n0,.int .i64 0,.bool false,vs [],.int .i64 0,vs [],.int .i64 0,vs [],.int .i64 0,.bool false,.slice none 0 0,.slice none 0 0]) DV Je GS rfl Q.out.rowR) rfl ?_
   rw[Fb.out]
   show Di _ _ _ _ _ _ _ ((want s Ar st1).bind _) _ _ _
   rw[E4.out]
   exact⟨_,rfl,GX _ _ (.dec n0),Q.out.kg,_,_,Q.out.rd⟩
theorem fZ (h:DG B ea w g gp bm vd wp s st) (ok:st.Ok s) (hk:st.t.kind=EJ):
  Calls Tryz.prog 139 #[.pointer (some ⟨g,0,none⟩)] w fun e w'=>Di B ea w g gp bm s ((want s Ar (next s st)).bind fun _ st_=>.ok (.prim (.drop) .nil) st_) (Jq w) e w':=by
 have q0:=Fa.start h [vs EJ,.int .i64 0,.int .i64 0,.bool false,vs [],.int .i64 0,vs [],.int .i64 0,vs [],.int .i64 0,.bool false,.slice none 0 0,.slice none 0 0]
 have hn:=Dy q0.rd
 obtain⟨_,_,c2,_⟩:=AV (h.alloc (.cells #[vs [],.int .i64 0,.int .i64 0,.bool false,vs [],.int .i64 0,vs [],.int .i64 0,vs [],.int .i64 0,.bool false,.slice none 0 0,.slice none 0 0] 258)).row
 have hB:=h.env.size
 have hg:=h.g0
 rw[hk]at c2
 have Q0:=Aa q0
 have HN:=Aa hn
 have IL:=Aa ok
 clear q0 hn h ok hk
 unfold vs at*
 go_enter EV,Ei
 go_wp2_with fail
 refine HN.out.mono ?_
 rintro e w1 ⟨rfl,Bi,h1⟩
 have q1:=Q0.out.call Bi h1 rfl rfl rfl
 have Mg:=BF IL.out
 clear Bi h1
 obtain⟨e0,e1,e2,e3,e4,e5,e6,e7,e8,e9,e10,e11,e12⟩:=Br q1.rowC
 have z:=fun j=>q1.rowC.frozen j
 have hw:=CD q1.rd Ar
 have QW:=Aa q1
 have HW:=Aa hw
 clear q1 hw
 unfold vs at*
 go_wp2_with fail
 clear e0 e1 e2 e3 e4 e5 e6 e7 e8 e9 e10 e11 e12 z
 refine HW.out.mono ?_
 rintro e ww ho
 cases DU:want s Ar (next s st)with
 |bad k pos=>
  rw[DU]at ho
  obtain⟨gf,rfl,hF⟩:=A9 hB hg QW.out.kg ho
  have E4:=Aa DU
  clear DU
  go_wp2
  refine⟨rfl,?_⟩
  rw[E4.out]
  exact⟨gf,rfl,hF⟩
 |ok tt Fm=>
  rw[DU]at ho
  obtain⟨v,rfl,rfl,CV,ui,ud,hw⟩:=ho
  have Gg:=(Bw DU).2.2
  have p:=QW.out.call CV hw (by rw[Gg];rfl) (by rw[Gg];rfl) (by rw[Gg];rfl)
  obtain⟨e0,e1,e2,e3,e4,e5,e6,e7,e8,e9,e10,e11,e12⟩:=Br p.rowC
  obtain⟨f0,f1,f2,f3,f4,f5,f6,f7,f8,f9,UH,f11,UG⟩:=Br p.rowR
  have z:=fun j=>p.rowC.frozen j
  have y:=fun j=>p.rowR.frozen j
  have q:=p.copy (vs EJ) (.int .i64 0) (.int .i64 0) (.bool false) (vs []) (.int .i64 0) (vs []) (.int .i64 0) (vs []) (.int .i64 0) (.bool false) (.slice none 0 0) (.slice none 0 0)
  have E4:=Aa DU
  have Q:=Aa q
  clear CV hw DU p q Gg
  unfold GB vs at*
  go_wp2
  refine Av (AG (cs:=[vs EJ,.int .i64 0,.int .i64 0,.bool false,vs [],.int .i64 0,vs [],.int .i64 0,vs [],.int .i64 0,.bool false,.slice none 0 0,.slice none 0 0]) DV Je GS rfl Q.out.rowR) rfl ?_
  rw[E4.out]
  exact⟨_,rfl,GX _ _ (.drop),Q.out.kg,_,_,Q.out.rd⟩
theorem gi (h:DG B ea w g gp bm vd wp s st) (ok:st.Ok s) (hk:st.t.kind=EK):
  Calls Tryz.prog 139 #[.pointer (some ⟨g,0,none⟩)] w fun e w'=>Di B ea w g gp bm s ((want s Ar (next s st)).bind fun _ st_=>.ok (.prim (.bump) .nil) st_) (Jq w) e w':=by
 have q0:=Fa.start h [vs EK,.int .i64 0,.int .i64 0,.bool false,vs [],.int .i64 0,vs [],.int .i64 0,vs [],.int .i64 0,.bool false,.slice none 0 0,.slice none 0 0]
 have hn:=Dy q0.rd
 obtain⟨_,_,c2,_⟩:=AV (h.alloc (.cells #[vs [],.int .i64 0,.int .i64 0,.bool false,vs [],.int .i64 0,vs [],.int .i64 0,vs [],.int .i64 0,.bool false,.slice none 0 0,.slice none 0 0] 258)).row
 have hB:=h.env.size
 have hg:=h.g0
 rw[hk]at c2
 have Q0:=Aa q0
 have HN:=Aa hn
 have IL:=Aa ok
 clear q0 hn h ok hk
 unfold vs at*
 go_enter EV,Ei
 go_wp2_with fail
 refine HN.out.mono ?_
 rintro e w1 ⟨rfl,Bi,h1⟩
 have q1:=Q0.out.call Bi h1 rfl rfl rfl
 have Mg:=BF IL.out
 clear Bi h1
 obtain⟨e0,e1,e2,e3,e4,e5,e6,e7,e8,e9,e10,e11,e12⟩:=Br q1.rowC
 have z:=fun j=>q1.rowC.frozen j
 have hw:=CD q1.rd Ar
 have QW:=Aa q1
 have HW:=Aa hw
 clear q1 hw
 unfold vs at*
 go_wp2_with fail
 clear e0 e1 e2 e3 e4 e5 e6 e7 e8 e9 e10 e11 e12 z
 refine HW.out.mono ?_
 rintro e ww ho
 cases DU:want s Ar (next s st)with
 |bad k pos=>
  rw[DU]at ho
  obtain⟨gf,rfl,hF⟩:=A9 hB hg QW.out.kg ho
  have E4:=Aa DU
  clear DU
  go_wp2
  refine⟨rfl,?_⟩
  rw[E4.out]
  exact⟨gf,rfl,hF⟩
 |ok tt Fm=>
  rw[DU]at ho
  obtain⟨v,rfl,rfl,CV,ui,ud,hw⟩:=ho
  have Gg:=(Bw DU).2.2
  have p:=QW.out.call CV hw (by rw[Gg];rfl) (by rw[Gg];rfl) (by rw[Gg];rfl)
  obtain⟨e0,e1,e2,e3,e4,e5,e6,e7,e8,e9,e10,e11,e12⟩:=Br p.rowC
  obtain⟨f0,f1,f2,f3,f4,f5,f6,f7,f8,f9,UH,f11,UG⟩:=Br p.rowR
  have z:=fun j=>p.rowC.frozen j
  have y:=fun j=>p.rowR.frozen j
  have q:=p.copy (vs EK) (.int .i64 0) (.int .i64 0) (.bool false) (vs []) (.int .i64 0) (vs []) (.int .i64 0) (vs []) (.int .i64 0) (.bool false) (.slice none 0 0) (.slice none 0 0)
  have E4:=Aa DU
  have Q:=Aa q
  clear CV hw DU p q Gg
  unfold GB vs at*
  go_wp2
  refine Av (AG (cs:=[vs EK,.int .i64 0,.int .i64 0,.bool false,vs [],.int .i64 0,vs [],.int .i64 0,vs [],.int .i64 0,.bool false,.slice none 0 0,.slice none 0 0]) DV Je GS rfl Q.out.rowR) rfl ?_
  rw[E4.out]
  exact⟨_,rfl,GX _ _ (.bump),Q.out.kg,_,_,Q.out.rd⟩
end
end Go.Proofs.YtemppijblfflgaaGreatDoor.Ev
