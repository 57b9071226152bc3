/- Lemmas for a law's walk. Conditions: none. -/
import Derived.Test.YtepoejiigmhlbaaGreatDoorShelf
import Derived.Laws.Concat
import Derived.Lib.LaidTab
import Derived.Deep.RegionLaw
import Derived.Shelf.Strings.Builder1
import Derived.Test.YtepoejiigmhlbaaGreatDoorZc01
import Derived.Test.YtepoejiigmhlbaaGreatDoorZc02
import Derived.Test.YtepoejiigmhlbaaGreatDoorZc03
import Derived.Test.YtepoejiigmhlbaaGreatDoorZc04
import Derived.Test.YtepoejiigmhlbaaGreatDoorZc06
import Derived.Test.YtepoejiigmhlbaaGreatDoorZc13
set_option linter.all false
namespace Go.Proofs.YtepoejiigmhlbaaGreatDoor.Ev
theorem showStmts_app (l:List Decl):∀(a b:Blk),showStmts l (a.app b)=showStmts l a++showStmts l b
 | .nil,b=>by simp[Blk.app,showStmts]
 | .prim p r,b=>by simp[Blk.app,showStmts,showStmts_app l r b]
 | .ite c t o e r,b=>by simp[Blk.app,showStmts,showStmts_app l r b]
 | .rep n c x r,b=>by simp[Blk.app,showStmts,showStmts_app l r b]
section
variable {l:List Decl}
theorem nameOf_len (h:DeclsW l) (k:Int):(nameOf l k).length≤8:=by
 unfold nameOf declAt
 cases hk:l[k.toNat]? with
 |none=>simp
 |some d=>exact(h.each d (List.mem_of_getElem? hk)).name.2.1
theorem showVal_len (h:DeclsW l) {v:Val} (hv:ValW l v):(showVal l v).length≤12:=by
 cases v with
 |num n=>have:=(digits_ok hv.1 hv.2).2.1;simp only[showVal];omega
 |var k=>have:=nameOf_len h k;simp only[showVal];omega
 |len k=>have:=nameOf_len h k;simp[showVal,bSp];omega
 |freq=>simp[showVal]
theorem showCond_len (h:DeclsW l) {c:Cond} (hc:CKW l c.k):(showCond l c).length≤40:=by
 have h0:(if c.nots%2=1 then kNot++bSp else []).length≤4:=by split<;>simp[bSp]
 have h1:(showCK l c.k).length≤36:=by
  cases hk:c.k with
  |full k=>have:=nameOf_len h k;simp[showCK,bSp];omega
  |empty k=>have:=nameOf_len h k;simp[showCK,bSp];omega
  |warm k=>have:=nameOf_len h k;simp[showCK,bSp];omega
  |less a b=>
   rw[hk]at hc
   have:=showVal_len h hc.1
   have:=showVal_len h hc.2
   simp[showCK];omega
 unfold showCond
 rw[List.length_append]
 omega
theorem showPrim_len (h:DeclsW l) (p:Prim):(showPrim l p).length≤40:=by
 have h0:∀t,(showTail t).length≤5:=by intro t;cases t<;>simp[showTail,bSp]
 cases p with
 |put q t=>have:=nameOf_len h q;have:=h0 t;simp[showPrim,bSp];omega
 |evict q=>have:=nameOf_len h q;simp[showPrim,bSp];omega
 |cool q=>have:=nameOf_len h q;simp[showPrim,bSp];omega
 |shift q p t=>have:=nameOf_len h q;have:=nameOf_len h p;have:=h0 t;simp[showPrim,bSp];omega
 |inc q=>have:=nameOf_len h q;simp[showPrim,bSp];omega
 |dec q=>have:=nameOf_len h q;simp[showPrim,bSp];omega
 |drop=>simp[showPrim]
 |bump=>simp[showPrim]
theorem showStmts_len (h:DeclsW l):∀(b:Blk),BlkW l b→(showStmts l b).length≤100*b.size
 | .nil,_=>by simp[showStmts]
 | .prim p r,hb=>by
  have:=showPrim_len h p
  have:=showStmts_len h r hb.2
  simp[showStmts,bSp,Blk.size];omega
 | .ite c t o e r,hb=>by
  have:=showCond_len h hb.1
  have:=showStmts_len h t hb.2.1
  have:=showStmts_len h e hb.2.2.1
  have:=showStmts_len h r hb.2.2.2
  cases o<;>simp[showStmts,bSp,Blk.size]<;>omega
 | .rep n c b r,hb=>by
  have:=showCond_len h hb.1
  have:=showStmts_len h b hb.2.1
  have:=showStmts_len h r hb.2.2.1
  have:=(digits_ok (n:=n) (by have:=hb.2.2.2;omega) (by have:=hb.2.2.2;omega)).2.1
  simp[showStmts,bSp,Blk.size];omega
theorem showBlk_len (h:DeclsW l) {b:Blk} (hb:BlkW l b):(showBlk l b).length≤100*b.size+3:=by
 have:=showStmts_len h b hb
 simp[showBlk,bSp];omega
end
end Go.Proofs.YtepoejiigmhlbaaGreatDoor.Ev
namespace Go.Proofs.YtepoejiigmhlbaaGreatDoor.Ev
open Go Go.RowKit
def OutTx (w:World) (s:Bytes) (e:Ending) (w':World):Prop:=e= .returned (vs s)∧Kept (fun b=>w.heap.size≤b) w w'
theorem Kept.grow_ (w:World) (k:Nat) (os:Array Obj) {S:Nat→Prop} (hS:∀b,w.heap.size≤b→S b):Kept S w (Sort.grow (w.drewN k) os):=
 ⟨rfl,rfl,rfl,by simp[Sort.grow],fun i hi=>by
  rcases Nat.lt_or_ge i w.heap.size with h|h
  ·show(w.heap++os)[i]?=_
   exact Array.getElem?_append_left h
  ·exact absurd (hS i h) hi⟩
def TabE (w:World):Prop:=Lib.TabIs Tryz.prog w "internal/strconv.uint64pow10" .u64 Lib.pow10Tab
theorem TabE.kept {S:Nat→Prop} {w w':World} (h:TabE w) (hk:Kept S w w') (hS:∀b,S b→¬b=16):TabE w':=by
 unfold TabE Lib.TabIs World.var? at*
 have hg:Tryz.prog.globalNamed "internal/strconv.uint64pow10" =some 16:=by kernel_rfl
 have e:=hk.block 16 (fun hs=>hS _ hs rfl)
 rw[hg]at h ⊢
 simp only[Option.bind_some]at h ⊢
 rw[e]
 exact h
theorem decDigits_nat:∀(n:Nat),Lib.decDigits n=digitsNat n:=by
 intro n
 induction n using Nat.strongRecOn with
 |_ n ih=>
  rw[Lib.decDigits,digitsNat]
  by_cases h:n<10
  ·rw[dif_pos h,if_pos h]
  ·rw[dif_neg h,if_neg h,ih (n/10) (by omega)]
theorem decDigits_of {n:Int} (h0:0≤n):Lib.decDigits n.toNat=digits n:=decDigits_nat n.toNat
theorem itoa_digits {n:Int} (h0:0≤n):Lib.itoa n=digits n:=by
 unfold Lib.itoa
 rw[if_neg (by omega)]
 exact decDigits_of h0
theorem TabE.lt {w:World} (h:TabE w):16<w.heap.size:=by
 unfold TabE Lib.TabIs World.var? at h
 have hg:Tryz.prog.globalNamed "internal/strconv.uint64pow10" =some 16:=by kernel_rfl
 rw[hg]at h
 simp only[Option.bind_some]at h
 rcases Nat.lt_or_ge 16 w.heap.size with h1|h1
 ·exact h1
 ·rw[Array.getElem?_eq_none h1]at h
  cases h
structure ShR (w:World) (gp:Nat) (vd vm:Value) (f:Int) (l:List Decl):Prop where
 pol:Row w gp 63 [vd,.int .i64 f,vm]
 decls:Sl (fun _=>True) w 83 3 vd l.length (l.flatMap encDecl)
 dw:DeclsW l
 tab:TabE w
section
variable {w w':World} {gp:Nat} {vd vm:Value} {f:Int} {l:List Decl}
theorem ShR.later (h:ShR w gp vd vm f l) (hk:Kept (fun b=>w.heap.size≤b) w w'):ShR w' gp vd vm f l:=
 ⟨h.pol.kept hk (fun e=>by have:=h.pol.lt;omega),h.decls.kept hk (fun b hb e=>by have:=h.decls.lt hb;omega),h.dw,h.tab.kept hk (fun b hb e=>by subst e;have:=h.tab.lt;omega)⟩
theorem ShR.at_ (h:ShR w gp vd vm f l) {k:Int} (hk:Ix l.length k):∃(n gd cd:Nat),k=(n:Int)∧n<l.length∧vd= .slice (some ⟨gd,0,none⟩) l.length cd∧l.length≤cd∧cd≤9223372036854775807∧gd<w.heap.size∧gp<w.heap.size∧
  w.cell? ⟨gp,0,none⟩=some (.slice (some ⟨gd,0,none⟩) l.length cd)∧w.cell? ⟨gd,n*3+1,none⟩=some (vs (nameOf l k))∧(nameOf l k).length≤8:=by
 obtain⟨n,rfl⟩:∃n:Nat,k=(n:Int):=⟨k.toNat,by have:=hk.1;omega⟩
 have hn:n<l.length:=by have:=hk.2;omega
 obtain⟨gd,cd,rfl,_,q1,q2,q3⟩:=h.decls.form (by omega)
 have hx:l[n]?=some (declAt l (n:Int)):=by unfold declAt;rw[Int.toNat_natCast,List.getElem?_eq_getElem hn];rfl
 unfold maxLen at q2
 exact⟨n,gd,cd,rfl,hn,rfl,q1,q2,q3,h.pol.lt,h.pol.cell 0,h.decls.at_ (fun _=>rfl) hx (j:=1) (by omega),nameOf_len h.dw _⟩
theorem scat {P:Program} {a b:ByteArray} (h:a.size+b.size≤1000000000):∀W:World,(Op.stringOp .add a b).run P W= .ok (.string (a++b)) W:=fun W=>run_string_add_sum W _ _ (by omega)
theorem bapp (a b:Bytes):(⟨a.toArray⟩:ByteArray)++⟨b.toArray⟩=⟨(a++b).toArray⟩:=by
 apply ByteArray.ext
 simp[ByteArray.data_append]
set_option maxRecDepth 100000 in
set_option maxHeartbeats 1000000 in
theorem sval_any (h:ShR w gp vd vm f l) (v:Val) (hv:ValW l v):Calls Tryz.prog 132 #[.pointer (some ⟨gp,0,none⟩),.agg (encVal v).toArray] w (OutTx w (showVal l v)):=by
 have k0:=fun cs=>(Kept.refl (fun b=>w.heap.size≤b) w).alloc (Nat.le_refl _) (.cells cs 199)
 have K0:=Lib.hid k0
 cases v with
 |num n=>
  have hit:=Tryz.strconv_Itoa n (by have:=hv.1;omega) (by have:=hv.2;omega)
  rw[itoa_digits hv.1]at hit
  have HT:=Lib.hid hit
  have H:=Lib.hid h
  clear hit h k0
  show Calls _ _ _ _ (OutTx w (digits n))
  unfold encVal valWord valNum vs
  go_enter Tryz.func132,Tryz.ntmps132
  go_wp2_with fail
  refine(HT.out _ (H.out.later (K0.out _)).tab).mono ?_
  rintro e w1 ⟨rfl,k,os,rfl⟩
  go_wp2
  go_ret
  exact⟨rfl,(K0.out _).trans (Kept.grow_ _ k os (fun b hb=>by simp at hb;omega))⟩
 |len k=>
  obtain⟨n,gd,cd,rfl,hn,rfl,q1,q2,q3,q4,d0,d1,hl⟩:=h.at_ hv.1
  have e1:¬gp=w.heap.size:=by omega
  have e2:¬gd=w.heap.size:=by omega
  show Calls _ _ _ _ (OutTx w (kLen++bSp++nameOf l (n:Int)))
  generalize nameOf l (n:Int)=nm at*
  have s1:=scat (P:=Tryz.prog) (a:=⟨#[108,101,110,32]⟩) (b:=⟨nm.toArray⟩) (by simp only[size_vs,List.length_cons,List.length_nil];omega)
  clear h k0 hv
  unfold encVal valWord valNum vs at*
  go_enter Tryz.func132,Tryz.ntmps132
  go_wp2
  go_region
  go_wp2
  go_ret
  exact⟨by rw[bapp];rfl,(K0.out _).drew⟩
 |var k=>
  obtain⟨n,gd,cd,rfl,hn,rfl,q1,q2,q3,q4,d0,d1,hl⟩:=h.at_ hv.1
  have e1:¬gp=w.heap.size:=by omega
  have e2:¬gd=w.heap.size:=by omega
  show Calls _ _ _ _ (OutTx w (nameOf l (n:Int)))
  generalize nameOf l (n:Int)=nm at*
  clear h k0 hv
  unfold encVal valWord valNum vs at*
  go_enter Tryz.func132,Tryz.ntmps132
  go_wp2
  go_region
  go_wp2
  go_ret
  exact⟨rfl,(K0.out _).drew⟩
 |freq=>
  clear h k0 hv
  show Calls _ _ _ _ (OutTx w kFreq)
  unfold encVal valWord valNum vs at*
  go_enter Tryz.func132,Tryz.ntmps132
  go_wp2
  go_ret
  exact⟨rfl,K0.out _⟩
theorem encCond_eq (c:Cond):∃b0 n1 b2 n3,encCond c=[vs (ckWord c.k),.int .i64 (ckNum c.k),vs b0,.int .i64 n1,vs b2,.int .i64 n3,.bool (oddB c.nots)]∧ckVals c.k=[vs b0,.int .i64 n1,vs b2,.int .i64 n3]:=by
 obtain⟨b0,n1,b2,n3,hv⟩:∃b0 n1 b2 n3,ckVals c.k=[vs b0,.int .i64 n1,vs b2,.int .i64 n3]:=by
  cases c.k with
  |less a b=>exact⟨_,_,_,_,rfl⟩
  |_=>exact⟨_,_,_,_,rfl⟩
 exact⟨b0,n1,b2,n3,by unfold encCond;rw[hv];rfl,hv⟩
theorem vs_inj {u v:Bytes} (h:vs u=vs v):u=v:=by
 unfold vs at h
 injection h with h
 have h2:=congrArg (fun b:ByteArray=>b.data.toList) h
 simpa using h2
def decS (b:Bytes) (n:Int):Val:=if b=kNumber then .num n else if b=kLen then .len n else if b=kFreq then .freq else .var n
theorem decS_enc {v:Val} {b:Bytes} {n:Int} (h1:valWord v=b) (h2:valNum v=n):decS b n=v:=by
 subst h1 h2
 cases v<;>rfl
def notB (c:Cond):Bytes:=if c.nots%2=1 then kNot++bSp else []
set_option maxRecDepth 100000 in
set_option maxHeartbeats 2000000 in
theorem scond_any (h:ShR w gp vd vm f l) (c:Cond) (hc:CKW l c.k):Calls Tryz.prog 114 #[.pointer (some ⟨gp,0,none⟩),.agg (encCond c).toArray] w (OutTx w (showCond l c)):=by
 have k0:=fun cs=>(Kept.refl (fun b=>w.heap.size≤b) w).alloc (Nat.le_refl _) (.cells cs 201)
 have K0:=Lib.hid k0
 have hsh:showCond l c=notB c++showCK l c.k:=rfl
 have hnb:notB c=if oddB c.nots then kNot++bSp else []:=by
  unfold notB oddB
  by_cases hn:c.nots%2=1<;>simp[hn]
 have hnl:(notB c).length≤4:=by rw[hnb];split<;>simp[bSp]
 obtain⟨b0,n1,b2,n3,he,hv⟩:=encCond_eq c
 rw[he,hsh]
 clear he hsh
 have simple:∀(k:Int) (kw:Bytes),ckWord c.k=kw→(kw=kFull∨kw=kEmpty∨kw=kWarm)→ckNum c.k=k→Ix l.length k→showCK l c.k=kw++bSp++nameOf l k→
   Calls Tryz.prog 114 #[.pointer (some ⟨gp,0,none⟩),.agg #[vs (ckWord c.k),.int .i64 (ckNum c.k),vs b0,.int .i64 n1,vs b2,.int .i64 n3,.bool (oddB c.nots)]] w (OutTx w (notB c++showCK l c.k)):=by
  intro k kw e1 hkw e2 hix e3
  rw[e1,e2,e3]
  obtain⟨n,gd,cd,rfl,hn,rfl,q1,q2,q3,q4,d0,d1,hl⟩:=h.at_ hix
  have f1:¬gp=w.heap.size:=by omega
  have f2:¬gd=w.heap.size:=by omega
  generalize nameOf l (n:Int)=nm at*
  generalize notB c=nb at*
  generalize oddB c.nots=ob at*
  have hkl:kw.length≤5:=by rcases hkw with rfl|rfl|rfl<;>simp
  have ht:(((⟨nb.toArray⟩:ByteArray)++⟨kw.toArray⟩)++⟨#[32]⟩)++⟨nm.toArray⟩=⟨(nb++(kw++bSp++nm)).toArray⟩:=by rw[bapp,bapp,bapp];simp[bSp]
  have s1:=scat (P:=Tryz.prog) (a:=⟨nb.toArray⟩) (b:=⟨kw.toArray⟩) (by simp only[size_vs];omega)
  have s2:=scat (P:=Tryz.prog) (a:=⟨nb.toArray⟩++⟨kw.toArray⟩) (b:=⟨#[32]⟩) (by simp only[ByteArray.size_append,size_vs,List.length_cons,List.length_nil];omega)
  have s3:=scat (P:=Tryz.prog) (a:=⟨nb.toArray⟩++⟨kw.toArray⟩++⟨#[32]⟩) (b:=⟨nm.toArray⟩) (by simp only[ByteArray.size_append,size_vs,List.length_cons,List.length_nil];omega)
  have HT:=Lib.hid ht
  clear ht k0 h hv e1 e2 e3 hc hix
  unfold vs at*
  cases ob with
  |false=>
   obtain rfl:nb=[]:=hnb
   rcases hkw with rfl|rfl|rfl
   all_goals
    go_enter Tryz.func114,Tryz.ntmps114
    go_wp2
    go_region
    go_wp2
    go_ret
    exact⟨congrArg (fun x=>Ending.returned (.string x)) HT.out,(K0.out _).drew⟩
  |true=>
   obtain rfl:nb=[110,111,116,32]:=hnb
   rcases hkw with rfl|rfl|rfl
   all_goals
    go_enter Tryz.func114,Tryz.ntmps114
    go_wp2
    go_region
    go_wp2
    go_ret
    exact⟨congrArg (fun x=>Ending.returned (.string x)) HT.out,(K0.out _).drew⟩
 cases hck:c.k with
 |full k=>rw[hck]at simple hc;exact simple k kFull rfl (.inl rfl) rfl hc.1 rfl
 |empty k=>rw[hck]at simple hc;exact simple k kEmpty rfl (.inr (.inl rfl)) rfl hc.1 rfl
 |warm k=>rw[hck]at simple hc;exact simple k kWarm rfl (.inr (.inr rfl)) rfl hc.1 rfl
 |less a b=>
  rw[hck]at hc hv
  have hff:vs (valWord a)=vs b0∧Value.int .i64 (valNum a)= .int .i64 n1∧vs (valWord b)=vs b2∧Value.int .i64 (valNum b)= .int .i64 n3:=by
   unfold ckVals encVal at hv
   simpa only[List.cons_append,List.nil_append,List.cons.injEq,and_true]using hv
  have hd1:decS b0 n1=a:=decS_enc (vs_inj hff.1) (by have:=hff.2.1;injection this)
  have hd2:decS b2 n3=b:=decS_enc (vs_inj hff.2.2.1) (by have:=hff.2.2.2;injection this)
  have la:=showVal_len h.dw hc.1
  have lb:=showVal_len h.dw hc.2
  rw[←hd1]at la
  rw[←hd2]at lb
  have hvv:∀W (_:Kept (fun b=>w.heap.size≤b) w W) (cs:List Value) (_:Row W w.heap.size 201 cs) (bs:Bytes) (m:Int),(bs=b0∧m=n1)∨(bs=b2∧m=n3)→
    Calls Tryz.prog 132 #[.pointer (some ⟨gp,0,none⟩),.agg #[vs bs,.int .i64 m]] W (fun y w'=>y= .returned (vs (showVal l (decS bs m)))∧Kept (fun b=>w.heap.size≤b) w w'∧Row w' w.heap.size 201 cs):=by
   intro W hk cs hr bs m hor
   have hmain:∀v,ValW l v→encVal v=[vs bs,.int .i64 m]→decS bs m=v→Calls Tryz.prog 132 #[.pointer (some ⟨gp,0,none⟩),.agg #[vs bs,.int .i64 m]] W (fun y w'=>y= .returned (vs (showVal l (decS bs m)))∧Kept (fun b=>w.heap.size≤b) w w'∧Row w' w.heap.size 201 cs):=by
    intro v hv he hd
    have hc:=sval_any (h.later hk) v hv
    rw[he]at hc
    refine hc.mono ?_
    rintro y w' ⟨h1,h2⟩
    rw[hd]
    exact⟨h1,hk.trans (h2.mono (fun b hb=>Nat.le_trans hk.size hb)),hr.kept h2 (fun e=>by have:=hr.lt;omega)⟩
   rcases hor with⟨rfl,rfl⟩|⟨rfl,rfl⟩
   ·exact hmain a hc.1 (by show [vs (valWord a),.int .i64 (valNum a)]=_;rw[hff.1,hff.2.1]) hd1
   ·exact hmain b hc.2 (by show [vs (valWord b),.int .i64 (valNum b)]=_;rw[hff.2.2.1,hff.2.2.2]) hd2
  have hs2:notB c++showCK l (.less a b)=notB c++(showVal l (decS b0 n1)++[32,60,32]++showVal l (decS b2 n3)):=by rw[hd1,hd2];rfl
  rw[hs2]
  show Calls _ _ #[.pointer (some ⟨gp,0,none⟩),.agg #[vs kLessWord,.int .i64 0,vs b0,.int .i64 n1,vs b2,.int .i64 n3,.bool (oddB c.nots)]] w _
  generalize notB c=nb at*
  generalize oddB c.nots=ob at*
  clear hs2 hff hd1 hd2 hc hv simple h
  generalize hsv:(fun bs m=>showVal l (decS bs m))=sv at*
  have e1:∀bs m,showVal l (decS bs m)=sv bs m:=fun bs m=>by rw[←hsv]
  simp only[e1]at*
  clear e1 hsv hck
  have ht:(((⟨nb.toArray⟩:ByteArray)++⟨(sv b0 n1).toArray⟩)++⟨#[32,60,32]⟩)++⟨(sv b2 n3).toArray⟩=⟨(nb++(sv b0 n1++[32,60,32]++sv b2 n3)).toArray⟩:=by rw[bapp,bapp,bapp];simp
  have s1:=scat (P:=Tryz.prog) (a:=⟨nb.toArray⟩) (b:=⟨(sv b0 n1).toArray⟩) (by simp only[size_vs];omega)
  have s2:=scat (P:=Tryz.prog) (a:=⟨nb.toArray⟩++⟨(sv b0 n1).toArray⟩) (b:=⟨#[32,60,32]⟩) (by simp only[ByteArray.size_append,size_vs,List.length_cons,List.length_nil];omega)
  have s3:=scat (P:=Tryz.prog) (a:=⟨nb.toArray⟩++⟨(sv b0 n1).toArray⟩++⟨#[32,60,32]⟩) (b:=⟨(sv b2 n3).toArray⟩) (by simp only[ByteArray.size_append,size_vs,List.length_cons,List.length_nil];omega)
  have HT:=Lib.hid ht
  have HVV:=Lib.hid hvv
  have r0:Row (w.alloc (.cells #[vs kLessWord,.int .i64 0,vs b0,.int .i64 n1,vs b2,.int .i64 n3,.bool ob] 201)).drew w.heap.size 201 [vs kLessWord,.int .i64 0,vs b0,.int .i64 n1,vs b2,.int .i64 n3,.bool ob]:=(Row.new w 201 _).drew
  have R0:=Lib.hid r0
  have KD:=Lib.hid (K0.out #[vs kLessWord,.int .i64 0,vs b0,.int .i64 n1,vs b2,.int .i64 n3,.bool ob]).drew
  clear ht hvv k0 r0 K0
  unfold vs at*
  cases ob with
  |false=>
   obtain rfl:nb=[]:=hnb
   go_enter Tryz.func114,Tryz.ntmps114
   go_wp2_with fail
   go_region_law (first
    |(go_simp;go_at_call 132;refine(HVV.out _ ka _ ra _ _ ?_).mono ?_;(first|exact .inl ⟨rfl,rfl⟩|exact .inr ⟨rfl,rfl⟩);rintro y w3 ⟨rfl,kb,rb⟩)
    |(go_simp;go_at_call 132;refine(HVV.out _ KD.out _ R0.out _ _ ?_).mono ?_;(first|exact .inl ⟨rfl,rfl⟩|exact .inr ⟨rfl,rfl⟩);rintro y w2 ⟨rfl,ka,ra⟩;have zz2:=ra.cell 2;have zz3:=ra.cell 3;have zz4:=ra.cell 4;have zz5:=ra.cell 5;simp at zz2 zz3 zz4 zz5))
   all_goals go_wp2
   all_goals go_ret
   all_goals exact⟨congrArg (fun x=>Ending.returned (.string x)) HT.out,kb⟩
  |true=>
   obtain rfl:nb=[110,111,116,32]:=hnb
   go_enter Tryz.func114,Tryz.ntmps114
   go_wp2_with fail
   go_region_law (first
    |(go_simp;go_at_call 132;refine(HVV.out _ ka _ ra _ _ ?_).mono ?_;(first|exact .inl ⟨rfl,rfl⟩|exact .inr ⟨rfl,rfl⟩);rintro y w3 ⟨rfl,kb,rb⟩)
    |(go_simp;go_at_call 132;refine(HVV.out _ KD.out _ R0.out _ _ ?_).mono ?_;(first|exact .inl ⟨rfl,rfl⟩|exact .inr ⟨rfl,rfl⟩);rintro y w2 ⟨rfl,ka,ra⟩;have zz2:=ra.cell 2;have zz3:=ra.cell 3;have zz4:=ra.cell 4;have zz5:=ra.cell 5;simp at zz2 zz3 zz4 zz5))
   all_goals go_wp2
   all_goals go_ret
   all_goals exact⟨congrArg (fun x=>Ending.returned (.string x)) HT.out,kb⟩
end
end Go.Proofs.YtepoejiigmhlbaaGreatDoor.Ev
namespace Go.Proofs.YtepoejiigmhlbaaGreatDoor.Ev
open Go Go.RowKit
def anyB:Nat→Prop:=fun _=>True
def SStM (m:Nat):Prop:=∀(w:World) (gp:Nat) (vd vm:Value) (f:Int) (l:List Decl) (x:Blk) (cs:List Value) (s:Bytes),ShR w gp vd vm f l→x.length=1→x.size≤m→x.size≤1000→BlkW l x→StmtsR anyB w x cs→showStmts l x=bSp++s→
  Calls Tryz.prog 84 #[.pointer (some ⟨gp,0,none⟩),.agg cs.toArray] w (OutTx w s)
def SBlM (m:Nat):Prop:=∀(w:World) (gp:Nat) (vd vm:Value) (f:Int) (l:List Decl) (b:Blk) (v:Value),ShR w gp vd vm f l→b.size≤m→b.size≤1000→BlkW l b→BlkV anyB w v b→
  Calls Tryz.prog 50 #[.pointer (some ⟨gp,0,none⟩),v] w (OutTx w (showBlk l b))
theorem stmts_later {N:Nat→Prop} {w w':World} (hk:Kept (fun b=>w.heap.size≤b) w w') {b:Blk} {cs:List Value} (h:StmtsR N w b cs):StmtsR N w' b cs:=
 StmtsR.kept (fun k _ _ hr=>hk.block k (fun hh=>by have:=hr.lt;omega)) b cs h
theorem blk_later {N:Nat→Prop} {w w':World} (hk:Kept (fun b=>w.heap.size≤b) w w') {b:Blk} {v:Value} (h:BlkV N w v b):BlkV N w' v b:=by
 obtain⟨cs,h1,h2⟩:=h
 exact⟨cs,h1.kept (fun k _ _ hr=>hk.block k (fun hh=>by have:=hr.lt;omega)),stmts_later hk h2⟩
theorem show_one (l:List Decl):∀(x:Blk),x.length=1→∃s,showStmts l x=bSp++s
 | .nil,h=>by cases h
 | .prim p r,_=>⟨_,by rw[showStmts,List.append_assoc]⟩
 | .ite c t o e r,_=>⟨_,by rw[showStmts,List.append_assoc]⟩
 | .rep n c b r,_=>⟨_,by rw[showStmts,List.append_assoc]⟩
structure SLoop (w0:World) (b:Blk) (cs:List Value) (k:Nat) (wr:World) (done rest:Blk) (csd csr:List Value):Prop where
 eq:b=done.app rest
 cs:cs=csd++csr
 csl:csd.length=k*13
 k:k+rest.length=b.length
 sz:done.size+rest.size=b.size
 stm:StmtsR anyB w0 rest csr
 kept:Kept (fun b=>w0.heap.size≤b) w0 wr
section
variable {w0 wr:World} {k:Nat} {b done rest:Blk} {cs csd csr:List Value}
theorem SLoop.next {g cap:Nat} (h:SLoop w0 b cs k wr done rest csd csr) (hs:Sl anyB w0 203 13 (.slice (some ⟨g,0,none⟩) b.length cap) b.length cs) (hk:k<b.length):
  ∃x tl csx cst,rest=x.app tl∧x.length=1∧csr=csx++cst∧StF csx∧StmtsR anyB w0 x csx∧StmtsR anyB w0 tl cst∧rest.length=tl.length+1∧x.size+tl.size=rest.size∧
   (∀j,j<13→wr.cell? ⟨g,k*13+j,none⟩=csx[j]?)∧g<wr.heap.size:=by
 have hne:rest≠.nil:=by
  rintro rfl
  have:=h.k
  simp[Blk.length]at this
  omega
 obtain⟨x,tl,csx,cst,e1,e2,e3,e4,e5,e6,e7,e8⟩:=StmtsR.part rest csr hne h.stm
 have hx13:csx.length=13:=by
  obtain⟨_,_,_,_,_,_,_,_,_,_,_,_,_,_,_,_,_,rfl⟩:=e4
  rfl
 refine⟨x,tl,csx,cst,e1,e2,e3,e4,e5,e6,e7,e8,fun j hj=>?_,Nat.lt_of_lt_of_le (hs.lt rfl) h.kept.size⟩
 have hb:k*13+j<b.length*13:=by omega
 have h1:=hs.1.cellAt _ hb
 have h2:cs[k*13+j]?=csx[j]?:=by
  rw[h.cs,e3,List.getElem?_append_right (by rw[h.csl];omega),h.csl,Nat.add_sub_cancel_left,List.getElem?_append_left (by omega)]
 have hgl:=hs.lt (g:=g) rfl
 exact((h.kept.cell (p:=⟨g,k*13+j,none⟩) (fun hh=>by simp only at hh;omega)).trans h1).trans h2
theorem SLoop.step {x tl:Blk} {csx cst:List Value} {w':World} (h:SLoop w0 b cs k wr done rest csd csr) (e1:rest=x.app tl) (e3:csr=csx++cst) (hx:csx.length=13) (e6:StmtsR anyB w0 tl cst)
  (e7:rest.length=tl.length+1) (e8:x.size+tl.size=rest.size) (hk:Kept (fun b=>wr.heap.size≤b) wr w'):SLoop w0 b cs (k+1) w' (done.app x) tl (csd++csx) cst:=
 ⟨by rw[h.eq,e1,app_assoc],by rw[h.cs,e3,List.append_assoc],by rw[List.length_append,h.csl,hx];omega,by have:=h.k;omega,by rw[app_size];have:=h.sz;omega,e6,h.kept.trans (hk.mono (fun b hb=>Nat.le_trans h.kept.size hb))⟩
end
set_option maxRecDepth 100000 in
set_option maxHeartbeats 4000000 in
theorem sblock_run {m:Nat} (hst:SStM m):SBlM m:=by
 intro w gp vd vm f l b v h hsz hsz2 hW hb
 obtain⟨cs,⟨hs,g,cap,rfl⟩,hst0⟩:=hb
 have hl0:SLoop w b cs 0 w .nil b [] cs:=⟨by simp[Blk.app],by simp,by simp,by omega,by simp[Blk.size],hst0,Kept.refl _ _⟩
 have hbl:b.length≤1000:=by
  have:∀b:Blk,b.length≤b.size:=by
   intro b
   induction b with
   |nil=>simp[Blk.length]
   |prim p r ih=>simp[Blk.length,Blk.size];omega
   |ite c t o e r _ _ ih=>simp[Blk.length,Blk.size];omega
   |rep n c b r _ ih=>simp[Blk.length,Blk.size];omega
  have:=this b
  omega
 have hdl:∀d r:Blk,b=d.app r→(kOpen++showStmts l d).length≤200000:=by
  intro d r e
  rw[e,app_W]at hW
  rw[e,app_size]at hsz2
  have:=showStmts_len h.dw d hW.1
  simp only[List.length_append,List.length_cons,List.length_nil]
  omega
 have HST:=Lib.hid hst
 have H:=Lib.hid h
 have HSL:=Lib.hid hs
 have HL0:=Lib.hid hl0
 have HSZ:=Lib.hid hsz
 have HSZ2:=Lib.hid hsz2
 have HW:=Lib.hid hW
 have HDL:=Lib.hid hdl
 clear hst h hs hl0 hst0 hsz hsz2 hW hdl
 go_enter Tryz.func50,Tryz.ntmps50
 go_wp2_with fail
 go_loopg [10,5] b.length (fun gg' s10 s5 wr=>∃k done rest csd csr,k≤b.length∧b.length-k≤gg'∧s10= .int .i64 (k:Nat)∧s5= .string ⟨(kOpen++showStmts l done).toArray⟩∧SLoop w b cs k wr done rest csd csr)
 case atStart=>exact⟨0,.nil,b,[],cs,Nat.zero_le _,by omega,rfl,rfl,HL0.out⟩
 case round=>
  obtain⟨k,done,rest,csd,csr,hkk,hg,rfl,rfl,hL⟩:=hrel
  have hlen:=HDL.out done rest hL.eq
  by_cases hlt:k<b.length
  ·obtain⟨x,tl,csx,cst,e1,e2,e3,e4,e5,e6,e7,e8,hc,hgl⟩:=hL.next HSL.out hlt
   have hx13:csx.length=13:=by
    obtain⟨_,_,_,_,_,_,_,_,_,_,_,_,_,_,_,_,_,rfl⟩:=id e4
    rfl
   have hxs:=HDL.out (done.app x) tl (by rw[hL.eq,e1,app_assoc])
   rw[showStmts_app]at hxs
   obtain⟨sx,hsx⟩:=show_one l x e2
   rw[hsx]at hxs
   have hw':=HW.out
   rw[hL.eq,e1,app_W,app_W]at hw'
   have HE:=Lib.hid (And.intro e1 (And.intro e2 (And.intro e3 (And.intro hx13 (And.intro e5 (And.intro e6 (And.intro e7 (And.intro e8 hw'.2.1))))))))
   obtain⟨k_,n_,m_,t_,b0_,i1_,b2_,i3_,b4_,i5_,o_,a1_,n1_,c1_,a2_,n2_,c2_,rfl⟩:=e4
   have x0:=hc 0 (by omega)
   have x1:=hc 1 (by omega)
   have x2:=hc 2 (by omega)
   have x3:=hc 3 (by omega)
   have x4:=hc 4 (by omega)
   have x5:=hc 5 (by omega)
   have x6:=hc 6 (by omega)
   have x7:=hc 7 (by omega)
   have x8:=hc 8 (by omega)
   have x9:=hc 9 (by omega)
   have x10:=hc 10 (by omega)
   have x11:=hc 11 (by omega)
   have x12:=hc 12 (by omega)
   have HL:=Lib.hid hL
   have HSX:=Lib.hid hsx
   have HTX:kOpen++showStmts l (done.app x)=(kOpen++showStmts l done)++(bSp++sx):=by rw[showStmts_app,hsx,List.append_assoc]
   simp only[List.length_append,List.length_cons,List.length_nil]at hxs
   generalize hS:kOpen++showStmts l done=S at*
   have hsl:sx.length≤200000:=by omega
   have s1:=scat (P:=Tryz.prog) (a:=⟨#[32]⟩) (b:=⟨sx.toArray⟩) (by simp only[size_vs,List.length_cons,List.length_nil];omega)
   have s2:=scat (P:=Tryz.prog) (a:=⟨S.toArray⟩) (b:=⟨#[32]⟩++⟨sx.toArray⟩) (by simp only[ByteArray.size_append,size_vs,List.length_cons,List.length_nil];omega)
   have hfin:(⟨S.toArray⟩:ByteArray)++(⟨#[32]⟩++⟨sx.toArray⟩)=⟨(kOpen++showStmts l (done.app x)).toArray⟩:=by rw[HTX,bapp,bapp];rfl
   have HFIN:=Lib.hid hfin
   clear hL hc e1 e2 e3 e5 e6 e7 e8 hx13 hsx HTX hfin hS hw' hxs hsl hlen
   unfold vs at*
   simp only[List.getElem?_cons_succ,List.getElem?_cons_zero,Nat.add_zero]at x0 x1 x2 x3 x4 x5 x6 x7 x8 x9 x10 x11 x12
   go_wp2_with fail
   have ka:Kept (fun b=>wr.heap.size≤b) wr (wr.alloc (.cells #[.string ⟨k_.toArray⟩,.int .i64 n_,.int .i64 m_,.bool t_,.string ⟨b0_.toArray⟩,.int .i64 i1_,.string ⟨b2_.toArray⟩,.int .i64 i3_,.string ⟨b4_.toArray⟩,.int .i64 i5_,.bool o_,.slice a1_ n1_ c1_,.slice a2_ n2_ c2_] 203)):=(Kept.refl _ wr).alloc (Nat.le_refl _) _
   have hkw:Kept (fun b=>w.heap.size≤b) w _:=HL.out.kept.trans (ka.mono (fun b hb=>Nat.le_trans HL.out.kept.size hb))
   refine(HST.out _ gp vd vm f l x _ sx (H.out.later hkw) HE.out.2.1 (by have:=HL.out.sz;have:=HE.out.2.2.2.2.2.2.2.1;have:=HSZ.out;omega) (by have:=HL.out.sz;have:=HE.out.2.2.2.2.2.2.2.1;have:=HSZ2.out;omega) HE.out.2.2.2.2.2.2.2.2 (stmts_later hkw HE.out.2.2.2.2.1) HSX.out).mono ?_
   rintro e w2 ⟨rfl,hk2⟩
   have F:=Lib.hid (HL.out.step HE.out.1 HE.out.2.2.1 HE.out.2.2.2.1 HE.out.2.2.2.2.2.1 HE.out.2.2.2.2.2.2.1 HE.out.2.2.2.2.2.2.2.1 (ka.trans (hk2.mono (fun b hb=>Nat.le_trans ka.size hb))))
   clear ka hkw hk2
   go_wp2
   go_roundg (b.length-(k+1))
   case measure=>omega
   case rel=>exact⟨k+1,_,_,_,_,by omega,by omega,by go_num,congrArg Value.string HFIN.out,F.out⟩
  ·have hnil:rest= .nil:=by
    have:=hL.k
    cases rest with
    |nil=>rfl
    |prim p r=>simp[Blk.length]at this;omega
    |ite c t o e r=>simp[Blk.length]at this;omega
    |rep n c b r=>simp[Blk.length]at this;omega
   have hdone:b=done:=by rw[hL.eq,hnil];exact app_nil done
   have hfin:showBlk l b=(kOpen++showStmts l done)++[32,125]:=by rw[hdone];simp[showBlk,bSp]
   have F:=Lib.hid hL.kept
   generalize kOpen++showStmts l done=S at*
   have HFN:=Lib.hid hfin
   have s1:=scat (P:=Tryz.prog) (a:=⟨S.toArray⟩) (b:=⟨#[32,125]⟩) (by simp only[size_vs,List.length_cons,List.length_nil];omega)
   clear hL hnil hdone hfin
   go_wp2
   go_ret
   exact⟨by rw[HFN.out];exact congrArg (fun x=>Ending.returned (.string x)) (bapp _ _),F.out⟩
end Go.Proofs.YtepoejiigmhlbaaGreatDoor.Ev
namespace Go.Proofs.YtepoejiigmhlbaaGreatDoor.Ev
open Go Go.RowKit
def tailT (t:Bool):Bytes:=if t then [32,116,97,105,108]else []
theorem tailT_eq (t:Bool):showTail t=tailT t:=by cases t<;>rfl
section
variable {w:World} {gp:Nat} {vd vm:Value} {f:Int} {l:List Decl}
set_option maxRecDepth 100000 in
set_option maxHeartbeats 4000000 in
theorem sst_one (h:ShR w gp vd vm f l) (kw:Bytes) (hkw:kw=kPut∨kw=kEvict∨kw=kCool∨kw=kInc∨kw=kDec) {k:Int} (hk:Ix l.length k) (tl:Bool):
  Calls Tryz.prog 84 #[.pointer (some ⟨gp,0,none⟩),.agg ([vs kw,.int .i64 k,.int .i64 0,.bool tl]++noCond++[vnil,vnil]).toArray] w (OutTx w (kw++bSp++nameOf l k++tailT tl++kSemi)):=by
 have k0:=fun cs=>(Kept.refl (fun b=>w.heap.size≤b) w).alloc (Nat.le_refl _) (.cells cs 203)
 have K0:=Lib.hid k0
 obtain⟨n,gd,cd,rfl,hn,rfl,q1,q2,q3,q4,d0,d1,hl⟩:=h.at_ hk
 have f1:¬gp=w.heap.size:=by omega
 have f2:¬gd=w.heap.size:=by omega
 generalize nameOf l (n:Int)=nm at*
 have hkl:kw.length≤5:=by rcases hkw with rfl|rfl|rfl|rfl|rfl<;>simp
 have htl:(tailT tl).length≤5:=by cases tl<;>simp[tailT]
 have s1:=scat (P:=Tryz.prog) (a:=⟨kw.toArray⟩) (b:=⟨#[32]⟩) (by simp only[size_vs,List.length_cons,List.length_nil];omega)
 have s2:=scat (P:=Tryz.prog) (a:=⟨kw.toArray⟩++⟨#[32]⟩) (b:=⟨nm.toArray⟩) (by simp only[ByteArray.size_append,size_vs,List.length_cons,List.length_nil];omega)
 have s3:=scat (P:=Tryz.prog) (a:=⟨kw.toArray⟩++⟨#[32]⟩++⟨nm.toArray⟩) (b:=⟨(tailT tl).toArray⟩) (by simp only[ByteArray.size_append,size_vs,List.length_cons,List.length_nil];omega)
 have s4:=scat (P:=Tryz.prog) (a:=⟨kw.toArray⟩++⟨#[32]⟩++⟨nm.toArray⟩++⟨(tailT tl).toArray⟩) (b:=⟨#[59]⟩) (by simp only[ByteArray.size_append,size_vs,List.length_cons,List.length_nil];omega)
 have ht:(⟨kw.toArray⟩:ByteArray)++⟨#[32]⟩++⟨nm.toArray⟩++⟨(tailT tl).toArray⟩++⟨#[59]⟩=⟨(kw++bSp++nm++tailT tl++kSemi).toArray⟩:=by rw[bapp,bapp,bapp,bapp];rfl
 have HT:=Lib.hid ht
 clear ht k0 h hk htl hkl
 unfold noCond vnil vs at*
 cases tl with
 |false=>
  unfold tailT at s3 s4 HT
  rw[if_neg Bool.false_ne_true]at s3 s4
  rcases hkw with rfl|rfl|rfl|rfl|rfl
  all_goals
   go_enter Tryz.func84,Tryz.ntmps84
   go_wp2
   go_region
   go_wp2
   go_ret
   exact⟨congrArg (fun x=>Ending.returned (.string x)) HT.out,(K0.out _).drew⟩
 |true=>
  unfold tailT at s3 s4 HT
  rw[if_pos rfl]at s3 s4
  rcases hkw with rfl|rfl|rfl|rfl|rfl
  all_goals
   go_enter Tryz.func84,Tryz.ntmps84
   go_wp2
   go_region
   go_wp2
   go_ret
   exact⟨congrArg (fun x=>Ending.returned (.string x)) HT.out,(K0.out _).drew⟩
set_option maxRecDepth 100000 in
set_option maxHeartbeats 4000000 in
theorem sst_none (kw:Bytes) (hkw:kw=kDrop∨kw=kBump):
  Calls Tryz.prog 84 #[.pointer (some ⟨gp,0,none⟩),.agg ([vs kw,.int .i64 0,.int .i64 0,.bool false]++noCond++[vnil,vnil]).toArray] w (OutTx w (kw++kSemi)):=by
 have k0:=fun cs=>(Kept.refl (fun b=>w.heap.size≤b) w).alloc (Nat.le_refl _) (.cells cs 203)
 have K0:=Lib.hid k0
 have hkl:kw.length≤5:=by rcases hkw with rfl|rfl<;>simp
 have s1:=scat (P:=Tryz.prog) (a:=⟨kw.toArray⟩) (b:=⟨#[59]⟩) (by simp only[size_vs,List.length_cons,List.length_nil];omega)
 have ht:(⟨kw.toArray⟩:ByteArray)++⟨#[59]⟩=⟨(kw++kSemi).toArray⟩:=by rw[bapp]
 have HT:=Lib.hid ht
 clear ht k0 hkl
 unfold noCond vnil vs at*
 rcases hkw with rfl|rfl
 all_goals
  go_enter Tryz.func84,Tryz.ntmps84
  go_wp2
  go_ret
  exact⟨congrArg (fun x=>Ending.returned (.string x)) HT.out,K0.out _⟩
set_option maxRecDepth 100000 in
set_option maxHeartbeats 4000000 in
theorem sst_shift (h:ShR w gp vd vm f l) {k j:Int} (hk:Ix l.length k) (hj:Ix l.length j) (tl:Bool):
  Calls Tryz.prog 84 #[.pointer (some ⟨gp,0,none⟩),.agg ([vs kShift,.int .i64 k,.int .i64 j,.bool tl]++noCond++[vnil,vnil]).toArray] w (OutTx w (kShift++bSp++nameOf l k++bSp++nameOf l j++tailT tl++kSemi)):=by
 have k0:=fun cs=>(Kept.refl (fun b=>w.heap.size≤b) w).alloc (Nat.le_refl _) (.cells cs 203)
 have K0:=Lib.hid k0
 obtain⟨n,gd,cd,rfl,hn,hvd,q1,q2,q3,q4,d0,d1,hl⟩:=h.at_ hk
 obtain⟨n2,gd2,cd2,rfl,hn2,hvd2,_,_,_,_,_,d2,hl2⟩:=h.at_ hj
 subst hvd
 injection hvd2 with e1 _ e2
 injection e1 with e1
 injection e1 with e1
 subst e1 e2
 have f1:¬gp=w.heap.size:=by omega
 have f2:¬gd=w.heap.size:=by omega
 generalize nameOf l (n:Int)=nm at*
 generalize nameOf l (n2:Int)=nm2 at*
 have htl:(tailT tl).length≤5:=by cases tl<;>simp[tailT]
 have s1:=scat (P:=Tryz.prog) (a:=⟨#[115,104,105,102,116,32]⟩) (b:=⟨nm.toArray⟩) (by simp only[size_vs,List.length_cons,List.length_nil];omega)
 have s2:=scat (P:=Tryz.prog) (a:=⟨#[115,104,105,102,116,32]⟩++⟨nm.toArray⟩) (b:=⟨#[32]⟩) (by simp only[ByteArray.size_append,size_vs,List.length_cons,List.length_nil];omega)
 have s3:=scat (P:=Tryz.prog) (a:=⟨#[115,104,105,102,116,32]⟩++⟨nm.toArray⟩++⟨#[32]⟩) (b:=⟨nm2.toArray⟩) (by simp only[ByteArray.size_append,size_vs,List.length_cons,List.length_nil];omega)
 have s4:=scat (P:=Tryz.prog) (a:=⟨#[115,104,105,102,116,32]⟩++⟨nm.toArray⟩++⟨#[32]⟩++⟨nm2.toArray⟩) (b:=⟨(tailT tl).toArray⟩) (by simp only[ByteArray.size_append,size_vs,List.length_cons,List.length_nil];omega)
 have s5:=scat (P:=Tryz.prog) (a:=⟨#[115,104,105,102,116,32]⟩++⟨nm.toArray⟩++⟨#[32]⟩++⟨nm2.toArray⟩++⟨(tailT tl).toArray⟩) (b:=⟨#[59]⟩) (by simp only[ByteArray.size_append,size_vs,List.length_cons,List.length_nil];omega)
 have ht:(⟨#[115,104,105,102,116,32]⟩:ByteArray)++⟨nm.toArray⟩++⟨#[32]⟩++⟨nm2.toArray⟩++⟨(tailT tl).toArray⟩++⟨#[59]⟩=⟨(kShift++bSp++nm++bSp++nm2++tailT tl++kSemi).toArray⟩:=by
  rw[bapp,bapp,bapp,bapp,bapp]
  simp[bSp]
 have HT:=Lib.hid ht
 clear ht k0 h hk hj htl
 unfold noCond vnil vs at*
 cases tl with
 |false=>
  unfold tailT at s4 s5 HT
  rw[if_neg Bool.false_ne_true]at s4 s5
  go_enter Tryz.func84,Tryz.ntmps84
  go_wp2
  go_region
  go_wp2
  go_ret
  exact⟨congrArg (fun x=>Ending.returned (.string x)) HT.out,(K0.out _).drew⟩
 |true=>
  unfold tailT at s4 s5 HT
  rw[if_pos rfl]at s4 s5
  go_enter Tryz.func84,Tryz.ntmps84
  go_wp2
  go_region
  go_wp2
  go_ret
  exact⟨congrArg (fun x=>Ending.returned (.string x)) HT.out,(K0.out _).drew⟩
end
end Go.Proofs.YtepoejiigmhlbaaGreatDoor.Ev
namespace Go.Proofs.YtepoejiigmhlbaaGreatDoor.Ev
open Go Go.RowKit
section
variable {w:World} {gp:Nat} {vd vm:Value} {f:Int} {l:List Decl} {m:Nat}
theorem scond_box (h:ShR w gp vd vm f l) (c:Cond) (hc:CKW l c.k) (cs:List Value):∀W,Kept (fun b=>w.heap.size≤b) w W→Row W w.heap.size 203 cs→
  Calls Tryz.prog 114 #[.pointer (some ⟨gp,0,none⟩),.agg (encCond c).toArray] W fun y w'=>y= .returned (vs (showCond l c))∧Kept (fun b=>w.heap.size≤b) w w'∧Row w' w.heap.size 203 cs:=fun W hk hr=>by
 refine(scond_any (h.later hk) c hc).mono ?_
 rintro y w' ⟨h1,h2⟩
 exact⟨h1,hk.trans (h2.mono (fun b hb=>Nat.le_trans hk.size hb)),hr.kept h2 (fun e=>by have:=hr.lt;omega)⟩
theorem sblk_box (hB:SBlM m) (h:ShR w gp vd vm f l) {b:Blk} {v:Value} (hs:b.size≤m) (hs2:b.size≤1000) (hw:BlkW l b) (hb:BlkV anyB w v b) (cs:List Value):∀W,Kept (fun b=>w.heap.size≤b) w W→Row W w.heap.size 203 cs→
  Calls Tryz.prog 50 #[.pointer (some ⟨gp,0,none⟩),v] W fun y w'=>y= .returned (vs (showBlk l b))∧Kept (fun b=>w.heap.size≤b) w w'∧Row w' w.heap.size 203 cs:=fun W hk hr=>by
 refine(hB W gp vd vm f l b v (h.later hk) hs hs2 hw (blk_later hk hb)).mono ?_
 rintro y w' ⟨h1,h2⟩
 exact⟨h1,hk.trans (h2.mono (fun b hb=>Nat.le_trans hk.size hb)),hr.kept h2 (fun e=>by have:=hr.lt;omega)⟩
set_option maxRecDepth 100000 in
set_option maxHeartbeats 4000000 in
theorem sst_if (hB:SBlM m) (h:ShR w gp vd vm f l) {c:Cond} (hc:CKW l c.k) {t e:Blk} {vt ve:Value} {o:Bool} (ht:BlkV anyB w vt t) (he:if o then BlkV anyB w ve e else ve=vnil) (hst:t.size≤m) (hse:e.size≤m) (hsz:t.size+e.size≤1000) (hwt:BlkW l t) (hwe:BlkW l e):
  Calls Tryz.prog 84 #[.pointer (some ⟨gp,0,none⟩),.agg (encIf c vt ve).toArray] w (OutTx w (kIf++bSp++showCond l c++bSp++showBlk l t++(if o then bSp++kElse++bSp++showBlk l e else []))):=by
 have k0:=fun cs=>(Kept.refl (fun b=>w.heap.size≤b) w).alloc (Nat.le_refl _) (.cells cs 203)
 obtain⟨b0,n1,b2,n3,hcd,_⟩:=encCond_eq c
 obtain⟨gt,ct,rfl⟩:∃g c,vt= .slice (some ⟨g,0,none⟩) t.length c:=by obtain⟨_,h1,_⟩:=ht;exact h1.2
 have lc:=showCond_len h.dw hc
 have lt:=showBlk_len h.dw hwt
 have le:=showBlk_len h.dw hwe
 have henc:encIf c (.slice (some ⟨gt,0,none⟩) t.length ct) ve=[vs kIf,.int .i64 0,.int .i64 0,.bool false,vs (ckWord c.k),.int .i64 (ckNum c.k),vs b0,.int .i64 n1,vs b2,.int .i64 n3,.bool (oddB c.nots),.slice (some ⟨gt,0,none⟩) t.length ct,ve]:=by unfold encIf;rw[hcd];rfl
 have hC:=scond_box h c hc [vs kIf,.int .i64 0,.int .i64 0,.bool false,vs (ckWord c.k),.int .i64 (ckNum c.k),vs b0,.int .i64 n1,vs b2,.int .i64 n3,.bool (oddB c.nots),.slice (some ⟨gt,0,none⟩) t.length ct,ve]
 have hT:=sblk_box hB h hst (by omega) hwt ht [vs kIf,.int .i64 0,.int .i64 0,.bool false,vs (ckWord c.k),.int .i64 (ckNum c.k),vs b0,.int .i64 n1,vs b2,.int .i64 n3,.bool (oddB c.nots),.slice (some ⟨gt,0,none⟩) t.length ct,ve]
 rw[henc]
 rw[hcd]at hC
 generalize hsc:showCond l c=sc at*
 generalize hsb:showBlk l t=sb at*
 have s1:=scat (P:=Tryz.prog) (a:=⟨#[105,102,32]⟩) (b:=⟨sc.toArray⟩) (by simp only[size_vs,List.length_cons,List.length_nil];omega)
 have s2:=scat (P:=Tryz.prog) (a:=⟨#[105,102,32]⟩++⟨sc.toArray⟩) (b:=⟨#[32]⟩) (by simp only[ByteArray.size_append,size_vs,List.length_cons,List.length_nil];omega)
 have s3:=scat (P:=Tryz.prog) (a:=⟨#[105,102,32]⟩++⟨sc.toArray⟩++⟨#[32]⟩) (b:=⟨sb.toArray⟩) (by simp only[ByteArray.size_append,size_vs,List.length_cons,List.length_nil];omega)
 have ht1:(⟨#[105,102,32]⟩:ByteArray)++⟨sc.toArray⟩++⟨#[32]⟩++⟨sb.toArray⟩=⟨(kIf++bSp++sc++bSp++sb).toArray⟩:=by rw[bapp,bapp,bapp];simp[bSp]
 have K0:=Lib.hid k0
 have HC:=Lib.hid hC
 have HTB:=Lib.hid hT
 have HT1:=Lib.hid ht1
 cases o with
 |true=>
  rw[if_pos rfl]at he
  obtain⟨ge,ce,rfl⟩:∃g c,ve= .slice (some ⟨g,0,none⟩) e.length c:=by obtain⟨_,h1,_⟩:=he;exact h1.2
  have hE:=sblk_box hB h hse (by omega) hwe he [vs kIf,.int .i64 0,.int .i64 0,.bool false,vs (ckWord c.k),.int .i64 (ckNum c.k),vs b0,.int .i64 n1,vs b2,.int .i64 n3,.bool (oddB c.nots),.slice (some ⟨gt,0,none⟩) t.length ct,.slice (some ⟨ge,0,none⟩) e.length ce]
  generalize hse2:showBlk l e=se at*
  have s4:=scat (P:=Tryz.prog) (a:=⟨#[32,101,108,115,101,32]⟩) (b:=⟨se.toArray⟩) (by simp only[size_vs,List.length_cons,List.length_nil];omega)
  have s5:=scat (P:=Tryz.prog) (a:=⟨#[105,102,32]⟩++⟨sc.toArray⟩++⟨#[32]⟩++⟨sb.toArray⟩) (b:=⟨#[32,101,108,115,101,32]⟩++⟨se.toArray⟩) (by simp only[ByteArray.size_append,size_vs,List.length_cons,List.length_nil];omega)
  have ht2:(⟨#[105,102,32]⟩:ByteArray)++⟨sc.toArray⟩++⟨#[32]⟩++⟨sb.toArray⟩++(⟨#[32,101,108,115,101,32]⟩++⟨se.toArray⟩)=⟨(kIf++bSp++sc++bSp++sb++(bSp++kElse++bSp++se)).toArray⟩:=by rw[bapp,bapp,bapp,bapp,bapp];simp[bSp]
  have HE:=Lib.hid hE
  have HT2:=Lib.hid ht2
  have r0:Row (w.alloc (.cells #[vs kIf,.int .i64 0,.int .i64 0,.bool false,vs (ckWord c.k),.int .i64 (ckNum c.k),vs b0,.int .i64 n1,vs b2,.int .i64 n3,.bool (oddB c.nots),.slice (some ⟨gt,0,none⟩) t.length ct,.slice (some ⟨ge,0,none⟩) e.length ce] 203)).drew w.heap.size 203 _:=(Row.new w 203 _).drew
  have R0:=Lib.hid r0
  have KD:=Lib.hid (k0 #[vs kIf,.int .i64 0,.int .i64 0,.bool false,vs (ckWord c.k),.int .i64 (ckNum c.k),vs b0,.int .i64 n1,vs b2,.int .i64 n3,.bool (oddB c.nots),.slice (some ⟨gt,0,none⟩) t.length ct,.slice (some ⟨ge,0,none⟩) e.length ce]).drew
  simp only[if_true]
  clear h hB hC hT hE ht he ht1 ht2 r0 k0 K0 henc hcd hc hwt hwe hsc hsb hse2 HT1
  unfold vs at*
  go_enter Tryz.func84,Tryz.ntmps84
  go_wp2_with fail
  go_region_law (first
   |(go_simp;go_at_call 114;refine(HC.out _ kb rb).mono ?_;rintro y w3 ⟨rfl,kz,rz⟩;have yy12:=rz.cell 12;have yl:=rz.lt;simp at yy12)
   |(go_simp;go_at_call 50;refine(HTB.out _ ka ra).mono ?_;rintro y w3 ⟨rfl,kz,rz⟩;have yy12:=rz.cell 12;have yl:=rz.lt;simp at yy12)
   |(go_simp;go_at_call 114;refine(HC.out _ KD.out R0.out).mono ?_;rintro y w2 ⟨rfl,ka,ra⟩;have zz11:=ra.cell 11;have zz12:=ra.cell 12;simp at zz11 zz12)
   |(go_simp;go_at_call 50;refine(HTB.out _ KD.out R0.out).mono ?_;rintro y w2 ⟨rfl,kb,rb⟩;have zz4:=rb.cell 4;have zz5:=rb.cell 5;have zz6:=rb.cell 6;have zz7:=rb.cell 7;have zz8:=rb.cell 8;have zz9:=rb.cell 9;have zz10:=rb.cell 10;have zz11:=rb.cell 11;have zz12:=rb.cell 12;simp at zz4 zz5 zz6 zz7 zz8 zz9 zz10 zz11 zz12))
  all_goals
   have HKZ:=Lib.hid kz
   have HRZ:=Lib.hid rz
   clear kz rz
   go_wp2_with fail
   refine(HE.out _ HKZ.out HRZ.out).mono ?_
   rintro y w4 ⟨rfl,k4,r4⟩
   have HK4:=Lib.hid k4
   clear k4 r4
   go_wp2
   go_ret
   exact⟨congrArg (fun x=>Ending.returned (.string x)) HT2.out,HK4.out⟩
 |false=>
  rw[if_neg Bool.false_ne_true]at he
  subst he
  have r0:Row (w.alloc (.cells #[vs kIf,.int .i64 0,.int .i64 0,.bool false,vs (ckWord c.k),.int .i64 (ckNum c.k),vs b0,.int .i64 n1,vs b2,.int .i64 n3,.bool (oddB c.nots),.slice (some ⟨gt,0,none⟩) t.length ct,vnil] 203)).drew w.heap.size 203 _:=(Row.new w 203 _).drew
  have R0:=Lib.hid r0
  have KD:=Lib.hid (k0 #[vs kIf,.int .i64 0,.int .i64 0,.bool false,vs (ckWord c.k),.int .i64 (ckNum c.k),vs b0,.int .i64 n1,vs b2,.int .i64 n3,.bool (oddB c.nots),.slice (some ⟨gt,0,none⟩) t.length ct,vnil]).drew
  have ht2:(⟨#[105,102,32]⟩:ByteArray)++⟨sc.toArray⟩++⟨#[32]⟩++⟨sb.toArray⟩=⟨(kIf++bSp++sc++bSp++sb++[]).toArray⟩:=by rw[List.append_nil];exact ht1
  have HT2:=Lib.hid ht2
  simp only[Bool.false_eq_true,if_false]
  clear h hB hC hT ht ht1 ht2 r0 k0 K0 henc hcd hc hwt hwe hsc hsb HT1
  unfold vnil vs at*
  go_enter Tryz.func84,Tryz.ntmps84
  go_wp2_with fail
  go_region_law (first
   |(go_simp;go_at_call 114;refine(HC.out _ kb rb).mono ?_;rintro y w3 ⟨rfl,kz,rz⟩;have yy12:=rz.cell 12;have yl:=rz.lt;simp at yy12)
   |(go_simp;go_at_call 50;refine(HTB.out _ ka ra).mono ?_;rintro y w3 ⟨rfl,kz,rz⟩;have yy12:=rz.cell 12;have yl:=rz.lt;simp at yy12)
   |(go_simp;go_at_call 114;refine(HC.out _ KD.out R0.out).mono ?_;rintro y w2 ⟨rfl,ka,ra⟩;have zz11:=ra.cell 11;have zz12:=ra.cell 12;simp at zz11 zz12)
   |(go_simp;go_at_call 50;refine(HTB.out _ KD.out R0.out).mono ?_;rintro y w2 ⟨rfl,kb,rb⟩;have zz4:=rb.cell 4;have zz5:=rb.cell 5;have zz6:=rb.cell 6;have zz7:=rb.cell 7;have zz8:=rb.cell 8;have zz9:=rb.cell 9;have zz10:=rb.cell 10;have zz11:=rb.cell 11;have zz12:=rb.cell 12;simp at zz4 zz5 zz6 zz7 zz8 zz9 zz10 zz11 zz12))
  all_goals
   have HKZ:=Lib.hid kz
   clear kz rz
   go_wp2
   go_ret
   exact⟨congrArg (fun x=>Ending.returned (.string x)) HT2.out,HKZ.out⟩
set_option maxRecDepth 100000 in
set_option maxHeartbeats 4000000 in
theorem sst_rep (hB:SBlM m) (h:ShR w gp vd vm f l) {n:Int} (hn1:1≤n) (hn2:n≤50) {c:Cond} (hc:CKW l c.k) {t:Blk} {vt:Value} (ht:BlkV anyB w vt t) (hst:t.size≤m) (hsz:t.size≤1000) (hwt:BlkW l t):
  Calls Tryz.prog 84 #[.pointer (some ⟨gp,0,none⟩),.agg (encRep n c vt).toArray] w (OutTx w (kRepeat++bSp++digits n++bSp++kWhile++bSp++showCond l c++bSp++showBlk l t)):=by
 have k0:=fun cs=>(Kept.refl (fun b=>w.heap.size≤b) w).alloc (Nat.le_refl _) (.cells cs 203)
 obtain⟨b0,n1,b2,n3,hcd,_⟩:=encCond_eq c
 obtain⟨gt,ct,rfl⟩:∃g c,vt= .slice (some ⟨g,0,none⟩) t.length c:=by obtain⟨_,h1,_⟩:=ht;exact h1.2
 have lc:=showCond_len h.dw hc
 have lt:=showBlk_len h.dw hwt
 have ld:=(digits_ok (n:=n) (by omega) (by omega)).2.1
 have henc:encRep n c (.slice (some ⟨gt,0,none⟩) t.length ct)=[vs kRepeat,.int .i64 n,.int .i64 0,.bool false,vs (ckWord c.k),.int .i64 (ckNum c.k),vs b0,.int .i64 n1,vs b2,.int .i64 n3,.bool (oddB c.nots),.slice (some ⟨gt,0,none⟩) t.length ct,vnil]:=by unfold encRep;rw[hcd];rfl
 have hC:=scond_box h c hc [vs kRepeat,.int .i64 n,.int .i64 0,.bool false,vs (ckWord c.k),.int .i64 (ckNum c.k),vs b0,.int .i64 n1,vs b2,.int .i64 n3,.bool (oddB c.nots),.slice (some ⟨gt,0,none⟩) t.length ct,vnil]
 have hT:=sblk_box hB h hst hsz hwt ht [vs kRepeat,.int .i64 n,.int .i64 0,.bool false,vs (ckWord c.k),.int .i64 (ckNum c.k),vs b0,.int .i64 n1,vs b2,.int .i64 n3,.bool (oddB c.nots),.slice (some ⟨gt,0,none⟩) t.length ct,vnil]
 rw[henc]
 rw[hcd]at hC
 have hIt:∀W,Calls Tryz.prog 49 #[.int .i64 n] W fun e w'=>e= .returned (vs (digits n))∧w'=W:=fun W=>by
  have:=Tryz.strconv_Itoa_small n.toNat (by omega) W
  rw[decDigits_of (by omega)]at this
  have e:((n.toNat:Nat):Int)=n:=by omega
  rw[e]at this
  exact this
 generalize hsc:showCond l c=sc at*
 generalize hsb:showBlk l t=sb at*
 generalize hsd:digits n=sd at*
 have s1:=scat (P:=Tryz.prog) (a:=⟨#[114,101,112,101,97,116,32]⟩) (b:=⟨sd.toArray⟩) (by simp only[size_vs,List.length_cons,List.length_nil];omega)
 have s2:=scat (P:=Tryz.prog) (a:=⟨#[114,101,112,101,97,116,32]⟩++⟨sd.toArray⟩) (b:=⟨#[32,119,104,105,108,101,32]⟩) (by simp only[ByteArray.size_append,size_vs,List.length_cons,List.length_nil];omega)
 have s3:=scat (P:=Tryz.prog) (a:=⟨#[114,101,112,101,97,116,32]⟩++⟨sd.toArray⟩++⟨#[32,119,104,105,108,101,32]⟩) (b:=⟨sc.toArray⟩) (by simp only[ByteArray.size_append,size_vs,List.length_cons,List.length_nil];omega)
 have s4:=scat (P:=Tryz.prog) (a:=⟨#[114,101,112,101,97,116,32]⟩++⟨sd.toArray⟩++⟨#[32,119,104,105,108,101,32]⟩++⟨sc.toArray⟩) (b:=⟨#[32]⟩) (by simp only[ByteArray.size_append,size_vs,List.length_cons,List.length_nil];omega)
 have s5:=scat (P:=Tryz.prog) (a:=⟨#[114,101,112,101,97,116,32]⟩++⟨sd.toArray⟩++⟨#[32,119,104,105,108,101,32]⟩++⟨sc.toArray⟩++⟨#[32]⟩) (b:=⟨sb.toArray⟩) (by simp only[ByteArray.size_append,size_vs,List.length_cons,List.length_nil];omega)
 have ht2:(⟨#[114,101,112,101,97,116,32]⟩:ByteArray)++⟨sd.toArray⟩++⟨#[32,119,104,105,108,101,32]⟩++⟨sc.toArray⟩++⟨#[32]⟩++⟨sb.toArray⟩=⟨(kRepeat++bSp++sd++bSp++kWhile++bSp++sc++bSp++sb).toArray⟩:=by rw[bapp,bapp,bapp,bapp,bapp];simp[bSp]
 have HC:=Lib.hid hC
 have HTB:=Lib.hid hT
 have HIT:=Lib.hid hIt
 have HT2:=Lib.hid ht2
 have r0:Row (w.alloc (.cells #[vs kRepeat,.int .i64 n,.int .i64 0,.bool false,vs (ckWord c.k),.int .i64 (ckNum c.k),vs b0,.int .i64 n1,vs b2,.int .i64 n3,.bool (oddB c.nots),.slice (some ⟨gt,0,none⟩) t.length ct,vnil] 203)).drew w.heap.size 203 _:=(Row.new w 203 _).drew
 have R0:=Lib.hid r0
 have KD:=Lib.hid (k0 #[vs kRepeat,.int .i64 n,.int .i64 0,.bool false,vs (ckWord c.k),.int .i64 (ckNum c.k),vs b0,.int .i64 n1,vs b2,.int .i64 n3,.bool (oddB c.nots),.slice (some ⟨gt,0,none⟩) t.length ct,vnil]).drew
 clear h hB hC hT hIt ht ht2 r0 k0 henc hcd hc hwt hsc hsb hsd
 unfold vnil vs at*
 go_enter Tryz.func84,Tryz.ntmps84
 go_wp2_with fail
 go_region_law (first
  |(go_simp;go_at_call 114;refine(HC.out _ kb rb).mono ?_;rintro y w3 ⟨rfl,kz,rz⟩;have yy1:=rz.cell 1;have yl:=rz.lt;simp at yy1)
  |(go_simp;go_at_call 50;refine(HTB.out _ ka ra).mono ?_;rintro y w3 ⟨rfl,kz,rz⟩;have yy1:=rz.cell 1;have yl:=rz.lt;simp at yy1)
  |(go_simp;go_at_call 49;refine(HIT.out _).mono ?_;rintro y w5 ⟨rfl,rfl⟩)
  |(go_simp;go_at_call 114;refine(HC.out _ KD.out R0.out).mono ?_;rintro y w2 ⟨rfl,ka,ra⟩;have zz1:=ra.cell 1;have zz11:=ra.cell 11;have zl:=ra.lt;simp at zz1 zz11)
  |(go_simp;go_at_call 50;refine(HTB.out _ KD.out R0.out).mono ?_;rintro y w2 ⟨rfl,kb,rb⟩;have zz1:=rb.cell 1;have zz4:=rb.cell 4;have zz5:=rb.cell 5;have zz6:=rb.cell 6;have zz7:=rb.cell 7;have zz8:=rb.cell 8;have zz9:=rb.cell 9;have zz10:=rb.cell 10;have zl:=rb.lt;simp at zz1 zz4 zz5 zz6 zz7 zz8 zz9 zz10))
 all_goals
  have HKZ:=Lib.hid kz
  clear kz rz
  go_wp2
  go_ret
  exact⟨congrArg (fun x=>Ending.returned (.string x)) HT2.out,HKZ.out⟩
end
end Go.Proofs.YtepoejiigmhlbaaGreatDoor.Ev
namespace Go.Proofs.YtepoejiigmhlbaaGreatDoor.Ev
open Go Go.RowKit
theorem len0s:∀(b:Blk),b.length=0→b= .nil
 | .nil,_=>rfl
 | .prim p r,h=>by simp[Blk.length]at h
 | .ite c t o e r,h=>by simp[Blk.length]at h
 | .rep n c b r,h=>by simp[Blk.length]at h
theorem show_prim {l:List Decl} {p:Prim} {s:Bytes} (h:showStmts l (.prim p .nil)=bSp++s):s=showPrim l p:=by
 rw[showStmts,showStmts,List.append_nil]at h
 exact(List.append_cancel_left h).symm
theorem show_ite {l:List Decl} {c:Cond} {t e:Blk} {o:Bool} {s:Bytes} (h:showStmts l (.ite c t o e .nil)=bSp++s):s=kIf++bSp++showCond l c++bSp++showBlk l t++(if o then bSp++kElse++bSp++showBlk l e else []):=by
 rw[showStmts,showStmts,List.append_nil]at h
 exact(List.append_cancel_left h).symm
theorem show_rep {l:List Decl} {n:Int} {c:Cond} {t:Blk} {s:Bytes} (h:showStmts l (.rep n c t .nil)=bSp++s):s=kRepeat++bSp++digits n++bSp++kWhile++bSp++showCond l c++bSp++showBlk l t:=by
 rw[showStmts,showStmts,List.append_nil]at h
 exact(List.append_cancel_left h).symm
theorem sstmt_all {m:Nat} (hB:SBlM m):SStM (m+1):=by
 intro w gp vd vm f l x cs s h hl hsz hsz2 hW hst hs
 cases x with
 |nil=>cases hl
 |prim y rest=>
  obtain rfl:=len0s rest (by simpa[Blk.length]using hl)
  obtain⟨rest,rfl,rfl⟩:=hst
  rw[List.append_nil]
  obtain rfl:=show_prim hs
  have hy:=hW.1
  cases y with
  |put q t=>show Calls _ _ _ _ (OutTx w (kPut++bSp++nameOf l q++showTail t++kSemi));rw[tailT_eq];exact sst_one h kPut (.inl rfl) hy.1 t
  |evict q=>
   have h1:=sst_one h kEvict (.inr (.inl rfl)) hy.1 false
   have e:kEvict++bSp++nameOf l q++tailT false++kSemi=showPrim l (.evict q):=by simp[tailT,showPrim]
   rw[e]at h1
   exact h1
  |cool q=>
   have h1:=sst_one h kCool (.inr (.inr (.inl rfl))) hy.1 false
   have e:kCool++bSp++nameOf l q++tailT false++kSemi=showPrim l (.cool q):=by simp[tailT,showPrim]
   rw[e]at h1
   exact h1
  |shift q t tl=>show Calls _ _ _ _ (OutTx w (kShift++bSp++nameOf l q++bSp++nameOf l t++showTail tl++kSemi));rw[tailT_eq];exact sst_shift h hy.1.1 hy.2.1 tl
  |inc v=>
   have h1:=sst_one h kInc (.inr (.inr (.inr (.inl rfl)))) hy.1 false
   have e:kInc++bSp++nameOf l v++tailT false++kSemi=showPrim l (.inc v):=by simp[tailT,showPrim]
   rw[e]at h1
   exact h1
  |dec v=>
   have h1:=sst_one h kDec (.inr (.inr (.inr (.inr rfl)))) hy.1 false
   have e:kDec++bSp++nameOf l v++tailT false++kSemi=showPrim l (.dec v):=by simp[tailT,showPrim]
   rw[e]at h1
   exact h1
  |drop=>exact sst_none kDrop (.inl rfl)
  |bump=>exact sst_none kBump (.inr rfl)
 |ite c t o e rest=>
  obtain rfl:=len0s rest (by simpa[Blk.length]using hl)
  obtain⟨vt,ve,rest,rfl,ht,he,rfl⟩:=hst
  rw[List.append_nil]
  obtain rfl:=show_ite hs
  simp only[Blk.size]at hsz hsz2
  refine sst_if hB h hW.1 ht ?_ (by omega) (by omega) (by omega) hW.2.1 hW.2.2.1
  cases o with
  |true=>exact he
  |false=>exact he.1
 |rep n c t rest=>
  obtain rfl:=len0s rest (by simpa[Blk.length]using hl)
  obtain⟨vt,rest,rfl,ht,rfl⟩:=hst
  rw[List.append_nil]
  obtain rfl:=show_rep hs
  simp only[Blk.size]at hsz hsz2
  exact sst_rep hB h hW.2.2.2.1 hW.2.2.2.2 hW.1 ht (by omega) (by omega) hW.2.1
theorem show_all:∀m,SStM m∧SBlM m
 |0=>by
  have h:SStM 0:=by
   intro w gp vd vm f l x cs s h hl hsz
   cases x with
   |nil=>cases hl
   |prim p r=>simp[Blk.size]at hsz
   |ite c t o e r=>simp[Blk.size]at hsz
   |rep n c b r=>simp[Blk.size]at hsz
  exact⟨h,sblock_run h⟩
 |m+1=>by
  have h:=sstmt_all (show_all m).2
  exact⟨h,sblock_run h⟩
end Go.Proofs.YtepoejiigmhlbaaGreatDoor.Ev
namespace Go.Proofs.YtepoejiigmhlbaaGreatDoor.Ev
open Go Go.RowKit
theorem infoBld:(Tryz.prog.info? 140).map (·.size)=some 2:=by kernel_rfl
theorem liesBld:liesAt Tryz.prog Tryz.prog.depth 140 (2/Tryz.prog.cellsOf 140) 0 140 1=true:=by kernel_rfl
theorem infoByte:(Tryz.prog.info? 5).map (fun i=>(i.zero,i.size,i.bytes))=some (some (.int .u8 0),1,1):=by kernel_rfl
section
variable {B b:Nat} {bs:List Value} {w:World}
set_option maxHeartbeats 1000000 in
set_option maxRecDepth 100000 in
theorem bcheck_used (h0:w.cell? ⟨b,0,none⟩=some (.pointer (some ⟨b,0,none⟩))):
  Calls Tryz.prog 82 #[.pointer (some ⟨b,0,none⟩)] w fun e w'=>e= .returned (.tuple #[])∧w'=w:=by
 obtain⟨j,hj,_⟩:=Option.map_eq_some_iff.1 infoBld
 go_enter Tryz.func82,Tryz.ntmps82
 go_wp2
 rw[Lib.run_neq_ptr_same w _ Tryz.underlying137 hj]
 go_wp2
 go_end0
 exact⟨rfl,rfl⟩
set_option maxHeartbeats 1000000 in
set_option maxRecDepth 100000 in
theorem bcheck_fresh (h0:w.cell? ⟨b,0,none⟩=some (.pointer none)) (hsh:w.shape? b=some (140,2)) (hfz:w.frozen? ⟨b,0,none⟩=false):
  Calls Tryz.prog 82 #[.pointer (some ⟨b,0,none⟩)] w fun e w'=>e= .returned (.tuple #[])∧w'=w.setCell ⟨b,0,none⟩ (.pointer (some ⟨b,0,none⟩)):=by
 obtain⟨j,hj,hjs⟩:=Option.map_eq_some_iff.1 infoBld
 go_enter Tryz.func82,Tryz.ntmps82
 go_wp2
 rw[Lib.run_to_unsafe w ⟨b,0,none⟩ Tryz.underlying137 Tryz.underlying106 hj (by rw[hjs];decide) hsh (Nat.zero_lt_succ 1)]
 simp only[Result.andThen]
 rw[Oper.upon_value]
 go_wp2
 rw[run_callFunc_extern Tryz.func112 (by kernel_rfl) (by kernel_rfl) (by kernel_rfl) (e:=Extern.AbiNoEscape.same) (by kernel_rfl)]
 rw[Lib.run_noEscape]
 simp only[Result.andThen]
 rw[Oper.upon_value]
 go_wp2
 rw[Lib.run_from_unsafe w ⟨b,0,none⟩ Tryz.underlying106 Tryz.underlying137 hj hsh liesBld]
 simp only[Result.andThen]
 rw[Oper.upon_value]
 go_wp2
 go_end0
 exact⟨rfl,rfl⟩
theorem bcheck_any (h:Lib.IsBuilder 140 5 B b bs w):
  Calls Tryz.prog 82 #[.pointer (some ⟨b,0,none⟩)] w fun e w'=>e= .returned (.tuple #[])∧(Lib.BuilderAt 140 5 B b (.pointer (some ⟨b,0,none⟩)) bs w'∧Below B w w'):=by
 rcases h with h|h
 ·refine(bcheck_fresh h.cell0 h.shape h.frozen0).mono ?_
  rintro e w' ⟨rfl,rfl⟩
  exact⟨rfl,h.used _,(Below.refl B w).setCell (p:=⟨b,0,none⟩) h.1 _⟩
 ·refine(bcheck_used h.cell0).mono ?_
  rintro e w' ⟨rfl,rfl⟩
  exact⟨rfl,h,Below.refl B _⟩
def OutBW (B b:Nat) (l:Bytes) (w:World) (e:Ending) (w':World):Prop:=(∃n,e= .returned (.tuple #[.int .i64 n,.nilIface]))∧Lib.IsBuilder 140 5 B b (Lib.byteCells l) w'∧Kept (fun k=>B≤k) w w'
set_option maxHeartbeats 2000000 in
set_option maxRecDepth 100000 in
theorem bwrite_any {l s:Bytes} (h:Lib.IsBuilder 140 5 B b (Lib.byteCells l) w) (hlen:l.length+s.length≤140737488355328) (hBw:B≤w.heap.size):
  Calls Tryz.prog 48 #[.pointer (some ⟨b,0,none⟩),.string ⟨s.toArray⟩] w (OutBW B b (l++s) w):=by
 obtain⟨i0,hi,hz0,hz1,hz2⟩:=info_parts infoByte
 have hll:(Lib.byteCells l).length=l.length:=by simp[Lib.byteCells]
 have hss:(⟨s.toArray⟩:ByteArray).size=s.length:=by simp[ByteArray.size]
 have hap:Lib.byteCells l++Lib.strCells ⟨s.toArray⟩=Lib.byteCells (l++s):=by simp[Lib.byteCells,Lib.strCells]
 have HAP:=Lib.hid hap
 have HLL:=Lib.hid hll
 have HSS:=Lib.hid hss
 have H:=Lib.hid h
 generalize hx:Lib.byteCells l=xs at*
 generalize hy:(⟨s.toArray⟩:ByteArray)=sb at*
 have hl2:xs.length+sb.size≤140737488355328:=by rw[hll,hss];exact hlen
 clear hx hap hll hss h hlen hy
 go_enter Tryz.func48,Tryz.ntmps48
 go_wp2_with fail
 refine(bcheck_any H.out).mono ?_
 rintro e w1 ⟨rfl,h1,hb1⟩
 obtain⟨hB,v,hbk,hown,hne⟩:=h1
 have c0:w1.cell? ⟨b,0,none⟩=some (.pointer (some ⟨b,0,none⟩)):=by rw[Lib.cell_of_heap hbk];rfl
 have c1:w1.cell? ⟨b,1,none⟩=some v:=by rw[Lib.cell_of_heap hbk];rfl
 have HOWN:=Lib.hid hown
 have HB1:=Lib.hid hb1
 have HBK:=Lib.hid hbk
 have HNE:=Lib.hid hne
 clear hown hb1 hbk hne
 go_wp2_with (at_builtin;refine Lib.wpList_append_own_string _ rfl _ _ 138 9 rfl B 5 i0 Tryz.underlying138 Tryz.underlying9 hi hz0 hz1 hz2 _ _ _ rfl HOWN.out sb rfl ?c3 ?c4 ?c5 ?_)
 case c3=>unfold maxLen;omega
 case c4=>omega
 case c5=>have:=HB1.out.size;omega
 intro v' w2 hown' hgrow _
 have hlt:b<w1.heap.size:=by
  rcases Nat.lt_or_ge b w1.heap.size with h'|h'
  ·exact h'
  ·have:=HBK.out
   simp[Array.getElem?_eq_none h']at this
 have hb2:w2.heap[b]?=some (.cells #[.pointer (some ⟨b,0,none⟩),v] 140 (0,0)):=by
  rw[hgrow.block b hlt (fun e=>HNE.out e.symm)]
  exact HBK.out
 have d0:w2.cell? ⟨b,0,none⟩=some (.pointer (some ⟨b,0,none⟩)):=by rw[Lib.cell_of_heap hb2];rfl
 have d1:w2.cell? ⟨b,1,none⟩=some v:=by rw[Lib.cell_of_heap hb2];rfl
 have f1:w2.frozen? ⟨b,1,none⟩=false:=Lib.frozen_of_heap hb2 1
 obtain⟨ao,n',cap,rfl⟩:∃ao n' cap,v'= .slice ao n' cap:=by
  rcases hown'.2 with⟨hv,_⟩|⟨g,cap,cur,hv,_⟩
  ·exact⟨_,_,_,hv⟩
  ·exact⟨_,_,_,hv⟩
 have HO2:=Lib.hid hown'
 have HG:=Lib.hid hgrow
 have HB2:=Lib.hid hb2
 clear hown' hgrow hb2
 go_wp2
 go_ret2
 have hfin:Lib.BuilderAt 140 5 B b _ _ _:=Lib.BuilderAt.put (T:=140) (e:=5) hB HB2.out (bs':=xs++Lib.strCells sb) (by simpa[Lib.strCells_length]using HO2.out) (by decide)
 rw[HAP.out]at hfin
 exact⟨⟨_,rfl⟩,.inr hfin,Kept.of_below ((HB1.out.grown HG.out (by have:=HB1.out.size;omega) (fun k hk=>(HOWN.out.lt k hk).1)).setCell (p:=⟨b,1,none⟩) hB _) (fun k hk=>hk)⟩
end
end Go.Proofs.YtepoejiigmhlbaaGreatDoor.Ev
