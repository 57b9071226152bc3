/- Parts of a proof that a law's walk returns true. Conditions: none. -/
import Derived.Test.YtemppijblfflgaaGreatDoorZa00
import Derived.Test.YtemppijblfflgaaGreatDoorZa01
import Derived.Test.YtemppijblfflgaaGreatDoorZa16
set_option linter.all false
set_option maxRecDepth 100000
set_option maxHeartbeats 8000000
namespace Go.Proofs.YtemppijblfflgaaGreatDoor.Ev
open Go Go.RowKit
def nh (o:AJ Mc):AJ Mc:=o.bind fun n st=>.ok n (if 0≤find st.decls n.text then note CG n.pos st else st)
def tB (o:AJ Mc):AJ Mc:=o.bind fun n st=>.ok n (if st.decls.length=8 then note Nl n.pos st else st)
theorem pP (e pos:Nat) (st:PS):(note e pos st).decls=st.decls:=by unfold note;cases st.wrong<;>rfl
abbrev Ff.dcl (r:Ff) (d:Bf):Ff:={r with decls:=r.decls++[d]}
section
variable {B:Nat} {w w2:World} {g gp:Nat} {tl:Value} {ts:List CB} {f:Int} {vr vh vm:Value} {ms:Bool} {r r2 r3:Ff} {vd:Value} {s:Ae} {st:PS} {x:CB} {o:AJ Mc}
theorem wo (h:jX r2.decls x o) (hf:0≤find r2.decls x.txt) (hs:Bs s r3 (NQ CG x.pos o)):Bs s r3 (nh o):=by
 cases o with
 |bad e p=>exact hs
 |ok n st=>
  obtain⟨h1,h2,h3⟩:=h n st rfl
  show AB s r3 (if 0≤find st.decls n.text then note CG n.pos st else st)
  rw[h3,←h2,Ak hf,←h1]
  exact hs
theorem zW2 (h:jX r2.decls x o) (hf:¬0≤find r2.decls x.txt) (hs:Bs s r3 o):Bs s r3 (nh o):=by
 cases o with
 |bad e p=>exact hs
 |ok n st=>
  obtain⟨h1,h2,h3⟩:=h n st rfl
  show AB s r3 (if 0≤find st.decls n.text then note CG n.pos st else st)
  rw[h3,←h2,Ad hf]
  exact hs
theorem zW3 {ds:List Bf} (h:jX ds x o):jX ds x (nh o):=by
 cases o with
 |bad e p=>intro t st e;cases e
 |ok n st=>
  obtain⟨h1,h2,h3⟩:=h n st rfl
  intro t AP e
  injection e with e1 e2
  subst e1 e2
  refine⟨h1,h2,?_⟩
  split
  ·rw[pP];exact h3
  ·exact h3
theorem wn (h:jX r2.decls x o) (hf:r2.decls.length=8) (hs:Bs s r3 (NQ Nl x.pos o)):Bs s r3 (tB o):=by
 cases o with
 |bad e p=>exact hs
 |ok n st=>
  obtain⟨h1,h2,h3⟩:=h n st rfl
  show AB s r3 (if st.decls.length=8 then note Nl n.pos st else st)
  rw[h3,Ak hf,←h1]
  exact hs
theorem zW1 (h:jX r2.decls x o) (hf:¬r2.decls.length=8) (hs:Bs s r3 o):Bs s r3 (tB o):=by
 cases o with
 |bad e p=>exact hs
 |ok n st=>
  obtain⟨h1,h2,h3⟩:=h n st rfl
  show AB s r3 (if st.decls.length=8 then note Nl n.pos st else st)
  rw[h3,Ad hf]
  exact hs
theorem QR (hk:st.t.kind≠BX):decl s st=(want s BG (next s st)).bind fun n st1=>
  (number s 1 (BZ st.t.kind) (Ba n st1)).bind fun m AP=>(want s Ar AP).bind fun _ Cb=>.ok () {Cb with decls:=Cb.decls++[⟨D2 st.t.kind,n.text,m⟩]}:=by
 unfold decl
 simp only
 rw[Ad hk]
theorem ng {n:Mc} {st1:PS}:tB (nh (.ok n st1))= .ok n (Ba n st1):=rfl
theorem iT {K:Ae} {v:Int} {r5:Ff} (hk:st.t.kind=K) (hK:K≠BX) (OP:∀n st1,BC s BG (AJ.ok () (next s st))= .ok n st1→x.txt=n.text)
  (hv:∀m Io,GY s 1 (BZ K) (tB (nh (BC s BG (AJ.ok () (next s st)))))= .ok m Io→v=m)
  (h5:Bs s r5 (BC s Ar (GY s 1 (BZ K) (tB (nh (BC s BG (AJ.ok () (next s st)))))))):Bs s (r5.dcl ⟨D2 K,x.txt,v⟩) (decl s st):=by
 rw[QR (by rw[hk];exact hK),hk]
 have e0:BC s BG (AJ.ok () (next s st))=want s BG (next s st):=rfl
 rw[e0]at OP hv h5
 cases h1:want s BG (next s st)with
 |bad e p=>
  rw[h1]at h5
  have h':DF s r5 e p:=h5
  exact⟨h'.lt,h'.bad,h'.badAt,h'.ne,h'.fk⟩
 |ok n st1=>
  rw[h1,ng]at h5 hv
  have ht:=OP n st1 h1
  show Bs s _ ((number s 1 (BZ K) (Ba n st1)).bind _)
  have e1:GY s 1 (BZ K) (AJ.ok n (Ba n st1))=number s 1 (BZ K) (Ba n st1):=rfl
  rw[e1]at h5 hv
  cases h2:number s 1 (BZ K) (Ba n st1)with
  |bad e p=>
   rw[h2]at h5
   have h':DF s r5 e p:=h5
   exact⟨h'.lt,h'.bad,h'.badAt,h'.ne,h'.fk⟩
  |ok m AP=>
   rw[h2]at h5
   have hm:=hv m AP h2
   show Bs s _ ((want s Ar AP).bind _)
   have e2:BC s Ar (AJ.ok m AP)=want s Ar AP:=rfl
   rw[e2]at h5
   cases h3:want s Ar AP with
   |bad e p=>
    rw[h3]at h5
    have h':DF s r5 e p:=h5
    exact⟨h'.lt,h'.bad,h'.badAt,h'.ne,h'.fk⟩
   |ok t Cb=>
    rw[h3]at h5
    have h':AB s r5 Cb:=h5
    exact⟨h'.pos.of rfl rfl,⟨h'.ok.i,h'.ok.pos,h'.ok.more,h'.ok.num,h'.ok.name⟩,h'.deep,h'.loops,h'.bad,h'.wrong,by show r5.decls++_=Cb.decls++_;rw[h'.decls,ht,hm],h'.freq,h'.seen,h'.f0,h'.fk⟩
theorem UN {st':PS} (hk:st.t.kind≠BX) (e:decl s st= .ok () st'):st'.freq=st.freq:=by
 rw[QR hk]at e
 obtain⟨n,st1,e1,e⟩:=AA e
 obtain⟨m,AP,e2,e⟩:=AA e
 obtain⟨t,Cb,e3,e⟩:=AA e
 injection e with _ e
 obtain⟨t2,Io,e4,e5⟩:=AA (show(want s Bc (Ba n st1)).bind _=_ from e2)
 injection e5 with _ e5
 have nf:∀(e p:Nat) (z:PS),(note e p z).freq=z.freq:=fun e p z=>by unfold note;cases z.wrong<;>rfl
 have f0:st1.freq=st.freq:=by rw[(Bw e1).2.2];rfl
 have f1:(Ba n st1).freq=st1.freq:=by
  unfold Ba
  simp only
  have nf2:(if 0≤find st1.decls n.text then note CG n.pos st1 else st1).freq=st1.freq:=by
   split
   ·rw[nf]
   ·rfl
  generalize (if 0≤find st1.decls n.text then note CG n.pos st1 else st1)=E5 at*
  split
  ·rw[nf];exact nf2
  ·exact nf2
 have f2:Io.freq=(Ba n st1).freq:=by rw[(Bw e4).2.2];rfl
 have f3:AP.freq=Io.freq:=by
  rw[←e5]
  split
  ·rw[nf]
  ·rfl
 have f4:Cb.freq=AP.freq:=by rw[(Bw e3).2.2];rfl
 rw[←e]
 show Cb.freq=st.freq
 rw[f4,f3,f2,f1,f0]
theorem RP.plus (h:RP B w g gp tl ts f vr vh vm ms r vd) (d:Bf) {Nu:Value} {n:Nat} {xs ys:List Value} (hn:r.decls.length=n) (MF:r.decls.flatMap FL=xs) (hys:FL d=ys) (Cp:Sl (fun b=>B≤b) w2 130 3 Nu (n+1) (xs++ys))
  (A4:Af (fun b=>vd.ownBlock=some b∨w.heap.size≤b) w w2) (hl:r.decls.length+1≤1000):
  Af (fun b=>B≤b) w (w2.setCell ⟨gp,0,none⟩ Nu)∧RP B (w2.setCell ⟨gp,0,none⟩ Nu) g gp tl ts f vr vh vm ms (r.dcl d) Nu:=by
 subst hn MF hys
 have hle:∀b,vd.ownBlock=some b∨w.heap.size≤b→B≤b:=fun b hb=>hb.elim (fun hb=>h.sl.2 b hb) (fun hb=>Ai h.sz hb)
 have Vv:∀{t:TypeId} {cs:List Value} {b:Nat},AM w b t cs→t≠130→¬(vd.ownBlock=some b∨w.heap.size≤b):=by
  intro t cs b hr ht hb
  rcases hb with hb|hb
  ·exact h.sl.ne_row hr (fun e=>ht e.symm) hb
  ·have:=hr.lt;omega
 have BQ:=h.rd.row.kept A4 (Vv h.rd.row (by decide))
 have OO:=h.rd.pol.kept A4 (Vv h.rd.pol (by decide))
 obtain⟨N,ht⟩:=h.rd.toks
 have GM:=ht.kept A4 (fun b hb=>by obtain⟨cs,hr⟩:=ht.row hb;exact Vv hr (by decide))
 have k3:Af (fun b=>b=gp) w2 (w2.setCell ⟨gp,0,none⟩ Nu):=Af.one w2 ⟨gp,0,none⟩ Nu
 have vI:=OO.ne_ BQ (by decide)
 have Mh:=Cp.kept k3 (fun b hb e=>Cp.ne_row OO (by decide) (e▸hb))
 have el:(r.dcl d).decls.length=r.decls.length+1:=by simp
 have ex:(r.dcl d).decls.flatMap FL=r.decls.flatMap FL++FL d:=by simp
 rw[←el,←ex]at Mh
 refine⟨(A4.mono hle).trans (k3.mono (fun b hb=>hb▸h.p0)),⟨?_,h.g0,h.p0,Mh,by have:=A4.size;have:=h.sz;simp;omega⟩⟩
 exact⟨BQ.far (fun e=>vI e.symm) _,⟨N,GM.kept k3 (fun b hb e=>GM.ne_row OO (by decide) (e▸hb))⟩,h.rd.tl,OO.set_ 0 _,⟨_,Nu,rfl,Mh⟩,by rw[el];exact hl⟩
end
theorem RP.farD {B:Nat} {w:World} {g gp:Nat} {tl:Value} {ts:List CB} {f:Int} {vr vh vm:Value} {ms:Bool} {r:Ff} {vd:Value} (h:RP B w g gp tl ts f vr vh vm ms r vd) {D:Nat} {cs:List Value} (hD:AM w D 130 cs) (Cu:vd.ownBlock≠some D) (i:Nat) (u:Value):
  RP B (w.setCell ⟨D,i,none⟩ u) g gp tl ts f vr vh vm ms r vd:=by
 have hk:Af (fun b=>b=D) w (w.setCell ⟨D,i,none⟩ u):=Af.one w ⟨D,i,none⟩ _
 obtain⟨N,ht⟩:=h.rd.toks
 have Mh:=h.sl.kept hk (fun b hb e=>Cu (e▸hb))
 exact⟨⟨h.rd.row.far (h.rd.row.ne_ hD (by decide)) _,⟨N,ht.kept hk (fun b hb e=>ht.ne_row hD (by decide) (e▸hb))⟩,h.rd.tl,h.rd.pol.far (h.rd.pol.ne_ hD (by decide)) _,⟨_,vd,rfl,Mh⟩,h.rd.dl⟩,h.g0,h.p0,Mh,by simpa using h.sz⟩
theorem iu:(Tryz.prog.info? 130).map (fun i=>(i.zero,i.size,i.bytes))=some (some (.agg #[vs [],vs [],.int .i64 0]),3,40):=by kernel_rfl
section
variable {B:Nat} {w:World} {g gp:Nat} {tl:Value} {ts:List CB} {f:Int} {r:Ff} {vd:Value} {s:Ae} {st:PS}
theorem Pr {K:Ae} (wf:K=G1∨K=G4∨K=IY) (h:RP B w g gp tl ts f Bx Bx Bx false r vd) (hs:AB s r st) (ht:DD ts (toks s)) (hk:st.t.kind=K) (LW:r.decls.length≤900) (Xo:f=st.freq):
  Calls Tryz.prog 52 #[.pointer (some ⟨g,0,none⟩)] w (nS B w g gp tl ts s r.decls.length (decl s st)):=by
 obtain⟨x,hx,IM⟩:=AB.tok hs ht
 obtain⟨gt,ct,rfl,h1,h2,h3,h4,h5,t0,t1,t2⟩:=h.rd.at_ hx
 have hKf:(K==BX)=false:=by rcases wf with rfl|rfl|rfl<;>decide
 have Anp:decide (K=BX)=false:=by rcases wf with rfl|rfl|rfl<;>decide
 have hKe:K≠DJ:=by rcases wf with rfl|rfl|rfl<;>decide
 have hKn:K≠Bu:=by rcases wf with rfl|rfl|rfl<;>decide
 have hKr:GE K=K:=by rcases wf with rfl|rfl|rfl<;>decide
 have hKd:En (D2 K)=K:=by rcases wf with rfl|rfl|rfl<;>decide
 have _g:K≠BX:=by rcases wf with rfl|rfl|rfl<;>decide
 have Ye:=Aa (And.intro hKd _g)
 have Nf:x.is=K:=by rw[IM.1,hk];exact hKr
 rw[Nf]at t0
 obtain⟨c0,c1,_⟩:=h.rd.cells
 have Cy:=h.rd.row.lt
 have ff:=fun j=>h.rd.row.frozen j
 have h8:=h.rd.tl
 have Jj:r.k<ts.length:=h3
 unfold maxLen at h2
 have FF:Bs s r.nx (AJ.ok () (next s st)):=hs.next (by rw[hk];exact hKe) (by rw[hk];exact hKn)
 have Bi:Kg g w ((w.setCell ⟨g,1,none⟩ (.int .i64 ((r.k:Int)+1))).alloc (.cells #[vs K,vs x.txt,.int .i64 x.pos] 127)).drew:=
  (((Af.refl _ w).setCell (p:=⟨g,1,none⟩) (.inl rfl) _).alloc (.inr (by simp)) _).drew
 have q1:=h.call (r':=r.nx) Bi (((h.rd.put 1 (.int .i64 ((r.k:Int)+1)) (r':=r.nx) rfl rfl).alloc (.cells #[vs K,vs x.txt,.int .i64 x.pos] 127)).drewN 1) rfl
 have b1:AM ((w.setCell ⟨g,1,none⟩ (.int .i64 ((r.k:Int)+1))).alloc (.cells #[vs K,vs x.txt,.int .i64 x.pos] 127)).drew w.heap.size 127 [vs K,vs x.txt,.int .i64 x.pos]:=by
  have:=AM.new (w.setCell ⟨g,1,none⟩ (.int .i64 ((r.k:Int)+1))) 127 [vs K,vs x.txt,.int .i64 x.pos]
  simp only[Z4]at this
  exact this
 have IZ:=Dw q1.rd FF ht (kd:=BG) (kr:=BG) (by decide) (by decide) (by decide) (by decide)
 have HT:=Aa ht
 have Q1:=Aa q1
 have Lv:=Aa Bi
 have B1:=Aa b1
 have Tv:=Aa IZ
 have HP:=Aa h
 have Vh:=Aa (And.intro hk Xo)
 generalize Gh:r.k=kq at*
 generalize QG:ts.length=LL at*
 clear hx IM hs FF Nf hk Gh QG h q1 Bi ht IZ b1 Xo hKe hKn hKr hKd _g
 unfold vs at*
 go_enter Tryz.func52,Tryz.ntmps52
 go_wp2
 go_region
 go_wp2_with fail
 refine Tv.out.mono ?_
 rintro e w2 ⟨x2,rfl,A4,eI,r2,LZ,Cp,Fp⟩
 have q2:=Q1.out.call A4 LZ Fp
 have b2:=Eg A4 B1.out (B1.out.ne_ Q1.out.rd.row (by decide))
 have OP:jX r2.decls x2 (BC s BG (AJ.ok () (next s st))):=fun t Fm ho=>Ym ho (eI t Fm ho) Cp
 have kA:=(Kg.trans Lv.out A4).alloc (.inr (Lv.out.trans A4).size) (.cells #[vs x2.is,vs x2.txt,.int .i64 x2.pos] 127)
 have qA:=(q2.call (((Af.refl (fun b=>b=g∨w2.heap.size≤b) w2).alloc (.inr (Ab _)) (.cells #[vs x2.is,vs x2.txt,.int .i64 x2.pos] 127)).drewN 1) ((q2.rd.alloc (.cells #[vs x2.is,vs x2.txt,.int .i64 x2.pos] 127)).drewN 1) rfl)
 have bA:=(b2.alloc (.cells #[vs x2.is,vs x2.txt,.int .i64 x2.pos] 127)).drewN 1
 have bB:=(AM.new w2 127 [vs x2.is,vs x2.txt,.int .i64 x2.pos])
 have G8:=Wd x2.txt gp r2.decls vd _ qA.sl qA.rd.dl qA.rd.pol.lt (qA.rd.pol.cell 0)
 have hng:¬g=w2.heap.size:=by have:=q2.rd.row.lt;omega
 have c8:=((q2.rd.alloc (.cells #[vs x2.is,vs x2.txt,.int .i64 x2.pos] 127)).cells).2.2.2.2.2.2.2.2.1
 have d1:=bB.cell 1
 simp at d1
 have HF:=Aa G8
 have QA:=Aa qA
 have KA:=Aa (kA.drewN 1)
 have BA:=Aa bA
 have BB:=Aa (bB.drewN 1)
 have SL:=Aa Cp
 have NC:=Aa OP
 have ol:=Aa (fun t Fm ho=>(OP t Fm ho).2.1)
 have XN:=Aa (show r2.decls=r.decls from Fp)
 clear c0 c1 t0 t1 t2 ff Q1 Lv Tv B1 q2 b2 OP kA qA bA bB G8 Cp Fp eI LZ A4
 unfold DB
 unfold vs at*
 go_wp2_with fail
 (refine DM 6 (by kernel_rfl) (by kernel_rfl) ?_;simp only[Aw,AO,Ax,AK];repeat still_step)
 refine Cf ?_
 go_wp2_with fail
 refine HF.out.mono ?_
 rintro e w3 ⟨rfl,Xq⟩
 have q3:=QA.out.call (IX Xq) (QA.out.rd.kg (IX Xq) (Xq.block g QA.out.rd.row.lt)) rfl
 have b3:=(Xq.block _ BA.out.lt).trans BA.out
 have b3':=(Xq.block _ BB.out.lt).trans BB.out
 have d2:=AM.cell b3' 2
 simp at d2
 have n1:=Hk (e:=CG) q3.rd SL.out (by decide) x2.pos
 have HN1:=Aa n1
 have Q3:=Aa q3
 have K3:=Aa (Kg.trans KA.out (IX Xq))
 have B3:=Aa (show AM w3 w.heap.size 127 [vs K,vs x.txt,.int .i64 x.pos]from b3)
 have B3':=Aa (show AM w3 w2.heap.size 127 [vs x2.is,vs x2.txt,.int .i64 x2.pos]from b3')
 clear HF QA KA BA BB n1 q3 b3 b3' Xq c8 d1
 unfold vs at*
 go_upto_if 61 with fail
 go_cut [] (fun wx=>Kg g w wx∧AM wx w.heap.size 127 [vs K,vs x.txt,.int .i64 x.pos]∧AM wx w2.heap.size 127 [vs x2.is,vs x2.txt,.int .i64 x2.pos]∧∃r3,RP B wx g gp (.slice (some ⟨gt,0,none⟩) LL ct) ts f Bx Bx Bx false r3 vd∧Bs s r3 (nh (BC s BG (AJ.ok () (next s st))))∧r3.decls=r.decls)
 case first=>
  by_cases hf:0≤find r2.decls x2.txt
  ·have wY:=Aa hf
   go_wp2_with fail
   refine HN1.out.mono ?_
   rintro e w4 ⟨rfl,CU,r4,QH,J5,Fz⟩
   have F:=Aa (And.intro CU (And.intro QH (And.intro J5 Fz)))
   clear CU QH J5 Fz
   go_wp2
   go_meet
   obtain⟨f1,f2,f3,f4⟩:=F.out
   exact⟨Kg.trans K3.out f1,Eg f1 B3.out (B3.out.ne_ Q3.out.rd.row (by decide)),Eg f1 B3'.out (B3'.out.ne_ Q3.out.rd.row (by decide)),r4,Q3.out.call f1 f2 f4,wo NC.out wY.out f3,f4.trans XN.out⟩
  ·have wY:=Aa hf
   go_wp2
   go_meet
   exact⟨K3.out,B3.out,B3'.out,r2,Q3.out,zW2 NC.out (by have:=wY.out;omega) SL.out,XN.out⟩
 case rest=>
  obtain⟨k4,b4,b4',r4,q4,J5,Fz⟩:=hcut
  have wS:=Aa (show jX r4.decls x2 (nh (BC s BG (AJ.ok () (next s st))))from by rw[Fz,←XN.out];exact zW3 NC.out)
  have n2:=Hk (e:=Nl) q4.rd J5 (by decide) x2.pos
  obtain⟨av,cv,rfl⟩:=q4.sl.any_
  have c8:=q4.rd.cells.2.2.2.2.2.2.2.2.1
  have p0:=q4.rd.pol.cell 0
  have d2':=AM.cell b4' 2
  simp at d2' p0
  have tV:=Aa n2
  have Q4:=Aa q4
  have K4:=Aa k4
  have B4:=Aa b4
  have B4':=Aa b4'
  have rN:=Aa J5
  have Vi:=Aa Fz
  clear n2 q4 k4 b4 b4' J5 Fz HN1 Q3 K3 B3 B3' NC SL XN d2
  unfold vs at*
  go_upto_if 74 with fail
  go_cut [] (fun wx=>Kg g w wx∧AM wx w.heap.size 127 [vs K,vs x.txt,.int .i64 x.pos]∧AM wx w2.heap.size 127 [vs x2.is,vs x2.txt,.int .i64 x2.pos]∧∃r5,RP B wx g gp (.slice (some ⟨gt,0,none⟩) LL ct) ts f Bx Bx Bx false r5 (.slice av r4.decls.length cv)∧Bs s r5 (tB (nh (BC s BG (AJ.ok () (next s st)))))∧r5.decls=r4.decls)
  case first=>
   by_cases hf:r4.decls.length=8
   ·have wY:=Aa hf
    have e1:((r4.decls.length:Int)==8)=true:=by simp;omega
    have e2:decide ((r4.decls.length:Int)=8)=true:=by simp;omega
    clear hf
    go_wp2_with fail
    refine tV.out.mono ?_
    rintro e w5 ⟨rfl,He,r5,mO,Mi,Rm⟩
    have F:=Aa (And.intro He (And.intro mO (And.intro Mi Rm)))
    clear He mO Mi Rm
    go_wp2
    go_meet
    obtain⟨f1,f2,f3,f4⟩:=F.out
    exact⟨Kg.trans K4.out f1,Eg f1 B4.out (B4.out.ne_ Q4.out.rd.row (by decide)),Eg f1 B4'.out (B4'.out.ne_ Q4.out.rd.row (by decide)),r5,Q4.out.call f1 f2 f4,wn wS.out wY.out f3,f4⟩
   ·have wY:=Aa hf
    have e1:((r4.decls.length:Int)==8)=false:=by simp;omega
    have e2:decide ((r4.decls.length:Int)=8)=false:=by simp;omega
    clear hf
    go_wp2
    go_meet
    exact⟨K4.out,B4.out,B4'.out,r4,Q4.out,zW1 wS.out wY.out rN.out,rfl⟩
  case rest=>
   obtain⟨k5,b5,tD,r5,q5,Mi,Rm⟩:=hcut
   have u0:=AM.cell b5 0
   have u1:=AM.cell tD 1
   simp at u0 u1
   have zR:r5.decls=r.decls:=Rm.trans Vi.out
   go_upto_region 14 with fail
   go_cut [81] (fun s81 wx=>s81= .bool (K==IY)∧wx=wc)
   case first=>
    cases hv:(K==IY)
    all_goals
     have Uq:=hv
     rw[Ka,OY]at Uq
     have HV:=Aa hv
     go_wp2
     go_meet
     exact⟨by simpa using Uq,rfl⟩
   obtain⟨rfl,rfl⟩:=hcut
   go_upto_if 81 with fail
   go_cut [4] (fun s4 wx=>s4= .int .i64 (BZ K)∧wx=wc)
   case first=>
    cases hv:(K==IY)
    all_goals
     have HV:=Aa (show decide (K=IY)=(K==IY) by rw[Ka,decide_eq_true_iff,OY])
     rw[hv]at HV
     clear hv
     go_wp2
     go_meet
     have:=HV.out
     simp at this
     exact⟨by simp[BZ,this],rfl⟩
   obtain⟨rfl,rfl⟩:=hcut
   have hnA:=JR (q5.rd.drewN 1) Mi HT.out 1 (BZ K)
   have oL:=JR ((q5.rd.alloc (.cells #[vs [],vs [],.int .i64 0] 130)).drewN 1) Mi HT.out 1 (BZ K)
   have hA:∀w6,Kg g (wc.drewN 1) w6→w6.cell? ⟨w.heap.size,0,none⟩=some (vs K)∧w6.cell? ⟨w2.heap.size,1,none⟩=some (vs x2.txt):=fun w6 hk=>by
    have y0:=AM.cell (Eg hk (b5.drewN 1) (b5.ne_ q5.rd.row (by decide))) 0
    have y1:=AM.cell (Eg hk (tD.drewN 1) (tD.ne_ q5.rd.row (by decide))) 1
    exact⟨y0,y1⟩
   have hB:∀w6,Kg g ((wc.alloc (.cells #[vs [],vs [],.int .i64 0] 130)).drewN 1) w6→w6.cell? ⟨w.heap.size,0,none⟩=some (vs K)∧w6.cell? ⟨w2.heap.size,1,none⟩=some (vs x2.txt)∧AM w6 wc.heap.size 130 [vs [],vs [],.int .i64 0]:=fun w6 hk=>by
    have hra:=(q5.rd.alloc (.cells #[vs [],vs [],.int .i64 0] 130)).drewN 1
    have y0:=AM.cell (Eg hk ((b5.alloc (.cells #[vs [],vs [],.int .i64 0] 130)).drewN 1) (b5.ne_ q5.rd.row (by decide))) 0
    have y1:=AM.cell (Eg hk ((tD.alloc (.cells #[vs [],vs [],.int .i64 0] 130)).drewN 1) (tD.ne_ q5.rd.row (by decide))) 1
    have y2:=Eg hk ((AM.new wc 130 [vs [],vs [],.int .i64 0]).drewN 1) (fun e=>(AM.new wc 130 [vs [],vs [],.int .i64 0]).ne_ (q5.rd.alloc (.cells #[vs [],vs [],.int .i64 0] 130)).row (by decide) e)
    exact⟨y0,y1,y2⟩
   have iN:¬w.heap.size=wc.heap.size:=by have:=AM.lt b5;omega
   have hb6:¬w2.heap.size=wc.heap.size:=by have:=AM.lt tD;omega
   have l5:=AM.lt b5
   have l5':=AM.lt tD
   have HNA:=Aa hnA
   have HNB:=Aa oL
   have HA:=Aa hA
   have HB:=Aa hB
   have Q5:=Aa q5
   have K5:=Aa k5
   have fm:=Aa zR
   have Agp:=Aa (show r5.decls=r4.decls from Rm)
   clear hnA oL hA hB q5 k5 b5 tD Mi Rm zR tV Q4 K4 B4 B4' rN wS c8 p0 d2'
   unfold vs at*
   go_upto_region 16 with fail
   go_cut [5] (fun s5 wx=>∃(D:Nat) (v:Int) (r6:Ff),s5= .pointer (some ⟨D,0,none⟩)∧w.heap.size≤D∧Kg g w wx∧AM wx D 130 [vs K,vs x2.txt,.int .i64 v]∧RP B wx g gp (.slice (some ⟨gt,0,none⟩) LL ct) ts f Bx Bx Bx false r6 (.slice av r4.decls.length cv)∧
    Bs s r6 (GY s 1 (BZ K) (tB (nh (BC s BG (AJ.ok () (next s st))))))∧(∀n Fm,GY s 1 (BZ K) (tB (nh (BC s BG (AJ.ok () (next s st)))))= .ok n Fm→v=n)∧r6.decls=r.decls)
   case first=>
    go_region_law (first|(go_simp;go_at_call 87;refine HNA.out.mono ?_;rintro e w6 ⟨v,rfl,Nv,hv,r6,_o,bR,eS⟩;have F6:=Aa (And.intro Nv (And.intro hv (And.intro _o (And.intro bR eS))));have z6:=HA.out w6 Nv;obtain⟨y0,y1⟩:=z6;have ly:wc.heap.size≤w6.heap.size:=Nv.size;have n6:¬w2.heap.size=w6.heap.size:=(by omega);have n7:¬w.heap.size=w6.heap.size:=(by omega);have m6:w2.heap.size<w6.heap.size:=(by omega);have m7:w.heap.size<w6.heap.size:=(by omega);clear Nv hv _o bR eS)|(go_simp;go_at_call 87;refine HNB.out.mono ?_;rintro e w6 ⟨v,rfl,Nv,hv,r6,_o,bR,eS⟩;have F6:=Aa (And.intro Nv (And.intro hv (And.intro _o (And.intro bR eS))));have z6:=HB.out w6 Nv;obtain⟨y0,y1,y2⟩:=z6;have yl:=y2.lt;have yf:=fun j=>y2.frozen j;have e0:=y2.cell 0;have e1:=y2.cell 1;have e2:=y2.cell 2;have Y2:=Aa y2;simp at e0 e1 e2;clear Nv hv _o bR eS y2))
    all_goals go_wp2
    all_goals go_meet
    all_goals
     obtain⟨f1,f2,f3,f4,f5⟩:=F6.out
     have Zk:w.heap.size≤wc.heap.size:=K5.out.size
     first
     |(have kA:Kg g wc w6:=Kg.trans ((Af.refl _ wc).drewN 1) f1
       have pA:=Q5.out.call kA f3 f5
       refine⟨w6.heap.size,v,r6,rfl,Ai Zk kA.size,(Kg.trans K5.out kA).alloc (.inr (Ai Zk kA.size)) _,AM.new w6 _ _,pA.call ((Af.refl (fun b=>b=g∨w6.heap.size≤b) w6).alloc (.inr (Ab _)) _) (f3.alloc _) rfl,f4,f2,f5.trans fm.out⟩)
     |(have kB:Kg g wc w6:=Kg.trans (((Af.refl (fun b=>b=g∨wc.heap.size≤b) wc).alloc (.inr (Ab _)) (.cells #[vs [],vs [],.int .i64 0] 130)).drewN 1) f1
       have pB:=Q5.out.call kB f3 f5
       have Cu:(Value.slice av r4.decls.length cv).ownBlock≠some wc.heap.size:=fun e=>by have:=Q5.out.sl.lt e;omega
       have z0:=Y2.out.set_ 0 (vs K)
       have z1:=z0.set_ 1 (vs x2.txt)
       have p2:=((pB.farD Y2.out Cu 0 (vs K)).farD z0 Cu 1 (vs x2.txt)).farD z1 Cu 2 (.int .i64 v)
       exact⟨wc.heap.size,v,r6,rfl,Zk,(((Kg.trans K5.out kB).setCell (p:=⟨wc.heap.size,0,none⟩) (.inr Zk) _).setCell (p:=⟨wc.heap.size,1,none⟩) (.inr Zk) _).setCell (p:=⟨wc.heap.size,2,none⟩) (.inr Zk) _,z1.set_ 2 (.int .i64 v),p2,f4,f2,f5.trans fm.out⟩)
   case rest=>
    obtain⟨D,v,r6,rfl,hD,k6,y6,q6,bR,hv6,eS⟩:=hcut
    clear HNA HNB HA HB u0 u1 iN hb6 l5 l5' Q5 K5
    have IZ:=Dw q6.rd bR HT.out (kd:=Ar) (kr:=Ar) (by decide) (by decide) (by decide) (by decide)
    have Tv:=Aa IZ
    have Q6:=Aa q6
    have K6:=Aa k6
    have Y6:=Aa y6
    have HV6:=Aa hv6
    have HD6:=Aa eS
    clear IZ q6 k6 y6 bR hv6 eS
    unfold vs at*
    go_wp2_with fail
    refine Tv.out.mono ?_
    rintro e w7 ⟨x7,rfl,Rk,_,r7,h7',mo,vW⟩
    have q7:=Q6.out.call Rk h7' vW
    have y7:=Eg Rk Y6.out (Y6.out.ne_ Q6.out.rd.row (by decide))
    have Amk:D≠g:=Y6.out.ne_ Q6.out.rd.row (by decide)
    have eN:r7.decls.length=r4.decls.length:=AL List.length (vW.trans (HD6.out.trans (fm.out.symm.trans Agp.out)))
    have K7:=Aa (Kg.trans K6.out Rk)
    have D7:=Aa (show r7.decls=r.decls from vW.trans HD6.out)
    have rM:=Aa mo
    have It:RP B ((w7.alloc (.cells #[vs K,vs x2.txt,.int .i64 v] 130)).drew) g gp (.slice (some ⟨gt,0,none⟩) LL ct) ts f Bx Bx Bx false r7 (.slice av r4.decls.length cv):=q7.call (((Af.refl (fun b=>b=g∨w7.heap.size≤b) w7).alloc (.inr (Ab _)) _).drew) ((q7.rd.alloc _).drewN 1) rfl
    have s1:=It.sl
    rw[eN]at s1
    have eJ:B≤((w7.alloc (.cells #[vs K,vs x2.txt,.int .i64 v] 130)).drew).heap.size:=It.sz
    have ln:=FN w7 [vs K,vs x2.txt,.int .i64 v] 130
    have lm:∀u∈ [vs K,vs x2.txt,.int .i64 v],u.oneCell'=true:=by intro u hu;simp at hu;rcases hu with rfl|rfl|rfl<;>rfl
    have hl4:r4.decls.length≤999:=by rw[←eN,D7.out];omega
    have uA:r4.decls.length+1≤maxLen:=by unfold maxLen;omega
    have uz:(r4.decls.length+1)*40≤140737488355328:=by omega
    have uB:(w7.alloc (.cells #[vs K,vs x2.txt,.int .i64 v] 130)).drew.frozen? ⟨gp,0,none⟩=false:=It.rd.pol.frozen 0
    have pn:¬((Value.slice av r4.decls.length cv).ownBlock=some gp∨((w7.alloc (.cells #[vs K,vs x2.txt,.int .i64 v] 130)).drew).heap.size≤gp):=by
     rintro(hb|hb)
     ·exact It.sl.ne_row It.rd.pol (by decide) hb
     ·exact absurd It.rd.pol.lt (GO.2 hb)
    have gn:¬((Value.slice av r4.decls.length cv).ownBlock=some g∨((w7.alloc (.cells #[vs K,vs x2.txt,.int .i64 v] 130)).drew).heap.size≤g):=by
     rintro(hb|hb)
     ·exact It.sl.ne_row It.rd.row (by decide) hb
     ·exact absurd It.rd.row.lt (GO.2 hb)
    have b8:=It.rd.cells.2.2.2.2.2.2.2.2.1
    have b0:=It.rd.pol.cell 0
    have c8:=q7.rd.cells.2.2.2.2.2.2.2.2.1
    have p0:=q7.rd.pol.cell 0
    have p0l:=q7.rd.pol.lt
    have z0:=y7.cell 0
    have z1:=y7.cell 1
    have z2:=y7.cell 2
    have zl:=y7.lt
    have zr:=q7.rd.row.lt
    have S1:=Aa s1
    have rJ:=Aa eJ
    have wF:=Aa ln
    have wE:=Aa lm
    have PN:=Aa pn
    have GN:=Aa gn
    have oT:=Aa It
    have tW:=Aa eN
    obtain⟨i0,Lt,Acr,Acq,Acp⟩:=Cj iu
    simp only[Bm]at b0
    simp at p0 z0 z1 z2
    clear s1 eJ ln lm pn gn It Rk h7' mo vW q7 y7 Tv Q6 K6 Y6 eN
    unfold DB
    unfold vs at*
    go_wp2_with fail
    go_region_law (first
     |(refine F9 Tryz.underlying118 Lt Acr Acq Acp rfl (by decide) S1.out rJ.out rfl _ _ (by rfl) (by rfl) ⟨w7.heap.size,0,none⟩ 1 1 [.string ⟨K.toArray⟩,.string ⟨x2.txt.toArray⟩,.int .i64 v] (by rfl) (by rfl) wF.out wE.out uA uz (by omega) ?_;intro g2 Er w11 Cp A4 EE;have e1:=(A4.cell (p:=⟨g,8,none⟩) GN.out).trans b8;have e0:=(A4.cell (p:=⟨gp,0,none⟩) PN.out).trans b0;have e2:=(A4.frozen (p:=⟨gp,0,none⟩) PN.out).trans uB;have U3:=Aa Cp;have Rp:=Aa A4;clear Cp A4 EE))
    all_goals
     go_wp2
     go_end0
     have hf:=oT.out.plus ⟨D2 K,x2.txt,v⟩ tW.out rfl (show FL ⟨D2 K,x2.txt,v⟩=[vs K,vs x2.txt,.int .i64 v] by unfold FL;rw[Ye.out.1]) U3.out Rp.out (by rw[tW.out];omega)
     have ek:Af (fun b=>B≤b) w7 ((w7.alloc (.cells #[vs K,vs x2.txt,.int .i64 v] 130)).drew):=((Af.refl _ w7).alloc (Ai HP.out.sz K7.out.size) _).drew
     have Ajq:BZ G1=50:=by decide
     refine⟨rfl,((Ul K7.out HP.out.g0 HP.out.sz).trans ek).trans hf.1,f,_,_,hf.2,iT Vh.out.1 Ye.out.2 ol.out HV6.out rM.out,fun st' e=>?_,?_⟩
     ·rw[UN (by rw[Vh.out.1];exact Ye.out.2) e]
      exact Vh.out.2
     ·have:=AL List.length D7.out
      simp
      omega
end
end Go.Proofs.YtemppijblfflgaaGreatDoor.Ev
