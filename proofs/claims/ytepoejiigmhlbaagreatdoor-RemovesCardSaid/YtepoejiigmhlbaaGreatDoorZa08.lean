/- Lemmas for a law's walk. Conditions: none. -/
import Derived.Test.YtepoejiigmhlbaaGreatDoorZa05
set_option linter.all false
set_option maxRecDepth 100000
set_option maxHeartbeats 8000000
namespace Go.Proofs.YtepoejiigmhlbaaGreatDoor.Ev
open _root_.Go.Proofs.Tryz
open Go Go.RowKit
def RB (c:UInt8):Int:=Lib.indexByte [32,10] c
def Rz (c:UInt8):Int:=Lib.indexByte [59,123,125,60] c
theorem RA (c:UInt8) (w:World):Calls prog 68 #[.string ⟨#[32,10]⟩,.int .u8 c.toNat] w λe w'=>e= .returned (.int .i64 (RB c))/\w'=w:=by have h:=Tryz.strings_IndexByte ⟨#[32,10]⟩ (c.toNat:Int) w;simp at h;exact h
theorem Ry (c:UInt8) (w:World):Calls prog 68 #[.string ⟨#[59,123,125,60]⟩,.int .u8 c.toNat] w λe w'=>e= .returned (.int .i64 (Rz c))/\w'=w:=by have h:=Tryz.strings_IndexByte ⟨#[59,123,125,60]⟩ (c.toNat:Int) w;simp at h;exact h
theorem mb (c:UInt8):decide (0<=RB c)=blank c:=by
 unfold blank RB;by_cases a:c=32
 ·subst a;rfl
 ·by_cases b:c=10
  ·subst b;rfl
  ·have e1:((32:UInt8)==c)=false:=by simpa using λe=>a e.symm
   have d:((10:UInt8)==c)=false:=by simpa using λe=>b e.symm
   simp[Lib.indexByte,e1,d,a,b]
theorem AX {w:World}{g gp:Nat}{a:Value}{s:Ah}{st:PS}(h:AE w g 103 (Dt s st gp a)):
  w.cell? ⟨g,0,none⟩=some (vs s)/\w.cell? ⟨g,1,none⟩=some (.int .i64 st.i)/\w.cell? ⟨g,2,none⟩=some (vs st.t.kind)/\w.cell? ⟨g,3,none⟩=some (vs st.t.text)/\w.cell? ⟨g,4,none⟩=some (.int .i64 st.t.pos)/\
  w.cell? ⟨g,5,none⟩=some (.pointer (some ⟨gp,0,none⟩))/\w.cell? ⟨g,6,none⟩=some (.bool st.bp)/\w.cell? ⟨g,7,none⟩=some (.int .i64 st.depth)/\w.cell? ⟨g,8,none⟩=some (.int .i64 st.loops)/\w.cell? ⟨g,9,none⟩=some a:=
 ⟨h.cell 0,h.cell 1,h.cell 2,h.cell 3,h.cell 4,h.cell 5,h.cell 6,h.cell 7,h.cell 8,h.cell 9⟩
theorem Ake {w:World}{g gp:Nat}{a:Value}{s:Ah}{st:PS}(h:AE w g 103 (Dt s st gp a)) (i:Nat):
  AE (w.setCell ⟨g,1,none⟩ (.int .i64 i)) g 103 (Dt s {st with i:=i} gp a):=h.bF 1 _
theorem OC {s:Ah}{i:Nat}{c:UInt8}(h:s[i]?=some c):∃a:i<(ByteArray.mk s.toArray).size,(ByteArray.mk s.toArray)[i]=c:=by obtain⟨a,b⟩:=Aj.1 h;exact⟨by rw[Ay];exact a,by rw[←b];rfl⟩
theorem km (c:UInt8):decide (0<=Rz c)=Ie c:=by
 unfold Ie Rz;by_cases a:c=59
 ·subst a;rfl
 ·by_cases b:c=123
  ·subst b;rfl
  ·by_cases d:c=125
   ·subst d;rfl
   ·by_cases f:c=60
    ·subst f;rfl
    ·have e1:((59:UInt8)==c)=false:=by simpa using λe=>a e.symm
     have g:((123:UInt8)==c)=false:=by simpa using λe=>b e.symm
     have h:((125:UInt8)==c)=false:=by simpa using λe=>d e.symm
     have i:((60:UInt8)==c)=false:=by simpa using λe=>f e.symm
     simp[Lib.indexByte,e1,g,h,i,a,b,d,f]
theorem uS (x:Ah) (w:World) (d:∀j,j<24->w.cell? ⟨3,j,none⟩=some (vs (A0.getD j []))):
  Calls prog 69 #[.slice (some ⟨3,0,none⟩) 24 24,.string ⟨x.toArray⟩] w λe w'=>e= .returned (.bool (A0.contains x))/\w'=w:=by
 have h:=Tryz.slices_Contains_string 3 0 24 24 (A0.map λk=>⟨k.toArray⟩) ⟨x.toArray⟩ w (by decide) (by decide) (λj f=>by
  have a:j<24:=f;rw[DH,d j a];unfold vs;congr 2;simp only[List.getD_eq_getElem?_getD,At];have:j<A0.length:=a;rw[Ae this];rfl)
 have e:Lib.containsS ((A0.map λk=>(⟨k.toArray⟩:ByteArray)).take 24) ⟨x.toArray⟩=A0.contains x:=by
  rw[GF,Lib.containsS_iff,CO];have c:(A0.map λk=>(⟨k.toArray⟩:ByteArray)).length=24:=rfl;rw[List.take_of_length_le (by rw[c];exact Ab _),AD];constructor
  ·rintro⟨k,g,i⟩;have:k=x:=by have l:=AG (λb:ByteArray=>b.data.toList) i;simpa using l
   exact this▸g
  ·intro m;exact⟨x,m,rfl⟩
 rw[e]at h;exact h
theorem SX (c:UInt8):(low c=true/\(97:Int)<=(c.toNat:Int)/\(c.toNat:Int)<=122)\/(low c=false/\(c.toNat:Int)<97)\/(low c=false/\(97:Int)<=(c.toNat:Int)/\(122:Int)<(c.toNat:Int)):=by unfold low;simp only[Ee,Eu,DW,Bool.and_eq_false_iff,decide_eq_false_iff_not];have a:(97:UInt8).toNat=97:=rfl;have b:(122:UInt8).toNat=122:=rfl;omega
theorem Te (c:UInt8):(Gn c=true/\(48:Int)<=(c.toNat:Int)/\(c.toNat:Int)<=57)\/(Gn c=false/\(c.toNat:Int)<48)\/(Gn c=false/\(48:Int)<=(c.toNat:Int)/\(57:Int)<(c.toNat:Int)):=by unfold Gn;simp only[Ee,Eu,DW,Bool.and_eq_false_iff,decide_eq_false_iff_not];have a:(48:UInt8).toNat=48:=rfl;have b:(57:UInt8).toNat=57:=rfl;omega
theorem YH {S:Nat->Prop}{w w':World}(h:∀j,j<24->w.cell? ⟨3,j,none⟩=some (vs (A0.getD j []))) (a:Ac S w w') (b:¬S 3):
  ∀j,j<24->w'.cell? ⟨3,j,none⟩=some (vs (A0.getD j [])):=λj c=>(a.cell (p:=⟨3,j,none⟩) b).trans (h j c)
theorem Gy (s:Ah) (i k:Nat):(ByteArray.mk s.toArray).extract i k=⟨(Dk s i k).toArray⟩:=by
 have h:((ByteArray.mk s.toArray).extract i k).data=(Dk s i k).toArray:=by simp[ByteArray.data_extract,Dk,List.extract_eq_take_drop,Xb]
 cases a:(ByteArray.mk s.toArray).extract i k with
 |mk d=>rw[a]at h;simp only at h;rw[h]
theorem AE.of_heap {w w':World}{g:Nat}{t:TypeId}{cs:List Value}(h:AE w g t cs) (a:w'.heap=w.heap):AE w' g t cs:=by unfold AE at h ⊢;rw[a];exact h
theorem uP {s:Ah}{i:Nat}(h:s[skip blank s i]?=none):EY s i=(⟨Eh,[],skip blank s i⟩,skip blank s i):=by unfold EY;simp only[h]
theorem uN {s:Ah}{i:Nat}{c:UInt8}(h:s[skip blank s i]?=some c) (a:low c=true):EY s i=
  if 8<skip low s (skip blank s i)-skip blank s i then(⟨Bw,[],skip blank s i⟩,skip blank s i)
  else(⟨if A0.contains (Dk s (skip blank s i) (skip low s (skip blank s i)))then Dk s (skip blank s i) (skip low s (skip blank s i))else Cf,Dk s (skip blank s i) (skip low s (skip blank s i)),skip blank s i⟩,skip low s (skip blank s i)):=by
 unfold EY;simp only[h,a,A6]
theorem uO {s:Ah}{i:Nat}{c:UInt8}(h:s[skip blank s i]?=some c) (a:low c=false) (b:Gn c=true):EY s i=
  if 3<skip Gn s (skip blank s i)-skip blank s i then(⟨Bw,[],skip blank s i⟩,skip blank s i)
  else(⟨Bv,Dk s (skip blank s i) (skip Gn s (skip blank s i)),skip blank s i⟩,skip Gn s (skip blank s i)):=by
 unfold EY;simp only[h,b,a,A6,Ap,A8]
theorem kJ {s:Ah}{i:Nat}{c:UInt8}(h:s[skip blank s i]?=some c) (a:low c=false) (b:Gn c=false) (d:Ie c=true):
  EY s i=(⟨[c],[c],skip blank s i⟩,skip blank s i+1):=by
 unfold EY;simp only[h,d,a,b,A6,Ap,A8]
theorem pe {s:Ah}{i:Nat}{c:UInt8}(h:s[skip blank s i]?=some c) (a:low c=false) (b:Gn c=false) (d:Ie c=false):
  EY s i=(⟨Bw,[],skip blank s i⟩,skip blank s i):=by
 unfold EY;simp only[h,d,a,b,Ap,A8]
theorem uI {s:Ah}{st:PS}{t:MS}{k:Nat}(h:EY s st.i=(t,k)):next s st={st with t:=t,i:=k}:=by unfold next;rw[h]
theorem oV (g gp:Nat) (L:Value) (s:Ah) (st:PS) (w:World) (bo:∀j,j<24->w.cell? ⟨3,j,none⟩=some (vs (A0.getD j []))) (C:3≠g) (hs:s.length<=1000000) (hi:st.i<=s.length) (hr:AE w g 103 (Dt s st gp L)):
  Calls prog 36 #[.pointer (some ⟨g,0,none⟩)] w λe w'=>e= .returned (.tuple #[])/\Ac (λb=>b=g) w w'/\AE w' g 103 (Dt s (next s st) gp L):=by
 obtain⟨HR,bp,bq⟩:=zq3 hr bo C;clear hr bo C;go_enter func36,ntmps36;go_upto_block 0 with fail;go_cut [] (λD=>Ac (λb=>b=g) w D/\AE D g 103 (Dt s {st with i:=skip blank s st.i} gp L))
 case first=>
  as_aux_lemma=>
   go_wp2_with fail
   go_loopg [] (s.length-st.i) (λk wr=>∃i,k=s.length-i/\st.i<=i/\i<=s.length/\skip blank s i=skip blank s st.i/\Ac (λb=>b=g) w wr/\AE wr g 103 (Dt s {st with i:=i} gp L))
   case atStart=>exact⟨st.i,rfl,Ab _,hi,rfl,Ac.refl _ _,HR.out⟩
   case round=>
    obtain⟨i,u,br,bt,E,bu,a⟩:=hrel;obtain⟨n,z,_⟩:=AX a;have f:=λj=>a.frozen j;obtain⟨m,aD,ba,l⟩:=zq4 u E bu a;clear u E bu a;unfold vs at n;by_cases M:i<s.length
    ·obtain⟨c,J⟩:∃c,s[i]?=some c:=⟨_,Ae M⟩;obtain⟨hx,db⟩:=OC J;obtain⟨hb,bx,bz⟩:=zp3 (mb c) (Lr blank s i c J) (Ay s);have V:=Aa bx;clear bx J;by_cases N:blank c
     ·rw[N]at hb;have dc:0<=RB c:=E9 hb;clear hb;go_wp2_with fail;go_quiet ((go_at_call 68;exact EB (RA c _)));go_wp2;go_roundg (s.length-(i+1))
      case measure=>have:=m.out;omega
      case rel=>
       have W:=Ake (l.out.drewN nq) (i+1);rw[show((i+1:Nat):Int)=(i:Int)+1 from by omega]at W;refine⟨i+1,rfl,by omega,by omega,?_,(ba.out.drewN nq).setCell rfl _,W⟩;have r:=V.out;rw[Al N,aD.out]at r;exact r.symm
     ·have dc:RB c<0:=by simp only[Ts]at N;rw[N]at hb;have:=PC hb;omega
      clear hb;go_wp2_with fail;go_quiet ((go_at_call 68;exact EB (RA c _)));go_wp2;go_meet;have r:=V.out;rw[Ai N,aD.out]at r;rw[r];exact⟨ba.out.drewN _,l.out.drewN _⟩
    ·have F:i=s.length:=by omega
     have be:=M5 blank s i (by simp;omega);rw[aD.out]at be;obtain⟨O,bC⟩:=zq2 be F;clear be F;have bz:=Ay s;have X:decide ((i:Int)<(s.length:Int))=false:=by simp;omega
     go_wp2_with fail;go_quiet (fail);go_wp2;go_meet;rw[O.out];exact⟨ba.out.drewN _,l.out.drewN _⟩
 case rest=>
  obtain⟨u,a⟩:=hcut;obtain⟨eY,bD⟩:=Mn blank s st.i hi;have P:(∀t k,EY s st.i=(t,k)->next s st={st with t:=t,i:=k}):=λt k h=>uI h;have H:=Aa P;have bE:s[skip blank s st.i]?=none\/∃c,s[skip blank s st.i]?=some c:=by
   cases s[skip blank s st.i]? with
   |none=>exact .inl rfl
   |some c=>exact .inr ⟨c,rfl⟩
  obtain⟨dh,m⟩:=zq2 bE u;clear P bE u;obtain⟨n,z,c2,c3,c4,_⟩:=AX a;have f:=λj=>a.frozen j;have h3:=((a.bF 2 (vs Bw)).bF 3 (vs [])).bF 4 (.int .i64 (skip blank s st.i:Nat));have H3:Hid (AE (((wc.setCell ⟨g,2,none⟩ (vs Bw)).setCell ⟨g,3,none⟩ (vs [])).setCell ⟨g,4,none⟩ (.int .i64 (skip blank s st.i:Nat))) g 103 (Dt s {st with i:=skip blank s st.i,t:=⟨Bw,[],skip blank s st.i⟩} gp L)):=h3;clear h3 a;unfold vs at n;go_upto_region 2 with fail;go_cut [] (λD=>Ac (λb=>b=g) w D/\AE D g 103 (Dt s {st with i:=skip blank s st.i,t:=⟨Bw,[],skip blank s st.i⟩} gp L))
  case first=>
   go_wp2;go_meet;exact⟨((m.out.setCell rfl _).setCell rfl _).setCell rfl _,H3.out⟩
  case rest=>
   clear n z c2 c3 c4 f m H3;obtain⟨u,a⟩:=hcut;obtain⟨n,z,c2,c3,c4,_⟩:=AX a;have f:=λj=>a.frozen j;obtain⟨m,l⟩:=zq2 u a;clear u a;have bz:=Ay s;unfold vs at n;simp only at n z c2 c3 c4;rcases dh.out with bf|⟨c,J⟩
   ·have P:=H.out _ _ (uP bf);have G:=Aa P;have di:skip blank s st.i=s.length:=by
     have:s.length<=skip blank s st.i:=by simpa using bf
     omega
    generalize skip blank s st.i=p at*;subst di;clear bf P;go_wp2_with fail;go_quiet (fail);go_wp2;refine AA (Ct rfl _ _ _) rfl ?_;rw[G.out];exact⟨rfl,(m.out.drewN _).setCell rfl _,(l.out.drewN _).bF 2 (vs Eh)⟩
   ·have Y:skip blank s st.i<s.length:=by
     rcases Be (skip blank s st.i) s.length with h|h
     ·exact h
     ·rw[Bl h]at J;cases J
    obtain⟨hx,db⟩:=OC J;have eZ:((skip blank s st.i:Int)==(s.length:Int))=false:=by simp;omega
    cases o:low c with
    |true=>
     have bG:(97:Int)<=(c.toNat:Int)/\(c.toNat:Int)<=122:=by unfold low at o;simp only[Ee,Eu,DW]at o;have W:(97:UInt8).toNat=97:=rfl;have r:(122:UInt8).toNat=122:=rfl;omega
     obtain⟨bG,fa⟩:=bG;have Q:=Aa (uN J o);obtain⟨dj,dm⟩:=Mn low s (skip blank s st.i) (by omega);clear o J;generalize skip blank s st.i=p at*;go_wp2_with fail;go_quiet (fail);go_upto_block 3 with fail;go_cut [2] (λs2 D=>s2= .int .i64 (skip low s p:Nat)/\Ac (λb=>b=g) w D/\AE D g 103 (Dt s {st with i:=p,t:=⟨Bw,[],p⟩} gp L))
     case first=>
      as_aux_lemma=>
       go_wp2_with fail
       go_loopg [2] (s.length-p) (λk s2 wr=>∃i:Nat,k=s.length-i/\p<=i/\i<=s.length/\s2= .int .i64 i/\skip low s i=skip low s p/\Ac (λb=>b=g) w wr/\AE wr g 103 (Dt s {st with i:=p,t:=⟨Bw,[],p⟩} gp L))
       case atStart=>exact⟨p,rfl,Ab _,by omega,rfl,rfl,m.out.drewN _,l.out.drewN _⟩
       case round=>
        clear n z c2 c3 c4 f m l;obtain⟨i,C,br,bt,rfl,E,u,a⟩:=hrel;obtain⟨n,z,c2,c3,c4,_⟩:=AX a;obtain⟨m,l,bh,I⟩:=zq4 u a C E;clear u a C E;unfold vs at n;simp only at n z c2 c3 c4;by_cases M:i<s.length
        ·obtain⟨d,X⟩:∃d,s[i]?=some d:=⟨_,Ae M⟩;obtain⟨hy,dr⟩:=OC X;have R:=Aa (Lr low s i d X);clear X;rcases SX d with⟨q,l1,l2⟩|⟨q,l1⟩|⟨q,l1,l2⟩
         ·have Hl:=Aa q;clear q;go_wp2;go_roundg (s.length-(i+1))
          case measure=>have:=bh.out;omega
          case rel=>
           have r:=R.out;rw[Al Hl.out,I.out]at r;exact⟨i+1,rfl,by omega,by omega,by go_num,r.symm,m.out,l.out⟩
         all_goals
          have Hl:=Aa q;clear q;go_wp2;go_meet;have r:=R.out;rw[Hl.out,Ai (by decide),I.out]at r;rw[r];exact⟨rfl,m.out,l.out⟩
        ·have F:i=s.length:=by omega
         have O:=Aa (M5 low s i (by simp;omega));have bC:=Aa F;clear F;go_wp2;go_meet;have r:=O.out;rw[I.out]at r;rw[r];exact⟨rfl,m.out,l.out⟩
     case rest=>
      clear n z c2 c3 c4 f m l;obtain⟨rfl,u,a⟩:=hcut;obtain⟨n,z,c2,c3,c4,_⟩:=AX a;have f:=λj=>a.frozen j;obtain⟨m,l⟩:=zq2 u a;clear u a;unfold vs at n;simp only at n z c2 c3 c4;have bH:=Gy s p (skip low s p);generalize hE:skip low s p=e at*;clear hE;by_cases T:8<e-p
      ·have bj:(8:Int)<(e:Int)-(p:Int):=by omega
       have q:=Q.out;rw[Al T]at q;have G:=Aa (H.out _ _ q);clear q T;go_wp2;refine AA (Ct rfl _ _ _) rfl ?_;rw[G.out];exact⟨rfl,m.out,l.out⟩
      ·have bj:(e:Int)-(p:Int)<=8:=by omega
       have q:=Q.out;rw[Ai T]at q;have G:=Aa (H.out _ _ q);clear q T;generalize hW:Dk s p e=y at*;clear hW;have bI:=uS y;have U:=Aa bI;clear bI;cases Z:A0.contains y with
       |true=>
        as_aux_lemma=>
         rw[Z]at G U;go_wp2_with fail;go_quiet ((go_at_call 69;exact EB (U.out _ (YH bp.out ((m.out.setCell rfl _).drewN _) bq.out))));go_wp2_with fail
         (refine Ds 14 (by kernel_rfl) (by kernel_rfl) ?_;simp only[Au,AH,Av,AJ];repeat still_step);refine BS ?_
         go_wp2
         (refine Ds 14 (by kernel_rfl) (by kernel_rfl) ?_;simp only[Au,AH,Av,AJ];repeat still_step);refine BS ?_
         go_wp2;go_end0;rw[G.out];refine⟨rfl,?_,?_⟩
         ·repeat' first|with_reducible exact m.out|with_reducible refine Ac.drewN ?_ _|with_reducible refine Ac.drew ?_|with_reducible refine Ac.setCell ?_ (by rfl) _
         ·have v:=(((l.out.bF 2 (vs Cf)).bF 2 (vs y)).bF 3 (vs y)).bF 1 (.int .i64 e);exact AE.of_heap v (by(simp only[C2,Dw,C8,C6];try with_reducible rfl))
       |false=>
        as_aux_lemma=>
         rw[Z]at G U;go_wp2_with fail;go_quiet ((go_at_call 69;exact EB (U.out _ (YH bp.out ((m.out.setCell rfl _).drewN _) bq.out))));go_wp2_with fail
         (refine Ds 14 (by kernel_rfl) (by kernel_rfl) ?_;simp only[Au,AH,Av,AJ];repeat still_step);refine BS ?_
         go_wp2;go_end0;rw[G.out];refine⟨rfl,?_,?_⟩
         ·repeat' first|with_reducible exact m.out|with_reducible refine Ac.drewN ?_ _|with_reducible refine Ac.drew ?_|with_reducible refine Ac.setCell ?_ (by rfl) _
         ·have v:=((l.out.bF 2 (vs Cf)).bF 3 (vs y)).bF 1 (.int .i64 e);exact AE.of_heap v (by(simp only[C2,Dw,C8,C6];try with_reducible rfl))
    |false=>
     have cy:=Aa o;have cz:=SX c;have cD:=Te c;have cL:skip blank s st.i<=s.length:=by omega
     obtain⟨cW,dy,dA⟩:=zq3 (λ(hf:Gn c=true)=>uO J o hf) (λ(hf:Gn c=false) (hp:Ie c=true)=>kJ J o hf hp) (λ(hf:Gn c=false) (hp:Ie c=false)=>pe J o hf hp);obtain⟨dj,dm⟩:=Mn Gn s (skip blank s st.i) cL;have cY:Dk s (skip blank s st.i) (skip blank s st.i+1)=[c]:=by unfold Dk;rw[Xb,B6];have h0:=Ae Y;rw[J]at h0;injection h0 with h0;rw[DK Y,←h0];rfl
     have S:=Gy s (skip blank s st.i) (skip blank s st.i+1);rw[cY]at S;obtain⟨cZ,dB,eg⟩:=zq3 S cz cD;clear o J cz cD cY S;generalize skip blank s st.i=p at*;go_wp2_with fail;go_quiet (fail);go_upto_region 7 with fail;go_cut [66] (λx D=>x= .bool false/\Ac (λb=>b=g) w D/\AE D g 103 (Dt s {st with i:=p,t:=⟨Bw,[],p⟩} gp L))
     case first=>
      rcases dB.out with⟨h,_⟩|⟨_,W⟩|⟨_,W,r⟩
      ·rw[cy.out]at h;cases h
      ·go_wp2;go_meet;exact⟨rfl,m.out.drewN _,l.out.drewN _⟩
      ·go_wp2;go_meet;exact⟨by rw[Ck (by omega)],m.out.drewN _,l.out.drewN _⟩
     case rest=>
      clear n z c2 c3 c4 f m l;obtain⟨rfl,u,a⟩:=hcut;obtain⟨n,z,c2,c3,c4,_⟩:=AX a;have f:=λj=>a.frozen j;obtain⟨m,l⟩:=zq2 u a;clear u a;unfold vs at n;simp only at n z c2 c3 c4;go_upto_region 14 with fail;go_cut [137] (λx D=>x= .bool (Gn c)/\Ac (λb=>b=g) w D/\AE D g 103 (Dt s {st with i:=p,t:=⟨Bw,[],p⟩} gp L))
      case first=>
       rcases eg.out with⟨h,W,r⟩|⟨h,W⟩|⟨h,W,r⟩
       all_goals
        have eF:=Aa h;clear h;go_wp2;go_meet;rw[eF.out];refine⟨?_,m.out,l.out⟩
        first|with_reducible rfl|rw[Ck (by omega)]
      case rest=>
       clear n z c2 c3 c4 f m l;obtain⟨rfl,u,a⟩:=hcut;obtain⟨n,z,c2,c3,c4,_⟩:=AX a;have f:=λj=>a.frozen j;obtain⟨m,l⟩:=zq2 u a;clear u a;unfold vs at n;simp only at n z c2 c3 c4;cases A:Gn c with
       |true=>
        have Q:=Aa (cW.out A);clear A;go_upto_block 5 with fail;go_cut [2] (λs2 D=>s2= .int .i64 (skip Gn s p:Nat)/\Ac (λb=>b=g) w D/\AE D g 103 (Dt s {st with i:=p,t:=⟨Bw,[],p⟩} gp L))
        case first=>
         as_aux_lemma=>
          go_wp2_with fail
          go_loopg [2] (s.length-p) (λk s2 wr=>∃i:Nat,k=s.length-i/\p<=i/\i<=s.length/\s2= .int .i64 i/\skip Gn s i=skip Gn s p/\Ac (λb=>b=g) w wr/\AE wr g 103 (Dt s {st with i:=p,t:=⟨Bw,[],p⟩} gp L))
          case atStart=>exact⟨p,rfl,Ab _,by omega,rfl,rfl,m.out,l.out⟩
          case round=>
           clear n z c2 c3 c4 f m l;obtain⟨i,C,br,bt,rfl,E,u,a⟩:=hrel;obtain⟨n,z,c2,c3,c4,_⟩:=AX a;obtain⟨m,l,bh,I⟩:=zq4 u a C E;clear u a C E;unfold vs at n;simp only at n z c2 c3 c4;by_cases M:i<s.length
           ·obtain⟨d,X⟩:∃d,s[i]?=some d:=⟨_,Ae M⟩;obtain⟨hy,dr⟩:=OC X;have R:=Aa (Lr Gn s i d X);clear X;rcases Te d with⟨q,l1,l2⟩|⟨q,l1⟩|⟨q,l1,l2⟩
            ·have Hl:=Aa q;clear q;go_wp2;go_roundg (s.length-(i+1))
             case measure=>have:=bh.out;omega
             case rel=>
              have r:=R.out;rw[Al Hl.out,I.out]at r;exact⟨i+1,rfl,by omega,by omega,by go_num,r.symm,m.out,l.out⟩
            all_goals
             have Hl:=Aa q;clear q;go_wp2;go_meet;have r:=R.out;rw[Hl.out,Ai (by decide),I.out]at r;rw[r];exact⟨rfl,m.out,l.out⟩
           ·have F:i=s.length:=by omega
            have O:=Aa (M5 Gn s i (by simp;omega));have bC:=Aa F;clear F;go_wp2;go_meet;have r:=O.out;rw[I.out]at r;rw[r];exact⟨rfl,m.out,l.out⟩
        case rest=>
         as_aux_lemma=>
          clear n z c2 c3 c4 f m l;obtain⟨rfl,u,a⟩:=hcut;obtain⟨n,z,c2,c3,c4,_⟩:=AX a;have f:=λj=>a.frozen j;obtain⟨m,l⟩:=zq2 u a;clear u a;unfold vs at n;simp only at n z c2 c3 c4;have bH:=Gy s p (skip Gn s p);generalize hE:skip Gn s p=e at*;clear hE;by_cases T:3<e-p
          ·have bj:(3:Int)<(e:Int)-(p:Int):=by omega
           have q:=Q.out;rw[Al T]at q;have G:=Aa (H.out _ _ q);clear q T;go_wp2;refine AA (Ct rfl _ _ _) rfl ?_;rw[G.out];exact⟨rfl,m.out,l.out⟩
          ·have bj:(e:Int)-(p:Int)<=3:=by omega
           have q:=Q.out;rw[Ai T]at q;have G:=Aa (H.out _ _ q);clear q T;generalize hW:Dk s p e=y at*;clear hW;go_wp2_with fail
           (refine Ds 14 (by kernel_rfl) (by kernel_rfl) ?_;simp only[Au,AH,Av,AJ];repeat still_step);refine BS ?_
           go_wp2;go_end0;rw[G.out];refine⟨rfl,?_,?_⟩
           ·repeat' first|with_reducible exact m.out|with_reducible refine Ac.drewN ?_ _|with_reducible refine Ac.drew ?_|with_reducible refine Ac.setCell ?_ (by rfl) _
           ·have v:=((l.out.bF 2 (vs Bv)).bF 3 (vs y)).bF 1 (.int .i64 e);exact AE.of_heap v (by(simp only[C2,Dw,C8,C6];try with_reducible rfl))
       |false=>
        obtain⟨K,bH⟩:=zp2 (km c) cZ.out;have eG:(p:Int)+1<=(s.length:Int):=by omega
        have eV:(p:Int)<=(p:Int)+1:=by omega
        cases B:Ie c with
        |true=>
         as_aux_lemma=>
          have G:=Aa (H.out _ _ (dy.out A B));rw[B]at K;have bD:0<=Rz c:=E9 K;clear A B K;go_wp2_with (go_at_call 68;refine(Ry c _).mono ?_;rintro e w' ⟨rfl,rfl⟩)
          (refine Ds 14 (by kernel_rfl) (by kernel_rfl) ?_;simp only[Au,AH,Av,AJ];repeat still_step);refine BS ?_
          go_wp2
          (refine Ds 14 (by kernel_rfl) (by kernel_rfl) ?_;simp only[Au,AH,Av,AJ];repeat still_step);refine BS ?_
          go_wp2;go_end0;rw[G.out];refine⟨rfl,?_,?_⟩
          ·repeat' first|with_reducible exact m.out|with_reducible refine Ac.drewN ?_ _|with_reducible refine Ac.drew ?_|with_reducible refine Ac.setCell ?_ (by rfl) _
          ·have v:=((l.out.bF 2 (vs [c])).bF 3 (vs [c])).bF 1 (.int .i64 (p+1:Nat));rw[show((p+1:Nat):Int)=(p:Int)+1 from by omega]at v;exact AE.of_heap v (by(simp only[C2,Dw,C8,C6];try with_reducible rfl))
        |false=>
         as_aux_lemma=>
          have G:=Aa (H.out _ _ (dA.out A B));rw[B]at K;have bD:Rz c<0:=by have:=PC K;omega
          clear A B K;go_wp2_with (go_at_call 68;refine(Ry c _).mono ?_;rintro e w' ⟨rfl,rfl⟩);refine AA (Ct rfl _ _ _) rfl ?_;rw[G.out];exact⟨rfl,m.out,l.out⟩
end Go.Proofs.YtepoejiigmhlbaaGreatDoor.Ev
