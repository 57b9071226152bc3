/- Lemmas for a law's walk. Conditions: none. -/
import Derived.Test.YtodkkholbjeioaaGreatDoorZu05
set_option linter.all false
set_option maxRecDepth 100000
set_option maxHeartbeats 8000000
namespace Go.Proofs.YtodkkholbjeioaaGreatDoor.Ev
open _root_.Go.Proofs.Tryz
open Go Go.RowKit
def Si (c:UInt8):Int:=Lib.indexByte [32,10] c
def Sg (c:UInt8):Int:=Lib.indexByte [59,123,125,60] c
theorem Sh (c:UInt8) (w:World):Calls prog 110 #[.string ⟨#[32,10]⟩,.int .u8 c.toNat] w λe w'=>e= .returned (.int .i64 (Si c))/\w'=w:=by have h:=Tryz.strings_IndexByte ⟨#[32,10]⟩ (c.toNat:Int) w;simp at h;exact h
theorem Sf (c:UInt8) (w:World):Calls prog 110 #[.string ⟨#[59,123,125,60]⟩,.int .u8 c.toNat] w λe w'=>e= .returned (.int .i64 (Sg c))/\w'=w:=by have h:=Tryz.strings_IndexByte ⟨#[59,123,125,60]⟩ (c.toNat:Int) w;simp at h;exact h
theorem mL (c:UInt8):decide (0<=Si c)=blank c:=by
 unfold blank Si;by_cases a:c=32
 ·subst a;rfl
 ·by_cases b:c=10
  ·subst b;rfl
  ·have e1:((32:UInt8)==c)=false:=by simpa using λe=>a e.symm
   have d:((10:UInt8)==c)=false:=by simpa using λe=>b e.symm
   simp[Lib.indexByte,e1,d,a,b]
theorem AZ {w:World}{g gp:Nat}{a:Value}{s:Ah}{st:PS}(h:AF w g 190 (Dv s st gp a)):
  w.cell? ⟨g,0,none⟩=some (vs s)/\w.cell? ⟨g,1,none⟩=some (.int .i64 st.i)/\w.cell? ⟨g,2,none⟩=some (vs st.t.kind)/\w.cell? ⟨g,3,none⟩=some (vs st.t.text)/\w.cell? ⟨g,4,none⟩=some (.int .i64 st.t.pos)/\
  w.cell? ⟨g,5,none⟩=some (.pointer (some ⟨gp,0,none⟩))/\w.cell? ⟨g,6,none⟩=some (.bool st.bX)/\w.cell? ⟨g,7,none⟩=some (.int .i64 st.depth)/\w.cell? ⟨g,8,none⟩=some (.int .i64 st.loops)/\w.cell? ⟨g,9,none⟩=some a:=
 ⟨h.cell 0,h.cell 1,h.cell 2,h.cell 3,h.cell 4,h.cell 5,h.cell 6,h.cell 7,h.cell 8,h.cell 9⟩
theorem Ak4 {w:World}{g gp:Nat}{a:Value}{s:Ah}{st:PS}(h:AF w g 190 (Dv s st gp a)) (i:Nat):
  AF (w.setCell ⟨g,1,none⟩ (.int .i64 i)) g 190 (Dv s {st with i:=i} gp a):=h.bM 1 _
theorem OY {s:Ah}{i:Nat}{c:UInt8}(h:s[i]?=some c):∃a:i<(ByteArray.mk s.toArray).size,(ByteArray.mk s.toArray)[i]=c:=by obtain⟨a,b⟩:=Aj.1 h;exact⟨by rw[Ay];exact a,by rw[←b];rfl⟩
theorem kV (c:UInt8):decide (0<=Sg c)=Im c:=by
 unfold Im Sg;by_cases a:c=59
 ·subst a;rfl
 ·by_cases b:c=123
  ·subst b;rfl
  ·by_cases d:c=125
   ·subst d;rfl
   ·by_cases f:c=60
    ·subst f;rfl
    ·have e1:((59:UInt8)==c)=false:=by simpa using λe=>a e.symm
     have g:((123:UInt8)==c)=false:=by simpa using λe=>b e.symm
     have h:((125:UInt8)==c)=false:=by simpa using λe=>d e.symm
     have i:((60:UInt8)==c)=false:=by simpa using λe=>f e.symm
     simp[Lib.indexByte,e1,g,h,i,a,b,d,f]
theorem vL (x:Ah) (w:World) (d:∀j,j<24->w.cell? ⟨14,j,none⟩=some (vs (A3.getD j []))):
  Calls prog 111 #[.slice (some ⟨14,0,none⟩) 24 24,.string ⟨x.toArray⟩] w λe w'=>e= .returned (.bool (A3.contains x))/\w'=w:=by
 have h:=Tryz.slices_Contains_string 14 0 24 24 (A3.map λk=>⟨k.toArray⟩) ⟨x.toArray⟩ w (by decide) (by decide) (λj f=>by
  have a:j<24:=f;rw[DK,d j a];unfold vs;congr 2;simp only[List.getD_eq_getElem?_getD,At];have:j<A3.length:=a;rw[Ae this];rfl)
 have e:Lib.containsS ((A3.map λk=>(⟨k.toArray⟩:ByteArray)).take 24) ⟨x.toArray⟩=A3.contains x:=by
  rw[GH,Lib.containsS_iff,CP];have c:(A3.map λk=>(⟨k.toArray⟩:ByteArray)).length=24:=rfl;rw[List.take_of_length_le (by rw[c];exact Ab _),AE];constructor
  ·rintro⟨k,g,i⟩;have:k=x:=by have l:=AH (λb:ByteArray=>b.data.toList) i;simpa using l
   exact this▸g
  ·intro m;exact⟨x,m,rfl⟩
 rw[e]at h;exact h
theorem Ts (c:UInt8):(low c=true/\(97:Int)<=(c.toNat:Int)/\(c.toNat:Int)<=122)\/(low c=false/\(c.toNat:Int)<97)\/(low c=false/\(97:Int)<=(c.toNat:Int)/\(122:Int)<(c.toNat:Int)):=by unfold low;simp only[Eh,Ey,DZ,Bool.and_eq_false_iff,decide_eq_false_iff_not];have a:(97:UInt8).toNat=97:=rfl;have b:(122:UInt8).toNat=122:=rfl;omega
theorem TF (c:UInt8):(Gq c=true/\(48:Int)<=(c.toNat:Int)/\(c.toNat:Int)<=57)\/(Gq c=false/\(c.toNat:Int)<48)\/(Gq c=false/\(48:Int)<=(c.toNat:Int)/\(57:Int)<(c.toNat:Int)):=by unfold Gq;simp only[Eh,Ey,DZ,Bool.and_eq_false_iff,decide_eq_false_iff_not];have a:(48:UInt8).toNat=48:=rfl;have b:(57:UInt8).toNat=57:=rfl;omega
theorem Zb {S:Nat->Prop}{w w':World}(h:∀j,j<24->w.cell? ⟨14,j,none⟩=some (vs (A3.getD j []))) (a:Ac S w w') (b:¬S 14):
  ∀j,j<24->w'.cell? ⟨14,j,none⟩=some (vs (A3.getD j [])):=λj c=>(a.cell (p:=⟨14,j,none⟩) b).trans (h j c)
theorem GA (s:Ah) (i k:Nat):(ByteArray.mk s.toArray).extract i k=⟨(Dm s i k).toArray⟩:=by
 have h:((ByteArray.mk s.toArray).extract i k).data=(Dm s i k).toArray:=by simp[ByteArray.data_extract,Dm,List.extract_eq_take_drop,XF]
 cases a:(ByteArray.mk s.toArray).extract i k with
 |mk d=>rw[a]at h;simp only at h;rw[h]
theorem AF.of_heap {w w':World}{g:Nat}{t:TypeId}{cs:List Value}(h:AF w g t cs) (a:w'.heap=w.heap):AF w' g t cs:=by unfold AF at h ⊢;rw[a];exact h
theorem vI {s:Ah}{i:Nat}(h:s[skip blank s i]?=none):E9 s i=(⟨Ek,[],skip blank s i⟩,skip blank s i):=by unfold E9;simp only[h]
theorem vG {s:Ah}{i:Nat}{c:UInt8}(h:s[skip blank s i]?=some c) (a:low c=true):E9 s i=
  if 8<skip low s (skip blank s i)-skip blank s i then(⟨Bx,[],skip blank s i⟩,skip blank s i)
  else(⟨if A3.contains (Dm s (skip blank s i) (skip low s (skip blank s i)))then Dm s (skip blank s i) (skip low s (skip blank s i))else Ch,Dm s (skip blank s i) (skip low s (skip blank s i)),skip blank s i⟩,skip low s (skip blank s i)):=by
 unfold E9;simp only[h,a,A7]
theorem vH {s:Ah}{i:Nat}{c:UInt8}(h:s[skip blank s i]?=some c) (a:low c=false) (b:Gq c=true):E9 s i=
  if 3<skip Gq s (skip blank s i)-skip blank s i then(⟨Bx,[],skip blank s i⟩,skip blank s i)
  else(⟨Bw,Dm s (skip blank s i) (skip Gq s (skip blank s i)),skip blank s i⟩,skip Gq s (skip blank s i)):=by
 unfold E9;simp only[h,b,a,A7,Ap,A8]
theorem lx {s:Ah}{i:Nat}{c:UInt8}(h:s[skip blank s i]?=some c) (a:low c=false) (b:Gq c=false) (d:Im c=true):
  E9 s i=(⟨[c],[c],skip blank s i⟩,skip blank s i+1):=by
 unfold E9;simp only[h,d,a,b,A7,Ap,A8]
theorem pQ {s:Ah}{i:Nat}{c:UInt8}(h:s[skip blank s i]?=some c) (a:low c=false) (b:Gq c=false) (d:Im c=false):
  E9 s i=(⟨Bx,[],skip blank s i⟩,skip blank s i):=by
 unfold E9;simp only[h,d,a,b,Ap,A8]
theorem vA {s:Ah}{st:PS}{t:M9}{k:Nat}(h:E9 s st.i=(t,k)):next s st={st with t:=t,i:=k}:=by unfold next;rw[h]
theorem pH (g gp:Nat) (L:Value) (s:Ah) (st:PS) (w:World) (bR:∀j,j<24->w.cell? ⟨14,j,none⟩=some (vs (A3.getD j []))) (C:14≠g) (hs:s.length<=1000000) (hi:st.i<=s.length) (hr:AF w g 190 (Dv s st gp L)):
  Calls prog 72 #[.pointer (some ⟨g,0,none⟩)] w λe w'=>e= .returned (.tuple #[])/\Ac (λb=>b=g) w w'/\AF w' g 190 (Dv s (next s st) gp L):=by
 obtain⟨HR,bS,bT⟩:=zq3 hr bR C;clear hr bR C;go_enter func72,ntmps72;go_upto_block 0 with fail;go_cut [] (λD=>Ac (λb=>b=g) w D/\AF D g 190 (Dv s {st with i:=skip blank s st.i} gp L))
 case first=>
  as_aux_lemma=>
   go_wp2_with fail
   go_loopg [] (s.length-st.i) (λk wr=>∃i,k=s.length-i/\st.i<=i/\i<=s.length/\skip blank s i=skip blank s st.i/\Ac (λb=>b=g) w wr/\AF wr g 190 (Dv s {st with i:=i} gp L))
   case atStart=>exact⟨st.i,rfl,Ab _,hi,rfl,Ac.refl _ _,HR.out⟩
   case round=>
    obtain⟨i,u,bU,bV,E,bW,a⟩:=hrel;obtain⟨n,z,_⟩:=AZ a;have f:=λj=>a.frozen j;obtain⟨m,be,bI,l⟩:=zq4 u E bW a;clear u E bW a;unfold vs at n;by_cases M:i<s.length
    ·obtain⟨c,J⟩:∃c,s[i]?=some c:=⟨_,Ae M⟩;obtain⟨hx,dJ⟩:=OY J;obtain⟨hb,bX,bY⟩:=zp3 (mL c) (LC blank s i c J) (Ay s);have V:=Aa bX;clear bX J;by_cases N:blank c
     ·rw[N]at hb;have dK:0<=Si c:=Cm hb;clear hb;go_wp2_with fail;go_quiet ((go_at_call 110;exact EF (Sh c _)));go_wp2;go_roundg (s.length-(i+1))
      case measure=>have:=m.out;omega
      case rel=>
       have W:=Ak4 (l.out.drewN nq) (i+1);rw[show((i+1:Nat):Int)=(i:Int)+1 from by omega]at W;refine⟨i+1,rfl,by omega,by omega,?_,(bI.out.drewN nq).setCell rfl _,W⟩;have r:=V.out;rw[Al N,be.out]at r;exact r.symm
     ·have dK:Si c<0:=by simp only[TV]at N;rw[N]at hb;have:=P3 hb;omega
      clear hb;go_wp2_with fail;go_quiet ((go_at_call 110;exact EF (Sh c _)));go_wp2;go_meet;have r:=V.out;rw[Ai N,be.out]at r;rw[r];exact⟨bI.out.drewN _,l.out.drewN _⟩
    ·have F:i=s.length:=by omega
     have bJ:=Nm blank s i (by simp;omega);rw[be.out]at bJ;obtain⟨O,bZ⟩:=zq2 bJ F;clear bJ F;have bY:=Ay s;have X:decide ((i:Int)<(s.length:Int))=false:=by simp;omega
     go_wp2_with fail;go_quiet (fail);go_wp2;go_meet;rw[O.out];exact⟨bI.out.drewN _,l.out.drewN _⟩
 case rest=>
  obtain⟨u,a⟩:=hcut;obtain⟨fH,ci⟩:=MC blank s st.i hi;have P:(∀t k,E9 s st.i=(t,k)->next s st={st with t:=t,i:=k}):=λt k h=>vA h;have H:=Aa P;have cj:s[skip blank s st.i]?=none\/∃c,s[skip blank s st.i]?=some c:=by
   cases s[skip blank s st.i]? with
   |none=>exact .inl rfl
   |some c=>exact .inr ⟨c,rfl⟩
  obtain⟨dL,m⟩:=zq2 cj u;clear P cj u;obtain⟨n,z,c2,c3,c4,_⟩:=AZ a;have f:=λj=>a.frozen j;have h3:=((a.bM 2 (vs Bx)).bM 3 (vs [])).bM 4 (.int .i64 (skip blank s st.i:Nat));have H3:Hid (AF (((wc.setCell ⟨g,2,none⟩ (vs Bx)).setCell ⟨g,3,none⟩ (vs [])).setCell ⟨g,4,none⟩ (.int .i64 (skip blank s st.i:Nat))) g 190 (Dv s {st with i:=skip blank s st.i,t:=⟨Bx,[],skip blank s st.i⟩} gp L)):=h3;clear h3 a;unfold vs at n;go_upto_region 2 with fail;go_cut [] (λD=>Ac (λb=>b=g) w D/\AF D g 190 (Dv s {st with i:=skip blank s st.i,t:=⟨Bx,[],skip blank s st.i⟩} gp L))
  case first=>
   go_wp2;go_meet;exact⟨((m.out.setCell rfl _).setCell rfl _).setCell rfl _,H3.out⟩
  case rest=>
   clear n z c2 c3 c4 f m H3;obtain⟨u,a⟩:=hcut;obtain⟨n,z,c2,c3,c4,_⟩:=AZ a;have f:=λj=>a.frozen j;obtain⟨m,l⟩:=zq2 u a;clear u a;have bY:=Ay s;unfold vs at n;simp only at n z c2 c3 c4;rcases dL.out with bK|⟨c,J⟩
   ·have P:=H.out _ _ (vI bK);have G:=Aa P;have dN:skip blank s st.i=s.length:=by
     have:s.length<=skip blank s st.i:=by simpa using bK
     omega
    generalize skip blank s st.i=p at*;subst dN;clear bK P;go_wp2_with fail;go_quiet (fail);go_wp2;refine AB (Cu rfl _ _ _) rfl ?_;rw[G.out];exact⟨rfl,(m.out.drewN _).setCell rfl _,(l.out.drewN _).bM 2 (vs Ek)⟩
   ·have Y:skip blank s st.i<s.length:=by
     rcases Be (skip blank s st.i) s.length with h|h
     ·exact h
     ·rw[Bl h]at J;cases J
    obtain⟨hx,dJ⟩:=OY J;have fJ:((skip blank s st.i:Int)==(s.length:Int))=false:=by simp;omega
    cases o:low c with
    |true=>
     have cu:(97:Int)<=(c.toNat:Int)/\(c.toNat:Int)<=122:=by unfold low at o;simp only[Eh,Ey,DZ]at o;have W:(97:UInt8).toNat=97:=rfl;have r:(122:UInt8).toNat=122:=rfl;omega
     obtain⟨cu,fK⟩:=cu;have Q:=Aa (vG J o);obtain⟨dO,dP⟩:=MC low s (skip blank s st.i) (by omega);clear o J;generalize skip blank s st.i=p at*;go_wp2_with fail;go_quiet (fail);go_upto_block 3 with fail;go_cut [2] (λs2 D=>s2= .int .i64 (skip low s p:Nat)/\Ac (λb=>b=g) w D/\AF D g 190 (Dv s {st with i:=p,t:=⟨Bx,[],p⟩} gp L))
     case first=>
      as_aux_lemma=>
       go_wp2_with fail
       go_loopg [2] (s.length-p) (λk s2 wr=>∃i:Nat,k=s.length-i/\p<=i/\i<=s.length/\s2= .int .i64 i/\skip low s i=skip low s p/\Ac (λb=>b=g) w wr/\AF wr g 190 (Dv s {st with i:=p,t:=⟨Bx,[],p⟩} gp L))
       case atStart=>exact⟨p,rfl,Ab _,by omega,rfl,rfl,m.out.drewN _,l.out.drewN _⟩
       case round=>
        clear n z c2 c3 c4 f m l;obtain⟨i,C,bU,bV,rfl,E,u,a⟩:=hrel;obtain⟨n,z,c2,c3,c4,_⟩:=AZ a;obtain⟨m,l,bN,I⟩:=zq4 u a C E;clear u a C E;unfold vs at n;simp only at n z c2 c3 c4;by_cases M:i<s.length
        ·obtain⟨d,X⟩:∃d,s[i]?=some d:=⟨_,Ae M⟩;obtain⟨hy,dQ⟩:=OY X;have R:=Aa (LC low s i d X);clear X;rcases Ts d with⟨q,l1,l2⟩|⟨q,l1⟩|⟨q,l1,l2⟩
         ·have Hl:=Aa q;clear q;go_wp2;go_roundg (s.length-(i+1))
          case measure=>have:=bN.out;omega
          case rel=>
           have r:=R.out;rw[Al Hl.out,I.out]at r;exact⟨i+1,rfl,by omega,by omega,by go_num,r.symm,m.out,l.out⟩
         all_goals
          have Hl:=Aa q;clear q;go_wp2;go_meet;have r:=R.out;rw[Hl.out,Ai (by decide),I.out]at r;rw[r];exact⟨rfl,m.out,l.out⟩
        ·have F:i=s.length:=by omega
         have O:=Aa (Nm low s i (by simp;omega));have bZ:=Aa F;clear F;go_wp2;go_meet;have r:=O.out;rw[I.out]at r;rw[r];exact⟨rfl,m.out,l.out⟩
     case rest=>
      clear n z c2 c3 c4 f m l;obtain⟨rfl,u,a⟩:=hcut;obtain⟨n,z,c2,c3,c4,_⟩:=AZ a;have f:=λj=>a.frozen j;obtain⟨m,l⟩:=zq2 u a;clear u a;unfold vs at n;simp only at n z c2 c3 c4;have cw:=GA s p (skip low s p);generalize hE:skip low s p=e at*;clear hE;by_cases T:8<e-p
      ·have bP:(8:Int)<(e:Int)-(p:Int):=by omega
       have q:=Q.out;rw[Al T]at q;have G:=Aa (H.out _ _ q);clear q T;go_wp2;refine AB (Cu rfl _ _ _) rfl ?_;rw[G.out];exact⟨rfl,m.out,l.out⟩
      ·have bP:(e:Int)-(p:Int)<=8:=by omega
       have q:=Q.out;rw[Ai T]at q;have G:=Aa (H.out _ _ q);clear q T;generalize hW:Dm s p e=y at*;clear hW;have cy:=vL y;have U:=Aa cy;clear cy;cases Z:A3.contains y with
       |true=>
        as_aux_lemma=>
         rw[Z]at G U;go_wp2_with fail;go_quiet ((go_at_call 111;exact EF (U.out _ (Zb bS.out ((m.out.setCell rfl _).drewN _) bT.out))));go_wp2_with fail
         (refine Du 14 (by kernel_rfl) (by kernel_rfl) ?_;simp only[Au,AI,Av,AK];repeat still_step);refine BT ?_
         go_wp2
         (refine Du 14 (by kernel_rfl) (by kernel_rfl) ?_;simp only[Au,AI,Av,AK];repeat still_step);refine BT ?_
         go_wp2;go_end0;rw[G.out];refine⟨rfl,?_,?_⟩
         ·repeat' first|with_reducible exact m.out|with_reducible refine Ac.drewN ?_ _|with_reducible refine Ac.drew ?_|with_reducible refine Ac.setCell ?_ (by rfl) _
         ·have v:=(((l.out.bM 2 (vs Ch)).bM 2 (vs y)).bM 3 (vs y)).bM 1 (.int .i64 e);exact AF.of_heap v (by(simp only[C4,Dy,Da,C8];try with_reducible rfl))
       |false=>
        as_aux_lemma=>
         rw[Z]at G U;go_wp2_with fail;go_quiet ((go_at_call 111;exact EF (U.out _ (Zb bS.out ((m.out.setCell rfl _).drewN _) bT.out))));go_wp2_with fail
         (refine Du 14 (by kernel_rfl) (by kernel_rfl) ?_;simp only[Au,AI,Av,AK];repeat still_step);refine BT ?_
         go_wp2;go_end0;rw[G.out];refine⟨rfl,?_,?_⟩
         ·repeat' first|with_reducible exact m.out|with_reducible refine Ac.drewN ?_ _|with_reducible refine Ac.drew ?_|with_reducible refine Ac.setCell ?_ (by rfl) _
         ·have v:=((l.out.bM 2 (vs Ch)).bM 3 (vs y)).bM 1 (.int .i64 e);exact AF.of_heap v (by(simp only[C4,Dy,Da,C8];try with_reducible rfl))
    |false=>
     have cz:=Aa o;have cB:=Ts c;have cZ:=TF c;have da:skip blank s st.i<=s.length:=by omega
     obtain⟨dd,dU,dW⟩:=zq3 (λ(hf:Gq c=true)=>vH J o hf) (λ(hf:Gq c=false) (hp:Im c=true)=>lx J o hf hp) (λ(hf:Gq c=false) (hp:Im c=false)=>pQ J o hf hp);obtain⟨dO,dP⟩:=MC Gq s (skip blank s st.i) da;have dG:Dm s (skip blank s st.i) (skip blank s st.i+1)=[c]:=by unfold Dm;rw[XF,B7];have h0:=Ae Y;rw[J]at h0;injection h0 with h0;rw[DO Y,←h0];rfl
     have S:=GA s (skip blank s st.i) (skip blank s st.i+1);rw[dG]at S;obtain⟨dH,dX,fc⟩:=zq3 S cB cZ;clear o J cB cZ dG S;generalize skip blank s st.i=p at*;go_wp2_with fail;go_quiet (fail);go_upto_region 7 with fail;go_cut [66] (λx D=>x= .bool false/\Ac (λb=>b=g) w D/\AF D g 190 (Dv s {st with i:=p,t:=⟨Bx,[],p⟩} gp L))
     case first=>
      rcases dX.out with⟨h,_⟩|⟨_,W⟩|⟨_,W,r⟩
      ·rw[cz.out]at h;cases h
      ·go_wp2;go_meet;exact⟨rfl,m.out.drewN _,l.out.drewN _⟩
      ·go_wp2;go_meet;exact⟨by rw[B9 (by omega)],m.out.drewN _,l.out.drewN _⟩
     case rest=>
      clear n z c2 c3 c4 f m l;obtain⟨rfl,u,a⟩:=hcut;obtain⟨n,z,c2,c3,c4,_⟩:=AZ a;have f:=λj=>a.frozen j;obtain⟨m,l⟩:=zq2 u a;clear u a;unfold vs at n;simp only at n z c2 c3 c4;go_upto_region 14 with fail;go_cut [137] (λx D=>x= .bool (Gq c)/\Ac (λb=>b=g) w D/\AF D g 190 (Dv s {st with i:=p,t:=⟨Bx,[],p⟩} gp L))
      case first=>
       rcases fc.out with⟨h,W,r⟩|⟨h,W⟩|⟨h,W,r⟩
       all_goals
        have fd:=Aa h;clear h;go_wp2;go_meet;rw[fd.out];refine⟨?_,m.out,l.out⟩
        first|with_reducible rfl|rw[B9 (by omega)]
      case rest=>
       clear n z c2 c3 c4 f m l;obtain⟨rfl,u,a⟩:=hcut;obtain⟨n,z,c2,c3,c4,_⟩:=AZ a;have f:=λj=>a.frozen j;obtain⟨m,l⟩:=zq2 u a;clear u a;unfold vs at n;simp only at n z c2 c3 c4;cases A:Gq c with
       |true=>
        have Q:=Aa (dd.out A);clear A;go_upto_block 5 with fail;go_cut [2] (λs2 D=>s2= .int .i64 (skip Gq s p:Nat)/\Ac (λb=>b=g) w D/\AF D g 190 (Dv s {st with i:=p,t:=⟨Bx,[],p⟩} gp L))
        case first=>
         as_aux_lemma=>
          go_wp2_with fail
          go_loopg [2] (s.length-p) (λk s2 wr=>∃i:Nat,k=s.length-i/\p<=i/\i<=s.length/\s2= .int .i64 i/\skip Gq s i=skip Gq s p/\Ac (λb=>b=g) w wr/\AF wr g 190 (Dv s {st with i:=p,t:=⟨Bx,[],p⟩} gp L))
          case atStart=>exact⟨p,rfl,Ab _,by omega,rfl,rfl,m.out,l.out⟩
          case round=>
           clear n z c2 c3 c4 f m l;obtain⟨i,C,bU,bV,rfl,E,u,a⟩:=hrel;obtain⟨n,z,c2,c3,c4,_⟩:=AZ a;obtain⟨m,l,bN,I⟩:=zq4 u a C E;clear u a C E;unfold vs at n;simp only at n z c2 c3 c4;by_cases M:i<s.length
           ·obtain⟨d,X⟩:∃d,s[i]?=some d:=⟨_,Ae M⟩;obtain⟨hy,dQ⟩:=OY X;have R:=Aa (LC Gq s i d X);clear X;rcases TF d with⟨q,l1,l2⟩|⟨q,l1⟩|⟨q,l1,l2⟩
            ·have Hl:=Aa q;clear q;go_wp2;go_roundg (s.length-(i+1))
             case measure=>have:=bN.out;omega
             case rel=>
              have r:=R.out;rw[Al Hl.out,I.out]at r;exact⟨i+1,rfl,by omega,by omega,by go_num,r.symm,m.out,l.out⟩
            all_goals
             have Hl:=Aa q;clear q;go_wp2;go_meet;have r:=R.out;rw[Hl.out,Ai (by decide),I.out]at r;rw[r];exact⟨rfl,m.out,l.out⟩
           ·have F:i=s.length:=by omega
            have O:=Aa (Nm Gq s i (by simp;omega));have bZ:=Aa F;clear F;go_wp2;go_meet;have r:=O.out;rw[I.out]at r;rw[r];exact⟨rfl,m.out,l.out⟩
        case rest=>
         as_aux_lemma=>
          clear n z c2 c3 c4 f m l;obtain⟨rfl,u,a⟩:=hcut;obtain⟨n,z,c2,c3,c4,_⟩:=AZ a;have f:=λj=>a.frozen j;obtain⟨m,l⟩:=zq2 u a;clear u a;unfold vs at n;simp only at n z c2 c3 c4;have cw:=GA s p (skip Gq s p);generalize hE:skip Gq s p=e at*;clear hE;by_cases T:3<e-p
          ·have bP:(3:Int)<(e:Int)-(p:Int):=by omega
           have q:=Q.out;rw[Al T]at q;have G:=Aa (H.out _ _ q);clear q T;go_wp2;refine AB (Cu rfl _ _ _) rfl ?_;rw[G.out];exact⟨rfl,m.out,l.out⟩
          ·have bP:(e:Int)-(p:Int)<=3:=by omega
           have q:=Q.out;rw[Ai T]at q;have G:=Aa (H.out _ _ q);clear q T;generalize hW:Dm s p e=y at*;clear hW;go_wp2_with fail
           (refine Du 14 (by kernel_rfl) (by kernel_rfl) ?_;simp only[Au,AI,Av,AK];repeat still_step);refine BT ?_
           go_wp2;go_end0;rw[G.out];refine⟨rfl,?_,?_⟩
           ·repeat' first|with_reducible exact m.out|with_reducible refine Ac.drewN ?_ _|with_reducible refine Ac.drew ?_|with_reducible refine Ac.setCell ?_ (by rfl) _
           ·have v:=((l.out.bM 2 (vs Bw)).bM 3 (vs y)).bM 1 (.int .i64 e);exact AF.of_heap v (by(simp only[C4,Dy,Da,C8];try with_reducible rfl))
       |false=>
        obtain⟨K,cw⟩:=zp2 (kV c) dH.out;have fx:(p:Int)+1<=(s.length:Int):=by omega
        have fE:(p:Int)<=(p:Int)+1:=by omega
        cases B:Im c with
        |true=>
         as_aux_lemma=>
          have G:=Aa (H.out _ _ (dU.out A B));rw[B]at K;have ci:0<=Sg c:=Cm K;clear A B K;go_wp2_with (go_at_call 110;refine(Sf c _).mono ?_;rintro e w' ⟨rfl,rfl⟩)
          (refine Du 14 (by kernel_rfl) (by kernel_rfl) ?_;simp only[Au,AI,Av,AK];repeat still_step);refine BT ?_
          go_wp2
          (refine Du 14 (by kernel_rfl) (by kernel_rfl) ?_;simp only[Au,AI,Av,AK];repeat still_step);refine BT ?_
          go_wp2;go_end0;rw[G.out];refine⟨rfl,?_,?_⟩
          ·repeat' first|with_reducible exact m.out|with_reducible refine Ac.drewN ?_ _|with_reducible refine Ac.drew ?_|with_reducible refine Ac.setCell ?_ (by rfl) _
          ·have v:=((l.out.bM 2 (vs [c])).bM 3 (vs [c])).bM 1 (.int .i64 (p+1:Nat));rw[show((p+1:Nat):Int)=(p:Int)+1 from by omega]at v;exact AF.of_heap v (by(simp only[C4,Dy,Da,C8];try with_reducible rfl))
        |false=>
         as_aux_lemma=>
          have G:=Aa (H.out _ _ (dW.out A B));rw[B]at K;have ci:Sg c<0:=by have:=P3 K;omega
          clear A B K;go_wp2_with (go_at_call 110;refine(Sf c _).mono ?_;rintro e w' ⟨rfl,rfl⟩);refine AB (Cu rfl _ _ _) rfl ?_;rw[G.out];exact⟨rfl,m.out,l.out⟩
end Go.Proofs.YtodkkholbjeioaaGreatDoor.Ev
