/- Lemmas for a law's walk. Conditions: none. -/
import Derived.Test.YtodkkholbjeioaaGreatDoorZu28
set_option linter.all false
set_option maxRecDepth 100000
set_option maxHeartbeats 8000000
namespace Go.Proofs.YtodkkholbjeioaaGreatDoor.Ev
open _root_.Go.Proofs.Tryz
open Go Go.RowKit
section
variable {B:Nat}{ea:Nat->Addr}{gx:Nat×Nat}{w:World}{v:Value}{l:List Un}
theorem ab (n:WD B ea gx w) (p:Na w) (h:GZ w v l):Calls prog 6 #[v] w λe q=>e= .returned (.bool true)/\Ac (λb=>w.heap.size<=b) w q:=by
 obtain⟨r,s⟩:=zq2 (Nl h) (λW (j:Ac (λb=>w.heap.size<=b) w W) (t:l.length<=1048576)=>Vh (h.later j) t (only:=6) (by decide) (λH gw o E I u z J m x A C D F=>O0 (n.later j) (p.later j) A C D));obtain⟨a,c,rfl,_⟩:=id h;clear n h p;go_enter xx,ntmps6;go_wp2_with fail;refine r.out.mono ?_;rintro y w1 ⟨b,rfl,i,f⟩;obtain⟨G,d⟩:=zq2 i f;clear i f;cases b with
 |false=>
  go_wp2;go_ret;exact⟨rfl,d.out⟩
 |true=>
  go_wp2_with fail;refine(s.out _ d.out (G.out (by first|rfl|trivial))).mono ?_;rintro y K ⟨rfl,g⟩;have k:=Aa g;clear g;go_wp2;go_ret;exact⟨rfl,d.out.trans (k.out.mono (λb i=>Ad d.out.size i))⟩
end
section
variable {B:Nat}{ea:Nat->Addr}{gx:Nat×Nat}{w:World}{v:Value}{l:List Un}
theorem cX (n:WD B ea gx w) (p:Na w) (h:GZ w v l):Calls prog 7 #[v] w λe q=>e= .returned (.bool true)/\Ac (λb=>w.heap.size<=b) w q:=by
 obtain⟨r,s⟩:=zq2 (Nl h) (λW (j:Ac (λb=>w.heap.size<=b) w W) (t:l.length<=1048576)=>Vh (h.later j) t (only:=7) (by decide) (λH gw o E I u z J m x A C D F=>O0 (n.later j) (p.later j) A C D));obtain⟨a,c,rfl,_⟩:=id h;clear n h p;go_enter xw,ntmps7;go_wp2_with fail;refine r.out.mono ?_;rintro y w1 ⟨b,rfl,i,f⟩;obtain⟨G,d⟩:=zq2 i f;clear i f;cases b with
 |false=>
  go_wp2;go_ret;exact⟨rfl,d.out⟩
 |true=>
  go_wp2_with fail;refine(s.out _ d.out (G.out (by first|rfl|trivial))).mono ?_;rintro y K ⟨rfl,g⟩;have k:=Aa g;clear g;go_wp2;go_ret;exact⟨rfl,d.out.trans (k.out.mono (λb i=>Ad d.out.size i))⟩
end
section
variable {w:World}{v:Value}{l:List Un}{only:Int}
theorem ai (h:GZ w v l) (V:l.length<=1048576) (N:only=0\/only= -1)
  (d:∀(W:World) (gw:Nat) (o:Nat->Nat) (E:List EX) (q:List (Nat×Nat)) (f i:Value) (r:List Value) (m:Nat) (x:Un),LW (λ_=>True) w W gw o E q f i r m->m<=1999999->xE x->
   Calls prog 11 #[.pointer (some ⟨gw,0,none⟩),kZ x] W (Rd w gw m)):
  Calls prog 9 #[v,.int .i64 only] w λy w'=>y= .returned (.int .i64 (-1))/\Ac (λb=>w.heap.size<=b) w w':=by
 obtain⟨a,c,rfl,O,u,_⟩:=id h;have e1:decide (only>0)=false:=B9 (by omega);have J:=LW.start w;obtain⟨H,P,Q⟩:=zq3 h d J;clear h d u J;rcases N with rfl|rfl
 all_goals
  go_enter func9,ntmps9;go_wp2_with fail
  go_loopg [12] l.length (λR z wr=>∃(k:Nat) (o:Nat->Nat) (E:List EX) (q:List (Nat×Nat)) (f i:Value) (r:List Value),k<=l.length/\l.length-k<=R/\z= .int .i64 k/\LW (λ_=>True) w wr w.heap.size o E q f i r k)
  case atStart=>exact⟨0,_,_,_,_,_,_,AM _,by omega,rfl,Q.out⟩
  case round=>
   obtain⟨k,o,E,q,f,i,r,s,X,rfl,t⟩:=hrel;by_cases A:k<l.length
   ·obtain⟨x,K⟩:∃x,l[k]?=some x:=⟨_,Ae A⟩;obtain⟨g,S,rfl,Y,Z,q3,q4,q5,L⟩:=(H.out.later t.kept).at_ K;have e:=λW (s:Ac (λb=>wr.heap.size<=b) wr W)=>t.later s;have B:k<=1999999:=by omega
    obtain⟨C,T⟩:=zq2 e L;clear K t L e;have M:=Aa (λW s=>P.out W _ _ _ _ _ _ _ _ x (C.out W s) B T.out);unfold kZ at M;unfold vs at*;go_wp2_with fail;refine(M.out _ ?_).mono ?_
    ·exact zAr.alloc (Ab _) _
    rintro y w1 ⟨rfl,o',U,D,n,p,F,j⟩;obtain⟨G,I⟩:=zq2 (lr j (by omega)) j;clear j;go_wp2_with fail;refine G.out.mono ?_;rintro y w2 ⟨rfl,rfl⟩;go_wp2;go_roundg (l.length-(k+1))
    case measure=>omega
    case rel=>exact⟨k+1,o',U,D,n,p,F,by omega,by omega,by go_num,I.out⟩
   ·go_wp2;go_ret;exact⟨rfl,t.kept⟩
end
section
variable {B:Nat}{ea:Nat->Addr}{gx:Nat×Nat}{w:World}{v:Value}{l:List Un}
theorem sn (n:WD B ea gx w) (p:Na w) (h:GZ w v l):Calls prog 4 #[v] w λe q=>e= .returned (.bool true)/\Ac (λb=>w.heap.size<=b) w q:=by
 obtain⟨r,s⟩:=zq2 (Nl h) (λW (j:Ac (λb=>w.heap.size<=b) w W) (t:l.length<=1048576)=>ai (h.later j) t (.inl rfl) (λG gw o E H u z I m x A C D=>O0 (n.later j) (p.later j) A C D));obtain⟨a,c,rfl,_⟩:=id h;clear n h p;go_enter xz,ntmps4;go_wp2_with fail;refine r.out.mono ?_;rintro y w1 ⟨b,rfl,i,f⟩;obtain⟨F,d⟩:=zq2 i f;clear i f;cases b with
 |false=>
  go_wp2;go_ret;exact⟨rfl,d.out⟩
 |true=>
  go_wp2_with fail;refine(s.out _ d.out (F.out (by first|rfl|trivial))).mono ?_;rintro y J ⟨rfl,g⟩;have k:=Aa g;clear g;go_wp2;go_ret;exact⟨rfl,d.out.trans (k.out.mono (λb i=>Ad d.out.size i))⟩
end
section
variable {B:Nat}{ea:Nat->Addr}{gx:Nat×Nat}{w:World}{v:Value}{l:List Un}
theorem fb (n:WD B ea gx w) (p:Na w) (h:GZ w v l):Calls prog 3 #[v] w λe q=>e= .returned (.bool true)/\Ac (λb=>w.heap.size<=b) w q:=by
 obtain⟨r,s⟩:=zq2 (Nl h) (λW (j:Ac (λb=>w.heap.size<=b) w W) (t:l.length<=1048576)=>ai (h.later j) t (.inr rfl) (λG gw o E H u z I m x A C D=>O0 (n.later j) (p.later j) A C D));obtain⟨a,c,rfl,_⟩:=id h;clear n h p;go_enter xA,ntmps3;go_wp2_with fail;refine r.out.mono ?_;rintro y w1 ⟨b,rfl,i,f⟩;obtain⟨F,d⟩:=zq2 i f;clear i f;cases b with
 |false=>
  go_wp2;go_ret;exact⟨rfl,d.out⟩
 |true=>
  go_wp2_with fail;refine(s.out _ d.out (F.out (by first|rfl|trivial))).mono ?_;rintro y J ⟨rfl,g⟩;have k:=Aa g;clear g;go_wp2;go_ret;exact⟨rfl,d.out.trans (k.out.mono (λb i=>Ad d.out.size i))⟩
end
end Go.Proofs.YtodkkholbjeioaaGreatDoor.Ev
