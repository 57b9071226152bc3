/- Parts of a proof that a law's walk returns true. Conditions: none. -/
import Derived.Test.YtemppijblfflgaaGreatDoorZa00
import Derived.Test.YtemppijblfflgaaGreatDoorZa02
set_option linter.all false
set_option maxRecDepth 100000
set_option maxHeartbeats 8000000
namespace Go.Proofs.YtemppijblfflgaaGreatDoor.Ev
theorem Fs (l:List Bf):∀(a b:AC),As l (a.app b)=As l a++As l b
 | .nil,b=>by simp[AC.app,As]
 | .prim p r,b=>by simp[AC.app,As,Fs l r b]
 | .ite c t o e r,b=>by simp[AC.app,As,Fs l r b]
 | .rep n c x r,b=>by simp[AC.app,As,Fs l r b]
section
variable {l:List Bf}
theorem Dt (h:Fv l) (k:Int):(AI l k).length≤8:=by
 unfold AI Au
 cases hk:l[k.toNat]? with
 |none=>simp
 |some d=>exact(h.each d (A7 hk)).name.2.1
theorem IC (h:Fv l) {v:O0} (hv:VK l v):(Dp l v).length≤12:=by
 cases v with
 |num n=>have:=(EM hv.1 hv.2).2.1;simp only[Dp];omega
 |var k=>have:=Dt h k;simp only[Dp];omega
 |len k=>have:=Dt h k;simp[Dp,BE];omega
 |freq=>simp[Dp]
theorem Hj (h:Fv l) {c:Da} (hc:XQ l c.k):(CE l c).length≤40:=by
 have h0:(if c.nots%2=1 then H6++BE else []).length≤4:=by split<;>simp[BE]
 have h1:(Is l c.k).length≤36:=by
  cases hk:c.k with
  |full k=>have:=Dt h k;simp[Is,BE];omega
  |empty k=>have:=Dt h k;simp[Is,BE];omega
  |warm k=>have:=Dt h k;simp[Is,BE];omega
  |less a b=>
   rw[hk]at hc
   have:=IC h hc.1
   have:=IC h hc.2
   simp[Is];omega
 unfold CE
 rw[Ao]
 omega
theorem WV (h:Fv l) (p:D9):(B8 l p).length≤40:=by
 have h0:∀t,(Fj t).length≤5:=by intro t;cases t<;>simp[Fj,BE]
 cases p with
 |put q t=>have:=Dt h q;have:=h0 t;simp[B8,BE];omega
 |evict q=>have:=Dt h q;simp[B8,BE];omega
 |cool q=>have:=Dt h q;simp[B8,BE];omega
 |shift q p t=>have:=Dt h q;have:=Dt h p;have:=h0 t;simp[B8,BE];omega
 |inc q=>have:=Dt h q;simp[B8,BE];omega
 |dec q=>have:=Dt h q;simp[B8,BE];omega
 |drop=>simp[B8]
 |bump=>simp[B8]
theorem Ed (h:Fv l):∀(b:AC),EG l b→(As l b).length≤100*b.size
 | .nil,_=>by simp[As]
 | .prim p r,hb=>by
  have:=WV h p
  have:=Ed h r hb.2
  simp[As,BE,AC.size];omega
 | .ite c t o e r,hb=>by
  have:=Hj h hb.1
  have:=Ed h t hb.2.1
  have:=Ed h e hb.2.2.1
  have:=Ed h r hb.2.2.2
  cases o<;>simp[As,BE,AC.size]<;>omega
 | .rep n c b r,hb=>by
  have:=Hj h hb.1
  have:=Ed h b hb.2.1
  have:=Ed h r hb.2.2.1
  have:=(EM (n:=n) (by have:=hb.2.2.2;omega) (by have:=hb.2.2.2;omega)).2.1
  simp[As,BE,AC.size];omega
theorem Ef (h:Fv l) {b:AC} (hb:EG l b):(BJ l b).length≤100*b.size+3:=by
 have:=Ed h b hb
 simp[BJ,BE];omega
end
end Go.Proofs.YtemppijblfflgaaGreatDoor.Ev
