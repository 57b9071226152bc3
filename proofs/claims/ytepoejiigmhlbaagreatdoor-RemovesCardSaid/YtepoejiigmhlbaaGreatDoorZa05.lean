/- Lemmas for a law's walk. Conditions: none. -/
import Derived.Test.YtepoejiigmhlbaaGreatDoorZa03
set_option linter.all false
set_option maxRecDepth 100000
set_option maxHeartbeats 8000000
namespace Go.Proofs.YtepoejiigmhlbaaGreatDoor.Ev
open _root_.Go.Proofs.Tryz
open Go Go.RowKit
def Dt (s:Ah) (st:PS) (gp:Nat) (a:Value):List Value:=
 [vs s,.int .i64 st.i,vs st.t.kind,vs st.t.text,.int .i64 st.t.pos,.pointer (some ⟨gp,0,none⟩),.bool st.bp,.int .i64 st.depth,.int .i64 st.loops,a]
theorem Mn (p:UInt8->Bool) (s:Ah) (i:Nat) (h:i<=s.length):i<=skip p s i/\skip p s i<=s.length:=by unfold skip;have a:=List.takeWhile_sublist (p:=p) (l:=s.drop i);have b:=a.length_le;rw[Tm]at b;omega
theorem Lr (p:UInt8->Bool) (s:Ah) (i:Nat) (c:UInt8) (h:s[i]?=some c):skip p s i=if p c then skip p s (i+1)else i:=by
 obtain⟨b,d⟩:=Aj.1 h;unfold skip;rw[DK b,d];by_cases a:p c
 ·simp[a];omega
 ·simp only[Ts]at a;simp[a]
theorem M5 (p:UInt8->Bool) (s:Ah) (i:Nat) (h:s[i]?=none):skip p s i=i:=by
 unfold skip;have:s.length<=i:=by simpa using h
 rw[Mk this];simp
theorem Ay (s:Ah):(ByteArray.mk s.toArray).size=s.length:=List.size_toArray
end Go.Proofs.YtepoejiigmhlbaaGreatDoor.Ev
