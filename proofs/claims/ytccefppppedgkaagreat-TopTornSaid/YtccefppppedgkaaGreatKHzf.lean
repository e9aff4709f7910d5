/- Joined: XTLaw12, XTHallS2, XTStartG, XTLaw12a. -/
import Derived.Test.YtccefppppedgkaaGreatKHzd
import Derived.Test.YtccefppppedgkaaGreatKHze
set_option linter.unusedVariables false
set_option linter.unusedSimpArgs false
set_option linter.unnecessarySimpa false
set_option maxRecDepth 100000
set_option maxHeartbeats 64000000
namespace Go.Proofs.YtccefppppedgkaaGreat
open Go.RowKit
section
attribute [local irreducible] AL AW RG Fin C Cd Cio AI AF AO
def h12:AM:=⟨0,[⟨1,0,true,false,[]⟩,⟨0,0,false,false,[]⟩],[⟨false,0,0,[]⟩,⟨false,0,0,[]⟩],[⟨0,0,0,0⟩,⟨0,0,0,0⟩]⟩
theorem AxB (c:AB) (h:AM) (t n:Int) (q:AU) (hq:okQ h q) (hh:OO h) :
  Cd Tryz.prog 264 [fCf c,aHl h,i64 t,i64 n,aRq q] (.agg [i64 (applyH c h t n q).ticket,.t (.lst ((applyH c h t n q).chans.map tCh)),.t (.lst ((applyH c h t n q).waits.map tWt)),.t (.lst ((applyH c h t n q).done.map tR))]) []:=by
 have h0:=AkC c h t n q hq hh
 have e1:=(LD c h t n q).1
 have e2:=(LD c h t n q).2
 generalize applyH c h t n q=g at *
 rw [←e1, ←e2] at h0
 have h0':=Cd.frz1 h0 0 rfl aB rfl;have h0'':=Cd.frz1 h0' 1 rfl aB rfl;exact Cd.drop h0'' rfl
end
section
attribute [local irreducible] AL AW RG Fin C Cd Cio AI AF AO
end
end Go.Proofs.YtccefppppedgkaaGreat
