/- FsOps, packed. -/
import Derived.Test.YtbjalbcdbgcgdaaGreatOQ
import Derived.Test.YtbjalbcdbgcgdaaGreatO05
import Derived.Test.YtbjalbcdbgcgdaaGreatO07
import Derived.Test.YtbjalbcdbgcgdaaGreatO00
set_option linter.unusedVariables false
set_option maxRecDepth 100000
set_option maxHeartbeats 8000000
namespace Go.Proofs.YtbjalbcdbgcgdaaGreat
namespace FP
open Go.RowKit bO sl fix XA
open cK (WfM eT AV fM aCX uF ahH CA ahL KC)
open lH (dY mY MU lT oC oD iQ oE dI)
def RZ (serial:Int) (zs:List ((Int×Int)×Int)):List UInt8:=dN serial.toNat 4++fM zs
def CB (turn serial:Int) (zs:List ((Int×Int)×Int)):List UInt8:=dY 2 turn (RZ serial zs)
def aqY (turn serial:Int):Prop:=0≤serial∧serial≤2147483647∧0≤turn∧turn≤2147483647
theorem avD {serial:Int} {zs:List ((Int×Int)×Int)} (h:zs.length=48):(RZ serial zs).length≤1000:=by
 have:=CA zs;simp only[RZ,List.length_append,cJ];omega
theorem MX {turn serial:Int} {zs:List ((Int×Int)×Int)} (h:zs.length=48) (hp:aqY turn serial):mY 2 turn (RZ serial zs).length=0:=
 Go.Proofs.YtbjalbcdbgcgdaaGreat.lH.RC ⟨.inr rfl,hp.2.2.1,hp.2.2.2,avD h⟩
attribute [local irreducible] box own sl bL aH bJ Qt cN cM dG dL eQ
theorem xN (qa qg:Option Addr) (ca cg:Nat) {turn serial:Int} {ps:List (Int×Int)} {gs:List Int} (hw:WfM ps gs) (hm:eT ps gs) (hp:aqY turn serial):
  Ct Tryz.prog 127 [.int .i64 turn, .agg #[.int .i64 serial, .slice qa ps.length ca, .slice qg gs.length cg]] [sl 2 (.slice qa ps.length ca) (ps.map jP),sl 1 (.slice qg gs.length cg) (gs.map fI)] fun v H'=>v= .tuple #[.string (str (CB turn serial (ps.zip gs))), .int .i64 0]∧H'=[]:=by
 have WM:=Go.Proofs.YtbjalbcdbgcgdaaGreat.cK.vS qa qg ca cg hw hm;obtain⟨p1,p2,p3,p4⟩:=hp;have F1:=Go.Proofs.YtbjalbcdbgcgdaaGreat.lH.nN serial 4 Z9 Z8;have zy:=aCX hm;have SE:=MX zy.1 ⟨p1,p2,p3,p4⟩ (turn:=turn) (serial:=serial);have S1:=Go.Proofs.YtbjalbcdbgcgdaaGreat.lH.agK 2 turn (RZ serial (ps.zip gs));rw[SE,Go.Proofs.YtbjalbcdbgcgdaaGreat.lH.agN SE] at S1;have zx:dY 2 turn (RZ serial (ps.zip gs))=CB turn serial (ps.zip gs):=rfl;rw[zx] at S1;have zw:RZ serial (ps.zip gs)=dN serial.toNat 4++fM (ps.zip gs):=rfl;rw[zw] at S1;have l1:=cJ serial.toNat 4;have l2:=CA (ps.zip gs);rw[zy.1] at l2;generalize CB turn serial (ps.zip gs)=pb at*;generalize fM (ps.zip gs)=wm at*;generalize dN serial.toNat 4=fx at*;clear hw hm SE zx zw zy;(refine Ye Tryz.func127 Tryz.ntmps127 ?_;intro Fr);(repeat' (first|refine Y1 ?_|(refine Wb ?_;intro b)|(refine Wq ?_;intro q)|refine Wc (WM ..) ?_|refine Wc (F1 ..) ?_|refine Wc (S1 ..) ?_|(refine Ws ?_ ?_<;>intro h)|refine Wz ?_|fail));exact Ea (x:=⟨rfl,rfl⟩)
end FP
