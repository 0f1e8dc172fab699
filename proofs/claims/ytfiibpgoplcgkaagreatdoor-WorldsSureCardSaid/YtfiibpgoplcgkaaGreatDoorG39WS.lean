/- Acts, and how a store is made, that came in, laid open. -/
import Derived.Test.YtfiibpgoplcgkaaGreatDoorG32WS
import Derived.Lib.SmallJoins
import Derived.Deep.Strs
set_option linter.unusedVariables false
set_option linter.unusedSimpArgs false
set_option maxRecDepth 100000
set_option maxHeartbeats 12800000
namespace Go.Proofs.YtfiibpgoplcgkaaGreatDoor
section
open Go.RowKit Go.WideShapes Go.ChangeShapes Go.Deep
end
section
open Go.RowKit Go.WideShapes
theorem open_pair8{H:Type}{enc:TypeId×Value->H}{w:World}{base:Nat}{i:Bool}{r:Reach}{C:Nat}{v:Value}{d:DataW H}{p:List MemPlace}
  (x:Value.okWide Tryz.prog w r C 55 v)(h:DataW.Trod enc Tryz.prog w base (fun _=>true) i 55 v d p):
  ∃a b,v= .agg #[.int .u8 a,.int .u8 b]/\0<=a/\a<=255/\0<=b/\b<=255:=by
 simp only[Value.okWide,Tryz.underlying55] at x;obtain⟨cs,rfl,l,_⟩:=x;have hc:Tryz.prog.cellsOf 55=2:=by kernel_rfl
 have j:Tryz.prog.cellsOf 5=1:=by kernel_rfl
 obtain⟨G,I,rfl⟩:=Joins.array2 (l.trans hc);obtain⟨fuel,F⟩:=h;obtain⟨xs,m,_,_,_,J,u⟩:=DataW.trod_array Tryz.underlying55 F;have o:=u 0 (by decide);have q:=u 1 (by decide);rw[j] at o q;rw[γ (by omega)] at o q;obtain⟨y,e0,_,w0⟩:=DataW.trod_int Tryz.underlying5 o;obtain⟨B,s,_,w1⟩:=DataW.trod_int Tryz.underlying5 q;simp[Value.cells] at e0 s;subst e0 s;have D:=bounds_u8 w0;have E:=bounds_u8 w1;exact⟨y,B,rfl,by omega,by omega,by omega,by omega⟩
end
end Go.Proofs.YtfiibpgoplcgkaaGreatDoor
