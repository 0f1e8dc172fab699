/- Acts, and how a store is made, that came in, laid open. -/
import Derived.Lib.SmallJoins
import Derived.Deep.Strs
import Derived.Test.YthdekbmdkpcooaaGreatDoorG48CT
set_option linter.unusedVariables false
set_option linter.unusedSimpArgs false
set_option maxRecDepth 100000
set_option maxHeartbeats 12800000
namespace Go.Proofs.YthdekbmdkpcooaaGreatDoor
section
open Go.RowKit Go.WideShapes Go.ChangeShapes Go.Deep
end
section
open Go.RowKit Go.WideShapes Go.ChangeShapes Go.Deep
theorem open_cur {H:Type} {enc:TypeId×Value→H} {w:World} {base:Nat} {held:Bool} {r:Reach} {b0:Nat} {v:Value} {d:DataW H} {p:List MemPlace}
  (hv:Value.okWide Tryz.prog w r b0 63 v) (h:DataW.Trod enc Tryz.prog w base (fun _=>true) held 63 v d p):
  ∃C:Cur,v=z2e C∧C.st.length≤9223372036854775807∧ -9223372036854775808≤C.nx∧C.nx≤9223372036854775807:=by
 obtain ⟨v0,v1,v2,y0,y1,y2,n,rfl,_,_,h0,h1,h2⟩:=Joins.open_agg3 Tryz.underlying63 (by kernel_rfl) (by kernel_rfl) hv h;obtain ⟨a0,e0,_,w0⟩:=DataW.trod_string Tryz.underlying9 h0;obtain ⟨a1,e1,_,w1⟩:=DataW.trod_int Tryz.underlying3 h1;obtain ⟨a2,e2,_⟩:=DataW.trod_bool Tryz.underlying4 h2;simp only[List.cons.injEq,and_true] at e0 e1 e2;subst e0 e1 e2;have hb:=bounds_i64 w1;refine ⟨⟨a0.data.toList,a1,a2⟩,by cases a0;rfl,?_,hb.1,hb.2⟩;unfold maxLen at w0;simp only[Array.length_toList]
 assumption
end
end Go.Proofs.YthdekbmdkpcooaaGreatDoor
