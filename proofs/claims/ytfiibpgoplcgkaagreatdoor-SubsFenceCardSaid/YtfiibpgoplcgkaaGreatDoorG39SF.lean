/- Acts, and how a store is made, that came in, laid open. -/
import Derived.Test.YtfiibpgoplcgkaaGreatDoorG24SF
import Derived.Lib.SmallJoins
import Derived.Deep.Strs
set_option linter.unusedVariables false
set_option linter.unusedSimpArgs false
set_option maxRecDepth 100000
set_option maxHeartbeats 12800000
namespace Go.Proofs.YtfiibpgoplcgkaaGreatDoor
variable {H:Type}{w:World}{b0:Nat}{v:Value}
section
open Go.RowKit Go.WideShapes Go.ChangeShapes Go.Deep
theorem z1s{enc:TypeId×Value->H}{P:Program}{base:Nat}{d:Nat->Bool}{i:Bool}{fuel:Nat}{t:TypeId}{c:Value}{y:DataW H×List MemPlace}(m:P.underlying t=some (.float .f64))
  (h:DataW.trod enc P w base d i fuel t [c]=some y): ∃b,c= .float .f64 b/\b<18446744073709551616:=by
 cases fuel with
 |zero=>simp[DataW.trod] at h
 | succ n=>
  simp only[DataW.trod,m] at h
  cases c<;>simp at h;rename_i k' b;obtain⟨⟨j,l⟩,_⟩:=h;subst j;exact⟨b,rfl,by simpa [Lit.wf] using l⟩
theorem open_how{enc:TypeId×Value->H}{base:Nat}{i:Bool}{r:Reach}{d:DataW H}{p:List MemPlace}
  (C:Value.okWide Tryz.prog w r b0 27 v)(h:DataW.Trod enc Tryz.prog w base (fun _=>true) i 27 v d p):
  ∃sd rate b,v= .agg #[.int .u64 sd,.float .f64 rate,.int .u16 b]/\0<=sd/\sd<18446744073709551616/\0<=b/\b<=65535:=by
 obtain⟨F,G,I,J,M,N,n,rfl,_,_,x,y,B⟩:=Joins.open_agg3 Tryz.underlying27 (by kernel_rfl) (by kernel_rfl) C h;obtain⟨q,m,_,w0⟩:=DataW.trod_int Tryz.underlying23 x;obtain⟨s,rfl,E⟩:=z1s Tryz.underlying24 y;obtain⟨u,o,_,D⟩:=DataW.trod_int Tryz.underlying25 B;simp only[List.cons.injEq,and_true] at m o;subst m o;have j:=bounds_u64 w0;have l:=bounds_u16 D;exact⟨q,s,u,rfl,j.1,by omega,l.1,by omega⟩
end
section
open Go.RowKit Go.WideShapes
theorem open_pair8{enc:TypeId×Value->H}{base:Nat}{i:Bool}{r:Reach}{d:DataW H}{p:List MemPlace}
  (y:Value.okWide Tryz.prog w r b0 55 v)(h:DataW.Trod enc Tryz.prog w base (fun _=>true) i 55 v d p):
  ∃a b,v= .agg #[.int .u8 a,.int .u8 b]/\0<=a/\a<=255/\0<=b/\b<=255:=by
 simp only[Value.okWide,Tryz.underlying55] at y;obtain⟨cs,rfl,l,_⟩:=y;have hc:Tryz.prog.cellsOf 55=2:=by kernel_rfl
 have j:Tryz.prog.cellsOf 5=1:=by kernel_rfl
 obtain⟨G,I,rfl⟩:=Joins.array2 (l.trans hc);obtain⟨fuel,F⟩:=h;obtain⟨M,m,_,_,_,J,x⟩:=DataW.trod_array Tryz.underlying55 F;have o:=x 0 (by decide);have q:=x 1 (by decide);rw[j] at o q;rw[γ (by omega)] at o q;obtain⟨B,s,_,w0⟩:=DataW.trod_int Tryz.underlying5 o;obtain⟨C,u,_,w1⟩:=DataW.trod_int Tryz.underlying5 q;simp[Value.cells] at s u;subst s u;have D:=bounds_u8 w0;have E:=bounds_u8 w1;exact⟨B,C,rfl,by omega,by omega,by omega,by omega⟩
end
end Go.Proofs.YtfiibpgoplcgkaaGreatDoor
