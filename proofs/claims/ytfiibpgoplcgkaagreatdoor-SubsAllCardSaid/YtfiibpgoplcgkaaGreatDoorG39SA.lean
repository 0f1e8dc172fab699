/- Acts of followers that came in, laid open. -/
import Derived.Test.YtfiibpgoplcgkaaGreatDoorG24SA
import Derived.Lib.SmallJoins
import Derived.Deep.Strs
set_option linter.unusedVariables false
set_option linter.unusedSimpArgs false
set_option maxRecDepth 100000
set_option maxHeartbeats 12800000
namespace Go.Proofs.YtfiibpgoplcgkaaGreatDoor
variable {H:Type}{w:World}{fuel:Nat}{v:Value}
section
open Go.RowKit Go.WideShapes Go.ChangeShapes Go.Deep
theorem y1G{enc:TypeId×Value->H}{base:Nat}{d:Bool}{cs:List Value}{y:DataW H×List MemPlace}
  (h:DataW.trod enc Tryz.prog w base (fun _=>true) d fuel 114 cs=some y): ∃x:Ac3,cs=a3c x/\y2y x:=by
 obtain⟨U,n,_,rfl,M,i,j⟩:=DataW.trod_struct Tryz.underlying114 h;have hc:Tryz.prog.cellsOf 114=4:=by kernel_rfl
 have Q:Tryz.prog.cellsOf 5=1:=by kernel_rfl
 have R:Tryz.prog.cellsOf 9=1:=by kernel_rfl
 have S:Tryz.prog.cellsOf 3=1:=by kernel_rfl
 rw[hc] at M
 match cs,M with
 | [x0,x1,x2,x3],_=>
  match U,i with
  | [y0,y1,y2,y3],_=>
   have F:=j 0 _ rfl;have G:=j 1 _ rfl;have I:=j 2 _ rfl;have J:=j 3 _ rfl;simp[Q,R,S] at F G I J;obtain⟨a0,B,_,o⟩:=DataW.trod_int Tryz.underlying5 F;obtain⟨N,C,_,q⟩:=DataW.trod_int Tryz.underlying5 G;obtain⟨O,D,_,r⟩:=DataW.trod_int Tryz.underlying3 I;obtain⟨u,E,_,s⟩:=DataW.trod_string Tryz.underlying9 J;simp only[List.cons.injEq,and_true] at B C D E;subst B C D E;have l:=bounds_u8 o;have m:=bounds_u8 q;have b:=bounds_i64 r;refine⟨⟨a0,N,O,u.data.toList⟩,by unfold a3c;cases u;rfl,⟨l.1,by simp only;omega,m.1,by simp only;omega,b.1,b.2,?_⟩⟩;unfold maxLen at s;simp only[Array.length_toList]
   assumption
theorem open_As3{enc:TypeId×Value->H}{base:Nat}{B:Bool}{d:DataW H}{p:List MemPlace}
  (h:DataW.Trod enc Tryz.prog w base (fun _=>true) B 108 v d p)(hs: ∃ao n cap,v= .slice ao n cap):
  ∃ao n cap A,v= .slice ao n cap/\As3 w ao n cap A:=by
 obtain⟨ao,n,cap,rfl⟩:=hs;obtain⟨f0,C⟩:=h;have W:(Value.slice ao n cap).cells.toList=[.slice ao n cap]:=by simp[Value.cells]
 rw[W] at C;have hc:Tryz.prog.cellsOf 114=4:=by kernel_rfl
 rcases open_slice Tryz.underlying108 C with⟨s,_⟩|⟨a,len,S,m,n',D,Pl,s,_,hl,hm,I,_,r⟩
 ·simp only[List.cons.injEq,and_true] at s
  cases s;exact⟨none,0,0,[],rfl,⟨rfl,ι _,by omega,fun _=>rfl,Rd.nil _ _,(fun x h=>by cases h)⟩⟩
 ·simp only[List.cons.injEq,and_true] at s
  cases s;simp only[if_true] at I;subst I;rw[hc] at r;have Z: ∀i,∃k:Ac3,i<n->(∀j,j<4->w.cell? ((a.add (i*4)).add j)=(a3c k)[j]?)/\y2y k:=fun i=>by
   by_cases Q:i<n
   ·obtain⟨V,N,ht⟩:=r i (by omega)
    obtain⟨_,X,M⟩:=World.cells?_some N;obtain⟨k,rfl,R⟩:=y1G ht;exact⟨k,fun _=>⟨M,R⟩⟩
   ·exact⟨a30,fun h=>absurd h Q⟩
  obtain⟨f,O⟩:=Classical.axiomOfChoice Z;have o:((List.range n).map f).length=n:=by simp
  have E: ∀i,i<n->((List.range n).map f).getD i a30=f i:=fun i r=>by
   rw[δ,List.getElem?_map,List.getElem?_range r];rfl
  refine⟨some a,n,_,(List.range n).map f,rfl,⟨o,hl,by unfold maxLen at hm;omega,(fun h=>by cases h),?_,fun x hx=>?_⟩⟩
  ·intro j u U
   have Y:j<n*4:=by
    have:=(List.getElem?_eq_some_iff.1 U).1
    rwa [z1r,o] at this
   have q:j/4<n:=by omega
   have J:j % 4<4:=Nat.mod_lt _ (by decide);have F:j/4*4+j % 4=j:=by omega
   have G:=q6K ((List.range n).map f) (j/4) (j % 4) (by rw[o];exact q) J;rw[F,E _ q,U] at G;have y:=(O 0 (by omega)).1 0 (by decide);rw[Nat.zero_mul,add_add,Nat.add_zero] at y;obtain⟨b,off,rfl⟩:=z7h y;have l:=(O (j/4) q).1 (j % 4) J;rw[add_add,F,<-G,z8I] at l;exact⟨b,off,rfl,l⟩
  ·obtain⟨i,r,rfl⟩:=List.mem_map.1 hx
   exact(O i (List.mem_range.1 r)).2
theorem z3C{enc:TypeId×Value->H}{P:Program}{base:Nat}{d:Nat->Bool}{i:Bool}{t:TypeId}{c:Value}{y:DataW H×List MemPlace}(m:P.underlying t=some (.float .f64))
  (h:DataW.trod enc P w base d i fuel t [c]=some y): ∃b,c= .float .f64 b/\b<18446744073709551616:=by
 cases fuel with
 |zero=>simp[DataW.trod] at h
 | succ n=>
  simp only[DataW.trod,m] at h
  cases c<;>simp at h;rename_i k' b;obtain⟨⟨j,l⟩,_⟩:=h;subst j;exact⟨b,rfl,by simpa [Lit.wf] using l⟩
theorem open_how{enc:TypeId×Value->H}{base:Nat}{i:Bool}{r:Reach}{u:Nat}{d:DataW H}{p:List MemPlace}
  (C:Value.okWide Tryz.prog w r u 27 v)(h:DataW.Trod enc Tryz.prog w base (fun _=>true) i 27 v d p):
  ∃sd rate b,v= .agg #[.int .u64 sd,.float .f64 rate,.int .u16 b]/\0<=sd/\sd<18446744073709551616/\0<=b/\b<=65535:=by
 obtain⟨F,G,I,J,M,N,n,rfl,_,_,x,y,B⟩:=Joins.open_agg3 Tryz.underlying27 (by kernel_rfl) (by kernel_rfl) C h;obtain⟨a0,m,_,w0⟩:=DataW.trod_int Tryz.underlying23 x;obtain⟨q,rfl,E⟩:=z3C Tryz.underlying24 y;obtain⟨s,o,_,D⟩:=DataW.trod_int Tryz.underlying25 B;simp only[List.cons.injEq,and_true] at m o;subst m o;have j:=bounds_u64 w0;have l:=bounds_u16 D;exact⟨a0,q,s,rfl,j.1,by omega,l.1,by omega⟩
end
end Go.Proofs.YtfiibpgoplcgkaaGreatDoor
