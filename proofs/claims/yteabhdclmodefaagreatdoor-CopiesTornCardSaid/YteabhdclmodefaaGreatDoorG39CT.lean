/- Acts, and how a store is made, that came in, laid open. -/
import Derived.Test.YteabhdclmodefaaGreatDoorG26CT
import Derived.Lib.SmallJoins
import Derived.Deep.Strs
set_option linter.unusedVariables false
set_option linter.unusedSimpArgs false
set_option maxRecDepth 100000
set_option maxHeartbeats 12800000
namespace Go.Proofs.YteabhdclmodefaaGreatDoor
variable {H:Type}{w:World}{fuel b0:Nat}{v:Value}
section
open Go.RowKit Go.WideShapes Go.ChangeShapes Go.Deep
theorem q9e{enc:TypeId×Value->H}{P:Program}{base:Nat}{d:Nat->Bool}{i:Bool}{t:TypeId}{c:Value}{y:DataW H×List MemPlace}(j:P.underlying t=some (.float .f64))
  (h:DataW.trod enc P w base d i fuel t [c]=some y): ∃b,c= .float .f64 b/\b<18446744073709551616:=by
 cases fuel with
 |zero=>simp[DataW.trod] at h
 | succ n=>
  simp only[DataW.trod,j] at h
  cases c<;>simp at h;rename_i k' b;obtain⟨⟨h1,h2⟩,_⟩:=h;subst h1;exact⟨b,rfl,by simpa [Lit.wf] using h2⟩
theorem y2u{enc:TypeId×Value->H}{base:Nat}{i:Bool}{cs:List Value}{y:DataW H×List MemPlace}
  (h:DataW.trod enc Tryz.prog w base (fun _=>true) i fuel 66 cs=some y): ∃x:Ev,cs=evc x/\x.ty.length<=9223372036854775807/\x.da.length<=9223372036854775807/\x.we<18446744073709551616:=by
 obtain⟨F,G,I,E,_,j,r,s,u⟩:=trod_struct3 Tryz.underlying66 h;have hce:Tryz.prog.cellsOf 66=3:=by kernel_rfl
 have m:Tryz.prog.cellsOf 9=1:=by kernel_rfl
 have l:Tryz.prog.cellsOf 42=1:=by kernel_rfl
 rw[hce] at j
 match cs,j with
 | [c2,c3,c4],_=>
  simp only[m,l] at r s u;obtain⟨t,o,_,D⟩:=DataW.trod_string Tryz.underlying9 r;obtain⟨d,q,_,C⟩:=DataW.trod_string Tryz.underlying9 s;simp at o q;subst o q;obtain⟨b,rfl,B⟩:=q9e Tryz.underlying42 u;refine⟨⟨t.data.toList,d.data.toList,b⟩,by unfold evc;cases t;cases d;rfl,?_,?_,B⟩
  all_goals
   unfold maxLen at D C;simp only[Array.length_toList]
   assumption
theorem y1F{enc:TypeId×Value->H}{base:Nat}{B:Bool}{W:Nat}{ao:Option Addr}{n cap:Nat}{y:DataW H×List MemPlace}
  (O:DataW.trod enc Tryz.prog w base (fun _=>true) B W 82 [.slice ao n cap]=some y):
  ∃L,Evs w ao n cap L/\ ∀x∈L,x.ty.length<=9223372036854775807/\x.da.length<=9223372036854775807/\x.we<18446744073709551616:=by
 have hc:Tryz.prog.cellsOf 66=3:=by kernel_rfl
 rcases open_slice Tryz.underlying82 O with⟨r,_⟩|⟨a,len,S,m,n',D,Pl,r,_,hl,hm,G,_,q⟩
 ·simp only[List.cons.injEq,and_true] at r
  cases r;exact⟨[],⟨rfl,ι _,by omega,fun _=>rfl,Rd.nil _ _⟩,fun x h=>by cases h⟩
 ·simp only[List.cons.injEq,and_true] at r
  cases r;simp only[if_true] at G;subst G;rw[hc] at q;have Z: ∀i,∃k:Ev,i<n->(∀j,j<3->w.cell? ((a.add (i*3)).add j)=(evc k)[j]?)/\k.ty.length<=9223372036854775807/\k.da.length<=9223372036854775807/\k.we<18446744073709551616:=fun i=>by
   by_cases Q:i<n
   ·obtain⟨V,M,ht⟩:=q i (by omega)
    obtain⟨_,X,J⟩:=World.cells?_some M;obtain⟨k,rfl,R⟩:=y2u ht;exact⟨k,fun _=>⟨J,R⟩⟩
   ·exact⟨ev0,fun h=>absurd h Q⟩
  obtain⟨f,N⟩:=Classical.axiomOfChoice Z;have l:((List.range n).map f).length=n:=by simp
  have C: ∀i,i<n->((List.range n).map f).getD i ev0=f i:=fun i q=>by
   rw[δ,List.getElem?_map,List.getElem?_range q];rfl
  refine⟨(List.range n).map f,⟨l,hl,by unfold maxLen at hm;omega,(fun h=>by cases h),?_⟩,fun x hx=>?_⟩
  ·intro j u U
   have Y:j<n*3:=by
    have:=(List.getElem?_eq_some_iff.1 U).1
    rwa [q5z,l] at this
   have o:j/3<n:=by omega
   have I:j % 3<3:=Nat.mod_lt _ (by decide);have E:j/3*3+j % 3=j:=by omega
   have F:=q8p ((List.range n).map f) (j/3) (j % 3) (by rw[l];exact o) I;rw[E,C _ o,U] at F;have s:=(N 0 (by omega)).1 0 (by decide);rw[Nat.zero_mul,add_add,Nat.add_zero] at s;obtain⟨b,off,rfl⟩:=z3J s;have d:=(N (j/3) o).1 (j % 3) I;rw[add_add,E,<-F,z4r] at d;exact⟨b,off,rfl,d⟩
  ·obtain⟨i,q,rfl⟩:=List.mem_map.1 hx
   exact(N i (List.mem_range.1 q)).2
theorem y1E{enc:TypeId×Value->H}{base:Nat}{i:Bool}{cs:List Value}{y:DataW H×List MemPlace}
  (h:DataW.trod enc Tryz.prog w base (fun _=>true) i fuel 108 cs=some y): ∃x:Acm,cs=acc x/\Evs w x.ao x.n x.cap x.L/\y4z x:=by
 obtain⟨xs,n,_,rfl,G,l,j⟩:=DataW.trod_struct Tryz.underlying108 h;have hc:Tryz.prog.cellsOf 108=5:=by kernel_rfl
 have N:Tryz.prog.cellsOf 5=1:=by kernel_rfl
 have O:Tryz.prog.cellsOf 9=1:=by kernel_rfl
 have Q:Tryz.prog.cellsOf 3=1:=by kernel_rfl
 have R:Tryz.prog.cellsOf 82=1:=by kernel_rfl
 rw[hc] at G
 match cs,G with
 | [x0,x1,x2,x3,x4],_=>
  match xs,l with
  | [y0,y1,y2,y3,y4],_=>
   have F:=j 0 _ rfl;have h1:=j 1 _ rfl;have h2:=j 2 _ rfl;have h3:=j 3 _ rfl;have h4:=j 4 _ rfl;simp[N,O,Q,R] at F h1 h2 h3 h4;obtain⟨a0,e0,_,q⟩:=DataW.trod_int Tryz.underlying5 F;obtain⟨a1,B,_,r⟩:=DataW.trod_string Tryz.underlying9 h1;obtain⟨I,C,_,s⟩:=DataW.trod_int Tryz.underlying3 h2;obtain⟨J,D,_,u⟩:=DataW.trod_int Tryz.underlying3 h3;obtain⟨M,V,U,E⟩:=Joins.slice_form Tryz.underlying82 h4;simp only[List.cons.injEq,and_true] at e0 B C D E;subst e0 B C D E;obtain⟨L,S,m⟩:=y1F h4;have o:=bounds_u8 q;have b:=bounds_i64 s;have d:=bounds_i64 u;refine⟨⟨a0,a1.data.toList,I,J,M,V,U,L⟩,by unfold acc;cases a1;rfl,S,⟨o.1,by simp only;omega,?_,b.1,b.2,d.1,d.2,m⟩⟩;unfold maxLen at r;simp only[Array.length_toList]
   assumption
theorem z3c(A:List Acm):(y3b A).length=A.length*5:=by
 induction A with
 |nil=>rfl
 |cons x A ih=>rw[q8V,θ,ih];simp[acc];omega
theorem open_Acs{enc:TypeId×Value->H}{base:Nat}{B:Bool}{d:DataW H}{p:List MemPlace}
  (h:DataW.Trod enc Tryz.prog w base (fun _=>true) B 40 v d p)(hs: ∃ao n cap,v= .slice ao n cap):
  ∃ao n cap A,v= .slice ao n cap/\Acs w ao n cap A:=by
 obtain⟨ao,n,cap,rfl⟩:=hs;obtain⟨f0,C⟩:=h;have X:(Value.slice ao n cap).cells.toList=[.slice ao n cap]:=by simp[Value.cells]
 rw[X] at C;have hc:Tryz.prog.cellsOf 108=5:=by kernel_rfl
 rcases open_slice Tryz.underlying40 C with⟨s,_⟩|⟨a,len,S,m,n',D,Pl,s,_,hl,hm,I,_,q⟩
 ·simp only[List.cons.injEq,and_true] at s
  cases s;exact⟨none,0,0,[],rfl,⟨rfl,ι _,by omega,fun _=>rfl,Rd.nil _ _,(fun x h=>by cases h),(fun x h=>by cases h)⟩⟩
 ·simp only[List.cons.injEq,and_true] at s
  cases s;simp only[if_true] at I;subst I;rw[hc] at q;have hk: ∀i,∃k:Acm,i<n->(∀j,j<5->w.cell? ((a.add (i*5)).add j)=(acc k)[j]?)/\Evs w k.ao k.n k.cap k.L/\y4z k:=fun i=>by
   by_cases Q:i<n
   ·obtain⟨W,O,ht⟩:=q i (by omega)
    obtain⟨_,Y,N⟩:=World.cells?_some O;obtain⟨k,rfl,R⟩:=y1E ht;exact⟨k,fun _=>⟨N,R⟩⟩
   ·exact⟨ac0,fun h=>absurd h Q⟩
  obtain⟨f,M⟩:=Classical.axiomOfChoice hk;have o:((List.range n).map f).length=n:=by simp
  have E: ∀i,i<n->((List.range n).map f).getD i ac0=f i:=fun i q=>by
   rw[δ,List.getElem?_map,List.getElem?_range q];rfl
  refine⟨some a,n,_,(List.range n).map f,rfl,⟨o,hl,by unfold maxLen at hm;omega,(fun h=>by cases h),?_,fun x V=>?_,fun x V=>?_⟩⟩
  ·intro j u U
   have Z:j<n*5:=by
    have:=(List.getElem?_eq_some_iff.1 U).1
    rwa [z3c,o] at this
   have r:j/5<n:=by omega
   have J:j % 5<5:=Nat.mod_lt _ (by decide);have F:j/5*5+j % 5=j:=by omega
   have G:=q5s ((List.range n).map f) (j/5) (j % 5) (by rw[o];exact r) J;rw[F,E _ r,U] at G;have y:=(M 0 (by omega)).1 0 (by decide);rw[Nat.zero_mul,add_add,Nat.add_zero] at y;obtain⟨b,off,rfl⟩:=z3J y;have l:=(M (j/5) r).1 (j % 5) J;rw[add_add,F,<-G,z4r] at l;exact⟨b,off,rfl,l⟩
  all_goals
   obtain⟨i,q,rfl⟩:=List.mem_map.1 V
   first
    |exact(M i (List.mem_range.1 q)).2.1
    |exact(M i (List.mem_range.1 q)).2.2
theorem open_how{enc:TypeId×Value->H}{base:Nat}{i:Bool}{r:Reach}{d:DataW H}{p:List MemPlace}
  (s:Value.okWide Tryz.prog w r b0 44 v)(h:DataW.Trod enc Tryz.prog w base (fun _=>true) i 44 v d p):
  ∃sd rate b,v= .agg #[.int .u64 sd,.float .f64 rate,.int .u16 b]/\0<=sd/\sd<18446744073709551616/\0<=b/\b<=65535:=by
 obtain⟨y,B,C,D,E,F,n,rfl,_,_,q,h1,h2⟩:=Joins.open_agg3 Tryz.underlying44 (by kernel_rfl) (by kernel_rfl) s h;obtain⟨a0,e0,_,w0⟩:=DataW.trod_int Tryz.underlying41 q;obtain⟨a1,rfl,x⟩:=q9e Tryz.underlying42 h1;obtain⟨o,m,_,u⟩:=DataW.trod_int Tryz.underlying23 h2;simp only[List.cons.injEq,and_true] at e0 m;subst e0 m;have j:=bounds_u64 w0;have l:=bounds_u16 u;exact⟨a0,a1,o,rfl,j.1,by omega,l.1,by omega⟩
end
section
open Go.RowKit Go.WideShapes
theorem open_pair8{enc:TypeId×Value->H}{base:Nat}{i:Bool}{r:Reach}{d:DataW H}{p:List MemPlace}
  (x:Value.okWide Tryz.prog w r b0 45 v)(h:DataW.Trod enc Tryz.prog w base (fun _=>true) i 45 v d p):
  ∃a b,v= .agg #[.int .u8 a,.int .u8 b]/\0<=a/\a<=255/\0<=b/\b<=255:=by
 simp only[Value.okWide,Tryz.underlying45] at x;obtain⟨cs,rfl,l,_⟩:=x;have hc:Tryz.prog.cellsOf 45=2:=by kernel_rfl
 have j:Tryz.prog.cellsOf 5=1:=by kernel_rfl
 obtain⟨D,E,rfl⟩:=Joins.array2 (l.trans hc);obtain⟨fuel,C⟩:=h;obtain⟨xs,m,_,_,_,F,u⟩:=DataW.trod_array Tryz.underlying45 C;have o:=u 0 (by decide);have q:=u 1 (by decide);rw[j] at o q;rw[γ (by omega)] at o q;obtain⟨a0,e0,_,w0⟩:=DataW.trod_int Tryz.underlying5 o;obtain⟨a1,s,_,w1⟩:=DataW.trod_int Tryz.underlying5 q;simp[Value.cells] at e0 s;subst e0 s;have y:=bounds_u8 w0;have B:=bounds_u8 w1;exact⟨a0,a1,rfl,by omega,by omega,by omega,by omega⟩
end
end Go.Proofs.YteabhdclmodefaaGreatDoor
