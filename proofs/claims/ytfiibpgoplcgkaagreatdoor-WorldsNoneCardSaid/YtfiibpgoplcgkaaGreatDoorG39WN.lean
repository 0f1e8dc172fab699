/- Acts, and how a store is made, that came in, laid open. -/
import Derived.Lib.SmallJoins
import Derived.Deep.Strs
import Derived.Test.YtfiibpgoplcgkaaGreatDoorG37WN
set_option linter.unusedVariables false
set_option linter.unusedSimpArgs false
set_option maxRecDepth 100000
set_option maxHeartbeats 12800000
namespace Go.Proofs.YtfiibpgoplcgkaaGreatDoor
variable {H:Type}{w:World}{fuel:Nat}
section
open Go.RowKit Go.WideShapes Go.ChangeShapes Go.Deep
theorem z2Q{enc:TypeId×Value->H}{P:Program}{base:Nat}{d:Nat->Bool}{i:Bool}{t:TypeId}{c:Value}{y:DataW H×List MemPlace}(j:P.underlying t=some (.float .f64))
  (h:DataW.trod enc P w base d i fuel t [c]=some y): ∃b,c= .float .f64 b/\b<18446744073709551616:=by
 cases fuel with
 |zero=>simp[DataW.trod] at h
 | succ n=>
  simp only[DataW.trod,j] at h
  cases c<;>simp at h;rename_i k' b;obtain⟨⟨h1,h2⟩,_⟩:=h;subst h1;exact⟨b,rfl,by simpa [Lit.wf] using h2⟩
theorem z9w{enc:TypeId×Value->H}{base:Nat}{i:Bool}{cs:List Value}{y:DataW H×List MemPlace}
  (h:DataW.trod enc Tryz.prog w base (fun _=>true) i fuel 67 cs=some y): ∃x:Ev,cs=evc x/\x.ty.length<=9223372036854775807/\x.da.length<=9223372036854775807/\x.we<18446744073709551616:=by
 obtain⟨E,F,G,D,_,j,r,s,u⟩:=trod_struct3 Tryz.underlying67 h;have hce:Tryz.prog.cellsOf 67=3:=by kernel_rfl
 have m:Tryz.prog.cellsOf 9=1:=by kernel_rfl
 have l:Tryz.prog.cellsOf 24=1:=by kernel_rfl
 rw[hce] at j
 match cs,j with
 | [c2,c3,c4],_=>
  simp only[m,l] at r s u;obtain⟨t,o,_,C⟩:=DataW.trod_string Tryz.underlying9 r;obtain⟨d,q,_,B⟩:=DataW.trod_string Tryz.underlying9 s;simp at o q;subst o q;obtain⟨b,rfl,v⟩:=z2Q Tryz.underlying24 u;refine⟨⟨t.data.toList,d.data.toList,b⟩,by unfold evc;cases t;cases d;rfl,?_,?_,v⟩
  all_goals
   unfold maxLen at C B;simp only[Array.length_toList]
   assumption
theorem z8W{enc:TypeId×Value->H}{base:Nat}{v:Bool}{V:Nat}{ao:Option Addr}{n cap:Nat}{y:DataW H×List MemPlace}
  (N:DataW.trod enc Tryz.prog w base (fun _=>true) v V 40 [.slice ao n cap]=some y):
  ∃L,Evs w ao n cap L/\ ∀x∈L,x.ty.length<=9223372036854775807/\x.da.length<=9223372036854775807/\x.we<18446744073709551616:=by
 have hc:Tryz.prog.cellsOf 67=3:=by kernel_rfl
 rcases open_slice Tryz.underlying40 N with⟨r,_⟩|⟨a,len,R,m,n',D,Pl,r,_,Z,hm,F,_,q⟩
 ·simp only[List.cons.injEq,and_true] at r
  cases r;exact⟨[],⟨rfl,ι _,by omega,fun _=>rfl,Rd.nil _ _⟩,fun x h=>by cases h⟩
 ·simp only[List.cons.injEq,and_true] at r
  cases r;simp only[if_true] at F;subst F;rw[hc] at q;have Y: ∀i,∃k:Ev,i<n->(∀j,j<3->w.cell? ((a.add (i*3)).add j)=(evc k)[j]?)/\k.ty.length<=9223372036854775807/\k.da.length<=9223372036854775807/\k.we<18446744073709551616:=fun i=>by
   by_cases O:i<n
   ·obtain⟨U,J,ht⟩:=q i (by omega)
    obtain⟨_,W,I⟩:=World.cells?_some J;obtain⟨k,rfl,Q⟩:=z9w ht;exact⟨k,fun _=>⟨I,Q⟩⟩
   ·exact⟨ev0,fun h=>absurd h O⟩
  obtain⟨f,M⟩:=Classical.axiomOfChoice Y;have l:((List.range n).map f).length=n:=by simp
  have B: ∀i,i<n->((List.range n).map f).getD i ev0=f i:=fun i q=>by
   rw[δ,List.getElem?_map,List.getElem?_range q];rfl
  refine⟨(List.range n).map f,⟨l,Z,by unfold maxLen at hm;omega,(fun h=>by cases h),?_⟩,fun x hx=>?_⟩
  ·intro j u S
   have X:j<n*3:=by
    have:=(List.getElem?_eq_some_iff.1 S).1
    rwa [z1a,l] at this
   have o:j/3<n:=by omega
   have G:j % 3<3:=Nat.mod_lt _ (by decide);have C:j/3*3+j % 3=j:=by omega
   have E:=q7I ((List.range n).map f) (j/3) (j % 3) (by rw[l];exact o) G;rw[C,B _ o,S] at E;have s:=(M 0 (by omega)).1 0 (by decide);rw[Nat.zero_mul,add_add,Nat.add_zero] at s;obtain⟨b,off,rfl⟩:=z0t s;have d:=(M (j/3) o).1 (j % 3) G;rw[add_add,C,<-E,z2X] at d;exact⟨b,off,rfl,d⟩
  ·obtain⟨i,q,rfl⟩:=List.mem_map.1 hx
   exact(M i (List.mem_range.1 q)).2
theorem z8X{enc:TypeId×Value->H}{base:Nat}{b:Bool}{cs:List Value}{y:DataW H×List MemPlace}
  (h:DataW.trod enc Tryz.prog w base (fun _=>true) b fuel 83 cs=some y): ∃x:Stp,cs=stc x/\Evs w x.ao x.n x.cap x.L/\Ints w x.ka x.kn x.kc x.xs/\z4W x:=by
 obtain⟨xs,n,_,rfl,Q,j,d⟩:=DataW.trod_struct Tryz.underlying83 h;have hc:Tryz.prog.cellsOf 83=7:=by kernel_rfl
 have W:Tryz.prog.cellsOf 9=1:=by kernel_rfl
 have C:Tryz.prog.cellsOf 3=1:=by kernel_rfl
 have X:Tryz.prog.cellsOf 40=1:=by kernel_rfl
 have Y:Tryz.prog.cellsOf 37=1:=by kernel_rfl
 rw[hc] at Q
 match cs,Q with
 | [x0, x1,x2,x3,x4,x5,x6],_=>
  match xs,j with
  | [y0,y1,y2,y3,y4,y5,y6],_=>
   have N:=d 0 _ rfl;have h1:=d 1 _ rfl;have h2:=d 2 _ rfl;have h3:=d 3 _ rfl;have h4:=d 4 _ rfl;have r:=d 5 _ rfl;have O:=d 6 _ rfl;simp[W,C,X,Y] at N h1 h2 h3 h4 r O;obtain⟨a0,E,_,b0⟩:=DataW.trod_int Tryz.underlying3 N;obtain⟨a1,F,_,u⟩:=DataW.trod_string Tryz.underlying9 h1;obtain⟨R,G,_,c0⟩:=DataW.trod_int Tryz.underlying3 h2;obtain⟨S,I,_,d0⟩:=DataW.trod_int Tryz.underlying3 h3;obtain⟨U,l4,k4,J⟩:=Joins.slice_form Tryz.underlying40 h4;obtain⟨l,q,o,m⟩:=Joins.slice_form Tryz.underlying37 r;obtain⟨B,M,_,v⟩:=DataW.trod_string Tryz.underlying9 O;simp only[List.cons.injEq,and_true] at E F G I J m M;subst E F G I J m M;obtain⟨L,hL,s⟩:=z8W h4
   have hT:DataW.Trod enc Tryz.prog w base (fun _=>true) b 37 (.slice l q o) y5.1 y5.2:=⟨n,by
    have Z:(Value.slice l q o).cells.toList=[.slice l q o]:=by simp[Value.cells]
    rw[Z];exact r⟩
   obtain⟨V,n5,D,ys,m,i,_⟩:=q9W Tryz.underlying37 Tryz.underlying3 C ⟨_,_,_,rfl⟩ hT
   cases m;refine⟨⟨a0,a1.data.toList,R,S,U,l4,k4,L,l,q,o,ys,B.data.toList⟩,by unfold stc;cases a1;cases B;rfl,hL,⟨i.len,i.fits,i.bound,i.nil,i.rd⟩,⟨?_,?_,s⟩⟩
   all_goals
    unfold maxLen at u v;simp only[Array.length_toList]
    assumption
theorem open_stp_val{enc:TypeId×Value->H}{base:Nat}{i:Bool}{r:Reach}{b0:Nat}{v:Value}{d:DataW H}{p:List MemPlace}(o:Value.okWide Tryz.prog w r b0 83 v)(h:DataW.Trod enc Tryz.prog w base (fun _=>true) i 83 v d p):
  ∃x:Stp,v= .agg #[.int .i64 x.kd,.string ⟨x.nm.toArray⟩,.int .i64 x.a,.int .i64 x.b,.slice x.ao x.n x.cap,.slice x.ka x.kn x.kc,.string ⟨x.tx.toArray⟩]/\Evs w x.ao x.n x.cap x.L/\Ints w x.ka x.kn x.kc x.xs/\z4W x:=by
 obtain⟨cs,rfl,_⟩:=okWide_struct Tryz.underlying83 o;obtain⟨f,l⟩:=h;have e:(Value.agg cs).cells.toList=cs.toList:=by simp[Value.cells]
 rw[e] at l;obtain⟨a,m,j⟩:=z8X l;exact⟨a,by congr 1;rw[<-Array.toList_inj,m];rfl,j⟩
end
end Go.Proofs.YtfiibpgoplcgkaaGreatDoor
