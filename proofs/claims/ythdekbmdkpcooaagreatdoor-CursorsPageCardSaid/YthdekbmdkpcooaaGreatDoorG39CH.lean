/- Walks. -/
import Derived.Test.YthdekbmdkpcooaaGreatDoorG38CH
import Derived.Lib.SmallJoins
import Derived.Deep.Strs
set_option linter.unusedVariables false
set_option linter.unusedSimpArgs false
set_option maxRecDepth 100000
set_option maxHeartbeats 12800000
namespace Go.Proofs.YthdekbmdkpcooaaGreatDoor
variable {H:Type}{fuel cap:Nat}{ao:Option Addr}{v:Value}{L:List Cur}
section
open Go.RowKit
abbrev stp :Bt:=⟨[115],0,[evA,y0c,y0d]⟩
theorem y5z :z6E [] [115] (-1) [evA,y0c,y0d]=0:=by decide
theorem y5i :q5q ⟨[115],1,false⟩=true:=by decide
theorem y6A :y4v ⟨[115],1,false⟩=[102,50,58,115]:=by
 unfold y4v;rw[ξ y5i];unfold y4u;rw[show((1:Int)+1).toNat=2 from rfl,Lib.decDigits_one (by decide)];rfl
theorem y6B :z2q [stp] ⟨[115],1,false⟩ 5=[⟨[115],1,y0c⟩,⟨[115],2,y0d⟩]:=rfl
theorem y6C :z4I [stp] ⟨[115],1,false⟩ 5=⟨[115],3,false⟩:=rfl
theorem y6D :z6o [stp] ⟨[115],1,false⟩ 5=true:=rfl
theorem y6E :z0Y ⟨[115],1,false⟩ 5=0:=rfl
theorem y6F :q5q ⟨[115],9,true⟩=true:=by decide
theorem y6G :z2q [stp] ⟨[115],9,true⟩ 2=[⟨[115],2,y0d⟩,⟨[115],1,y0c⟩]:=rfl
theorem y6H :z4I [stp] ⟨[115],9,true⟩ 2=⟨[115],0,true⟩:=rfl
theorem y6I :z6o [stp] ⟨[115],9,true⟩ 2=false:=rfl
theorem y6J :z0Y ⟨[115],9,true⟩ 2=0:=rfl
theorem y6K :y0l (q5g [102,48,58,115])=(z0D,10):=by decide
theorem y6L :y0l (q5g [98,48,58,115])=(⟨[115],-1,true⟩,0):=by decide
theorem y6M :y0l (q5g [102,48,49,58,115])=(z0D,10):=by decide
theorem y3N(w:World)(ht:TabW w):Calls Tryz.prog 19 #[] w fun e w'=>e= .returned (.bool true)/\Ext w w':=by
 have HT:=η ht;have HO:=η (z0S 0 0 0 w (by decide) (by decide));clear ht;go_enter Tryz.func19,Tryz.ntmps19;go_wp2_with fail;refine HO.o.mono ?_;rintro e w1 ⟨g,gs,rfl,C⟩;have s0:=q0B w1 (.cells #[.string ⟨#[97]⟩,.string ⟨#[]⟩,.float .f64 0,.string ⟨#[98]⟩,.string ⟨#[]⟩,.float .f64 0,.string ⟨#[99]⟩,.string ⟨#[]⟩,.float .f64 0] 85);have m0:=Blk.new w1 85 #[.string ⟨#[97]⟩,.string ⟨#[]⟩,.float .f64 0,.string ⟨#[98]⟩,.string ⟨#[]⟩,.float .f64 0,.string ⟨#[99]⟩,.string ⟨#[]⟩,.float .f64 0];have p0:=C.more (K':=fun i=>i=w1.heap.size) s0 fun i B=> .inr (by rw[ρ];omega)
 have a0:=η (p0.append (by omega) [115] (by decide) (-1) (L:=[evA,y0c,y0d]) (fun W _ Z=>(by
  have:=(m0.same (Z _ rfl)).evs (L:=[evA,y0c,y0d]) (k:=3) (by decide) (by decide)
  rwa [Δ (by decide)] at this)) (z5u (by decide)) (by decide) y5z)
 have J:=η (fun W=>z4m [115] 1 false (by decide) W);rw[y5i] at J;simp only[if_true] at J;clear C s0 m0 p0 HO;go_wp2_with fail;refine a0.o.mono ?_;rintro e w2 ⟨x,y,I0,rfl,C,_,h3⟩;rcases h3 with⟨h3,_⟩|⟨_,_,_,_,h3⟩|⟨_,rfl,rfl,rfl⟩
 ·exact absurd rfl h3
 ·omega
 have HK:=η (C.beside (K':=noI) fun i B=>B.elim);clear C a0;go_wp2_with fail;refine(J.o _).mono ?_;rintro e w3 ⟨rfl,j⟩;have b:=q0B w3 (.cells #[.string ⟨#[115]⟩,.int .i64 1,.bool false] 63);have n0:=Blk.new w3 63 #[.string ⟨#[115]⟩,.int .i64 1,.bool false];have i0:=η (HK.o.more (K':=fun i=>i=w3.heap.size) (j.trans b) fun i B=> .inr ⟨by have:=j.size;omega,by rw[ρ];omega⟩);obtain⟨bc,o0⟩: ∃bc,w3.heap.size=bc:=⟨_,rfl⟩
 have t0:=η n0;have M:=η (y4G ⟨[115],1,false⟩ (by decide) (w3.alloc (.cells #[.string ⟨#[115]⟩,.int .i64 1,.bool false] 63)) (HT.o.ext i0.o.base));rw[y5i,y6A] at M;simp only[if_true] at M;clear j b n0 J o0;go_wp2_with fail;refine M.o.mono ?_;rintro e w4 ⟨rfl,j⟩;have x0:=η (i0.o.grow j);have hc:=t0.o.ext j;have b0:=η hc;have k0:=hc.cell 0;have k1:=hc.cell 1;have k2:=hc.cell 2;have l:=η (z3i x0.o (by omega) ⟨[115],1,false⟩ (by decide) 5 (by decide));simp only[List.nil_append] at l;rw[show(⟨[115],(q0l [] [115]).length,[evA,y0c,y0d]⟩:Bt)=stp from rfl,y6B,y6C,y6D,y6E] at l;clear j hc M;go_wp2_with fail;refine l.o.mono ?_;rintro e Q ⟨v1,rfl,C,Z,Y,hd⟩;obtain⟨va,vc,rfl⟩:=q0F Y;obtain⟨K5,V⟩: ∃K5:Nat->Prop,(fun i=>i=w3.heap.size\/(Value.slice va [(⟨[115],1,y0c⟩:To),⟨[115],2,y0d⟩].length vc).ownBlock=some i)=K5:=⟨_,rfl⟩
 rw[V] at C;have A0:Hd (∀W,Stay K5 Q W->Tos W va 2 vc [(⟨[115],1,y0c⟩:To),⟨[115],2,y0d⟩]):=η fun W kk=>(q7V (q1E Y fun i B=>kk i (by rw[<-V];exact .inr B))).1
 have b:=q0B Q (.cells #[.string ⟨#[115]⟩,.int .i64 3,.bool false] 63);have I:=Blk.new Q 63 #[.string ⟨#[115]⟩,.int .i64 3,.bool false];have v0:=η I;have j0:=η (C.more (K':=fun i=>K5 i\/i=Q.heap.size) b fun i B=>B.imp id fun e=>by rw[ρ];omega);have B0:Hd (Stay K5 Q (Q.alloc (.cells #[.string ⟨#[115]⟩,.int .i64 3,.bool false] 63))):=η (C.kExt b);have q:=η (fun W=>z4m [115] 9 true (by decide) W);rw[y6F] at q;simp only[if_true] at q;clear C Z Y hd b I V l k0 k1 k2 b0;go_wp2_with fail;refine(q.o _).mono ?_;rintro e w6 ⟨rfl,j⟩;have b:=q0B w6 (.cells #[.string ⟨#[115]⟩,.int .i64 9,.bool true] 63);have F:=Blk.new w6 63 #[.string ⟨#[115]⟩,.int .i64 9,.bool true];have H0:=η F;have N:=j.trans b;have e0:=η (v0.o.ext N);have C0:=η (B0.o.trans (fun i B=>N.block i (j0.o.klt i (.inl B))));have z0:=η (j0.o.more (K':=fun i=>(K5 i\/i=Q.heap.size)\/i=w6.heap.size) N fun i B=>B.imp id fun e=>by rw[ρ];have:=j.size;rw[ρ] at this;rw[ρ];omega);have k0:=F.cell 0;have k1:=F.cell 1;have k2:=F.cell 2;have l:=η (z3i z0.o (by omega) ⟨[115],9,true⟩ (by decide) 2 (by decide));rw[y6G,y6H,y6I,y6J] at l;clear j b F N q;go_wp2_with fail;refine l.o.mono ?_;rintro e w7 ⟨v2,rfl,C,Z,Y,hd⟩;obtain⟨vb,vd,rfl⟩:=q0F Y;have r0:=(q7V Y).1;have q0:=A0.o w7 (C0.o.trans fun i B=>Z i (.inl (.inl B)));have O:=e0.o.same (Z Q.heap.size (.inl (.inr rfl)));have b:=q0B w7 (.cells #[.string ⟨#[115]⟩,.int .i64 0,.bool true] 63);have G:=Blk.new w7 63 #[.string ⟨#[115]⟩,.int .i64 0,.bool true];have r:=η (q0.ext b);have s:=η (r0.ext b);have f0:=η (O.ext b);have u0:=η G;have D0:=η (C.base.trans b);have R:=η (fun W=>z7Y [102,48,58,115] (by decide) W);have S:=η (fun W=>z7Y [98,48,58,115] (by decide) W);have U:=η (fun W=>z7Y [102,48,49,58,115] (by decide) W);rw[y6K] at R;rw[y6L] at S;rw[y6M] at U;simp only at R S U;clear C Z Y hd q0 r0 O b G l k0 k1 k2;go_wp2_with fail;refine(R.o _).mono ?_;rintro e w8 ⟨rfl,j⟩;have D:=j.trans (q0B w8 (.cells #[.string ⟨#[]⟩,.int .i64 0,.bool false] 63));have E0:=η (D0.o.trans D);have r:=η (r.o.ext D);have s:=η (s.o.ext D);have g0:=η (f0.o.ext D);have c0:=η (u0.o.ext D);clear j D;go_wp2_with fail;refine(S.o _).mono ?_;rintro e w9 ⟨rfl,j⟩;have b:=q0B w9 (.cells #[.string ⟨#[115]⟩,.int .i64 (-1),.bool true] 63);have m:=Blk.new w9 63 #[.string ⟨#[115]⟩,.int .i64 (-1),.bool true];have E:=j.trans b;have w0:=η m;have F0:=η (E0.o.trans E);have r:=η (r.o.ext E);have s:=η (s.o.ext E);have h0:=η (g0.o.ext E);have d0:=η (c0.o.ext E);clear j E b m;go_wp2_with fail;refine(U.o _).mono ?_;rintro e G0 ⟨rfl,j⟩;have d:=j.trans (q0B G0 (.cells #[.string ⟨#[]⟩,.int .i64 0,.bool false] 63));have l0:=η (F0.o.trans d);have I:=h0.o.ext d;have G:=d0.o.ext d;have m:=w0.o.ext d;have n1:=I.cell 1;have m1:=G.cell 1;have y0:=m.cell 0;have y1:=m.cell 1;have y2:=m.cell 2;obtain⟨ab,ao,rfl,_,a1,_,_,_⟩:=(r.o.ext d).at (i:=0) (by omega);obtain⟨_,_,e1,_,a2,_,_,_⟩:=(r.o.ext d).at (i:=1) (by decide)
 cases e1;obtain⟨bb,bo,rfl,_,b1,_,_,_⟩:=(s.o.ext d).at (i:=0) (by decide);obtain⟨_,_,e1,_,b2,_,_,_⟩:=(s.o.ext d).at (i:=1) (by decide)
 cases e1;simp only[List.getD_cons_zero,List.getD_cons_succ,Nat.zero_mul,Nat.one_mul,Nat.add_zero] at a1 a2 b1 b2;clear j d I G m;go_wp2_with fail;go_ret;exact⟨rfl,l0.o⟩
end
section
open Go.RowKit Go.WideShapes Go.ChangeShapes Go.Deep
theorem q9b{enc:TypeId×Value->H}{P:Program}{w:World}{base:Nat}{d:Nat->Bool}{i:Bool}{t:TypeId}{c:Value}{y:DataW H×List MemPlace}(m:P.underlying t=some (.float .f64))
  (h:DataW.trod enc P w base d i fuel t [c]=some y): ∃b,c= .float .f64 b/\b<18446744073709551616:=by
 cases fuel with
 |zero=>simp[DataW.trod] at h
 | succ n=>
  simp only[DataW.trod,m] at h
  cases c<;>simp at h;rename_i k' b;obtain⟨⟨j,l⟩,_⟩:=h;subst j;exact⟨b,rfl,by simpa [Lit.wf] using l⟩
theorem y3J{enc:TypeId×Value->H}{w:World}{base:Nat}{i:Bool}{cs:List Value}{y:DataW H×List MemPlace}
  (h:DataW.trod enc Tryz.prog w base (fun _=>true) i fuel 85 cs=some y): ∃x:Ev,cs=evc x/\x.ty.length<=9223372036854775807/\x.da.length<=9223372036854775807/\x.we<18446744073709551616:=by
 obtain⟨G,I,J,F,_,j,r,s,B⟩:=trod_struct3 Tryz.underlying85 h;have hce:Tryz.prog.cellsOf 85=3:=by kernel_rfl
 have m:Tryz.prog.cellsOf 9=1:=by kernel_rfl
 have l:Tryz.prog.cellsOf 24=1:=by kernel_rfl
 rw[hce] at j
 match cs,j with
 | [c2,c3,c4],_=>
  simp only[m,l] at r s B;obtain⟨t,o,_,E⟩:=DataW.trod_string Tryz.underlying9 r;obtain⟨d,q,_,D⟩:=DataW.trod_string Tryz.underlying9 s;simp at o q;subst o q;obtain⟨b,rfl,C⟩:=q9b Tryz.underlying24 B;refine⟨⟨t.data.toList,d.data.toList,b⟩,by unfold evc;cases t;cases d;rfl,?_,?_,C⟩
  all_goals
   unfold maxLen at E D;simp only[Array.length_toList]
   assumption
theorem y1M{enc:TypeId×Value->H}{w:World}{base:Nat}{B:Bool}{Y:Nat}{n:Nat}{y:DataW H×List MemPlace}
  (O:DataW.trod enc Tryz.prog w base (fun _=>true) B Y 43 [.slice ao n cap]=some y):
  ∃L,Evs w ao n cap L/\ ∀x∈L,x.ty.length<=9223372036854775807/\x.da.length<=9223372036854775807/\x.we<18446744073709551616:=by
 have hc:Tryz.prog.cellsOf 85=3:=by kernel_rfl
 rcases open_slice Tryz.underlying43 O with⟨r,_⟩|⟨a,len,S,m,n',D,Pl,r,_,hl,hm,G,_,q⟩
 ·simp only[List.cons.injEq,and_true] at r
  cases r;exact⟨[],⟨rfl,ι _,by omega,fun _=>rfl,Rd.nil _ _⟩,fun x h=>by cases h⟩
 ·simp only[List.cons.injEq,and_true] at r
  cases r;simp only[if_true] at G;subst G;rw[hc] at q;have hk: ∀i,∃k:Ev,i<n->(∀j,j<3->w.cell? ((a.add (i*3)).add j)=(evc k)[j]?)/\k.ty.length<=9223372036854775807/\k.da.length<=9223372036854775807/\k.we<18446744073709551616:=fun i=>by
   by_cases Q:i<n
   ·obtain⟨V,M,ht⟩:=q i (by omega)
    obtain⟨_,Z,J⟩:=World.cells?_some M;obtain⟨k,rfl,R⟩:=y3J ht;exact⟨k,fun _=>⟨J,R⟩⟩
   ·exact⟨ev0,fun h=>absurd h Q⟩
  obtain⟨f,N⟩:=Classical.axiomOfChoice hk;have l:((List.range n).map f).length=n:=by simp
  have C: ∀i,i<n->((List.range n).map f).getD i ev0=f i:=fun i q=>by
   rw[δ,List.getElem?_map,List.getElem?_range q];rfl
  refine⟨(List.range n).map f,⟨l,hl,by unfold maxLen at hm;omega,(fun h=>by cases h),?_⟩,fun x hx=>?_⟩
  ·intro j u U
   have a0:j<n*3:=by
    have:=(List.getElem?_eq_some_iff.1 U).1
    rwa [q5x,l] at this
   have o:j/3<n:=by omega
   have I:j % 3<3:=Nat.mod_lt _ (by decide);have E:j/3*3+j % 3=j:=by omega
   have F:=q8l ((List.range n).map f) (j/3) (j % 3) (by rw[l];exact o) I;rw[E,C _ o,U] at F;have s:=(N 0 (by omega)).1 0 (by decide);rw[Nat.zero_mul,add_add,Nat.add_zero] at s;obtain⟨b,off,rfl⟩:=q9R s;have d:=(N (j/3) o).1 (j % 3) I;rw[add_add,E,<-F,z0r] at d;exact⟨b,off,rfl,d⟩
  ·obtain⟨i,q,rfl⟩:=List.mem_map.1 hx
   exact(N i (List.mem_range.1 q)).2
theorem y1K{enc:TypeId×Value->H}{w:World}{base:Nat}{i:Bool}{cs:List Value}{y:DataW H×List MemPlace}
  (h:DataW.trod enc Tryz.prog w base (fun _=>true) i fuel 45 cs=some y): ∃x:Acm,cs=acc x/\Evs w x.ao x.n x.cap x.L/\y5S x:=by
 obtain⟨xs,n,_,rfl,O,l,j⟩:=DataW.trod_struct Tryz.underlying45 h;have hc:Tryz.prog.cellsOf 45=5:=by kernel_rfl
 have U:Tryz.prog.cellsOf 5=1:=by kernel_rfl
 have V:Tryz.prog.cellsOf 9=1:=by kernel_rfl
 have Y:Tryz.prog.cellsOf 3=1:=by kernel_rfl
 have Z:Tryz.prog.cellsOf 43=1:=by kernel_rfl
 rw[hc] at O
 match cs,O with
 | [x0,x1,x2,x3,x4],_=>
  match xs,l with
  | [y0,y1,y2,y3,y4],_=>
   have I:=j 0 _ rfl;have J:=j 1 _ rfl;have M:=j 2 _ rfl;have N:=j 3 _ rfl;have m:=j 4 _ rfl;simp[U,V,Y,Z] at I J M N m;obtain⟨a0,e0,_,r⟩:=DataW.trod_int Tryz.underlying5 I;obtain⟨a1,D,_,s⟩:=DataW.trod_string Tryz.underlying9 J;obtain⟨Q,E,_,B⟩:=DataW.trod_int Tryz.underlying3 M;obtain⟨R,F,_,C⟩:=DataW.trod_int Tryz.underlying3 N;obtain⟨S,l4,k4,G⟩:=Joins.slice_form Tryz.underlying43 m;simp only[List.cons.injEq,and_true] at e0 D E F G;subst e0 D E F G;obtain⟨L,hL,o⟩:=y1M m;have q:=bounds_u8 r;have b:=bounds_i64 B;have d:=bounds_i64 C;refine⟨⟨a0,a1.data.toList,Q,R,S,l4,k4,L⟩,by unfold acc;cases a1;rfl,hL,⟨q.1,by simp only;omega,?_,b.1,b.2,d.1,d.2,o⟩⟩;unfold maxLen at s;simp only[Array.length_toList]
   assumption
theorem z3U(A:List Acm):(y3w A).length=A.length*5:=by
 induction A with
 |nil=>rfl
 |cons x A ih=>rw[q8O,θ,ih];simp[acc];omega
theorem open_Acs{enc:TypeId×Value->H}{w:World}{base:Nat}{B:Bool}{d:DataW H}{p:List MemPlace}
  (h:DataW.Trod enc Tryz.prog w base (fun _=>true) B 22 v d p)(hs: ∃ao n cap,v= .slice ao n cap):
  ∃ao n cap A,v= .slice ao n cap/\Acs w ao n cap A:=by
 obtain⟨ao,n,cap,rfl⟩:=hs;obtain⟨f0,C⟩:=h;have Z:(Value.slice ao n cap).cells.toList=[.slice ao n cap]:=by simp[Value.cells]
 rw[Z] at C;have hc:Tryz.prog.cellsOf 45=5:=by kernel_rfl
 rcases open_slice Tryz.underlying22 C with⟨s,_⟩|⟨a,len,S,m,n',D,Pl,s,_,hl,hm,I,_,q⟩
 ·simp only[List.cons.injEq,and_true] at s
  cases s;exact⟨none,0,0,[],rfl,⟨rfl,ι _,by omega,fun _=>rfl,Rd.nil _ _,(fun x h=>by cases h),(fun x h=>by cases h)⟩⟩
 ·simp only[List.cons.injEq,and_true] at s
  cases s;simp only[if_true] at I;subst I;rw[hc] at q;have hk: ∀i,∃k:Acm,i<n->(∀j,j<5->w.cell? ((a.add (i*5)).add j)=(acc k)[j]?)/\Evs w k.ao k.n k.cap k.L/\y5S k:=fun i=>by
   by_cases Q:i<n
   ·obtain⟨Y,O,ht⟩:=q i (by omega)
    obtain⟨_,a0,N⟩:=World.cells?_some O;obtain⟨k,rfl,R⟩:=y1K ht;exact⟨k,fun _=>⟨N,R⟩⟩
   ·exact⟨ac0,fun h=>absurd h Q⟩
  obtain⟨f,M⟩:=Classical.axiomOfChoice hk;have o:((List.range n).map f).length=n:=by simp
  have E: ∀i,i<n->((List.range n).map f).getD i ac0=f i:=fun i q=>by
   rw[δ,List.getElem?_map,List.getElem?_range q];rfl
  refine⟨some a,n,_,(List.range n).map f,rfl,⟨o,hl,by unfold maxLen at hm;omega,(fun h=>by cases h),?_,fun x V=>?_,fun x V=>?_⟩⟩
  ·intro j u U
   have b0:j<n*5:=by
    have:=(List.getElem?_eq_some_iff.1 U).1
    rwa [z3U,o] at this
   have r:j/5<n:=by omega
   have J:j % 5<5:=Nat.mod_lt _ (by decide);have F:j/5*5+j % 5=j:=by omega
   have G:=q5u ((List.range n).map f) (j/5) (j % 5) (by rw[o];exact r) J;rw[F,E _ r,U] at G;have y:=(M 0 (by omega)).1 0 (by decide);rw[Nat.zero_mul,add_add,Nat.add_zero] at y;obtain⟨b,off,rfl⟩:=q9R y;have l:=(M (j/5) r).1 (j % 5) J;rw[add_add,F,<-G,z0r] at l;exact⟨b,off,rfl,l⟩
  all_goals
   obtain⟨i,q,rfl⟩:=List.mem_map.1 V
   first
    |exact(M i (List.mem_range.1 q)).2.1
    |exact(M i (List.mem_range.1 q)).2.2
theorem open_how{enc:TypeId×Value->H}{w:World}{base:Nat}{i:Bool}{r:Reach}{b0:Nat}{d:DataW H}{p:List MemPlace}
  (y:Value.okWide Tryz.prog w r b0 27 v)(h:DataW.Trod enc Tryz.prog w base (fun _=>true) i 27 v d p):
  ∃sd rate b,v= .agg #[.int .u64 sd,.float .f64 rate,.int .u16 b]/\0<=sd/\sd<18446744073709551616/\0<=b/\b<=65535:=by
 obtain⟨D,E,F,G,I,J,n,rfl,_,_,q,s,x⟩:=Joins.open_agg3 Tryz.underlying27 (by kernel_rfl) (by kernel_rfl) y h;obtain⟨a0,e0,_,w0⟩:=DataW.trod_int Tryz.underlying23 q;obtain⟨a1,rfl,C⟩:=q9b Tryz.underlying24 s;obtain⟨o,m,_,B⟩:=DataW.trod_int Tryz.underlying25 x;simp only[List.cons.injEq,and_true] at e0 m;subst e0 m;have j:=bounds_u64 w0;have l:=bounds_u16 B;exact⟨a0,a1,o,rfl,j.1,by omega,l.1,by omega⟩
end
section
open Go.RowKit
theorem z8L{d W:World}{q j:Nat}{b:Bool}(h:d.heap.size=q)(k:W.frozen? ⟨q,j,none⟩=b):W.frozen? ⟨d.heap.size,j,none⟩=b:=h▸k
def cuc(C:Cur):List Value:=[.string ⟨C.st.toArray⟩,.int .i64 C.nx,.bool C.dn]
def y4H(L:List Cur):List Value:=L.flatMap cuc
theorem q8b(C:Cur)(L:List Cur):y4H (C::L)=cuc C++y4H L:=rfl
theorem z3k(L:List Cur):(y4H L).length=L.length*3:=by
 induction L with
 |nil=>rfl
 |cons x L ih=>rw[q8b,θ,ih];simp[cuc];omega
theorem q8a : ∀(L:List Cur) (i j:Nat),i<L.length->j<3->(y4H L)[i*3+j]? =(cuc (L.getD i z0D))[j]?
 |[],i,j,h,_=>by simp at h
 | k::L,0,j,_,hj=>by
  rw[q8b,List.getElem?_append_left (by simp[cuc];omega)];simp
 | k::L,i+1,j,h,hj=>by
  rw[q8b,List.getElem?_append_right (by simp[cuc];omega),show(i+1)*3+j-(cuc k).length=i*3+j from by simp[cuc];omega,q8a L i j (by simpa using h) hj];simp
structure Curs(w:World)(ao:Option Addr)(n cap:Nat)(L:List Cur):Prop where
 len:L.length=n
 fits:n<=cap
 bound:cap<=9223372036854775807
 nil:ao=none->cap=0
 rd:Rd w ao (y4H L)
theorem Curs.ext{w w':World}{n:Nat}(h:Curs w ao n cap L)(k:Ext w w'):Curs w' ao n cap L:=⟨h.len,h.fits,h.bound,h.nil,h.rd.ext k⟩
theorem Curs.at{w:World}{n:Nat}(h:Curs w ao n cap L){i:Nat}(r:i<n):
  ∃b off,ao=some ⟨b,off,none⟩/\w.cell? ⟨b,off+i*3,none⟩=some (.string ⟨(L.getD i z0D).st.toArray⟩)/\w.cell? ⟨b,off+i*3+1,none⟩=some (.int .i64 (L.getD i z0D).nx)/\w.cell? ⟨b,off+i*3+2,none⟩=some (.bool (L.getD i z0D).dn):=by
 have s:=h.len;have k0:=q8a L i 0 (by omega) (by decide);have k1:=q8a L i 1 (by omega) (by decide);have q:=q8a L i 2 (by omega) (by decide);obtain⟨b,off,rfl,l⟩:=h.rd _ _ k0;obtain⟨_,_,d,m⟩:=h.rd _ _ k1
 cases d;obtain⟨_,_,j,o⟩:=h.rd _ _ q
 cases j;exact⟨b,off,rfl,l,m,o⟩
section
variable {wb w W W':World}{g gs gs' mb rate u n k:Nat}{sd c:Int}{bs bs2:List Bt}{vL vM:Value}{str str':List UInt8}{X X':Nat->Prop}
theorem TW.read(h:TW wb w g gs rate sd c u n bs mb vL vM k bs2 str noP noP X)(o:SK wb W g gs rate sd c 0 u n bs (fun i=>(MoB mb vL vM i\/InW noP i\/InW noP i\/X i)\/v.ownBlock=some i))(l:Stay (fun i=>MoB mb vL vM i\/InW noP i\/InW noP i\/X i) w W)(m: ∀i,(MoB mb vL vM i\/InW noP i\/InW noP i\/X i)->v.ownBlock≠some i):
  TW wb W g gs rate sd c u n bs mb vL vM k bs2 str noP noP (fun i=>X i\/v.ownBlock=some i)/\Stay X w W:=by
 obtain⟨r,hm,q⟩:=h.mo;refine⟨⟨o.beside fun i b=>?_,⟨r,hm.same fun i b=>l i (.inl b),q⟩,h.ok2,h.few2,fun i b=>⟨(h.lowM i b).1,fun e=>?_⟩,fun j x s d=>(by cases d),fun j x s d=>(by cases d),fun j x s d=>(by cases d),fun j x s d=>(by cases d)⟩,fun i b=>l i (.inr (.inr (.inr b)))⟩
 ·rcases b with b|b|b|b|b
  ·exact .inl (.inl b)
  ·exact absurd b z5X
  ·exact absurd b z5X
  ·exact .inl (.inr (.inr (.inr b)))
  ·exact .inr b
 ·rcases e with e|e
  ·exact(h.lowM i b).2 e
  ·exact m i (.inl b) e
theorem TW.base(h:TW wb W g gs rate sd c u n bs mb vL vM k bs2 str noP noP X):Ext wb W:=h.sk.base
end
theorem y3P(bs:List Bt)(C:Cur)(ct:Int)(h:z0Y C ct=0):(z4I bs C ct).st=C.st:=by
 unfold z4I;rw[κ (by rw[h];decide)];split<;>rfl
theorem z6p(C:Cur)(ct:Int):z0Y C ct=0\/z0Y C ct=2:=by unfold z0Y;split;exact .inl rfl;exact .inr rfl
theorem cursorspage_c{co:Option Addr}{n U cc:Nat}{A:List Acm}(sd:Int)(rate:Nat)(d:Int)(w:World)(ht:TabW w)(r:Acs w ao n cap A)(O:Curs w co U cc L)(M1:0<=sd)(N1:sd<18446744073709551616)(L1:0<=d)(W1:d<=65535):
  Calls Tryz.prog 5 #[.slice ao n cap,.slice co U cc,.agg #[.int .u64 sd,.float .f64 rate,.int .u16 d]] w fun e w'=>e= .returned (.bool true)/\Ext w w':=by
 have Q:=q0B w (.cells #[.int .u64 sd,.float .f64 rate,.int .u16 d] 27);have T0:=Blk.new w 27 #[.int .u64 sd,.float .f64 rate,.int .u16 d];have HG:=η (y2k 40 _ (r.ext Q));have HX:=η Q;have v0:=η T0;have HA:=η (r.ext Q);have G0:=η (O.ext Q);have HT:=η ht;have P1:=r.len;have Q1:=r.fits;have R1:=r.bound;have S1:=O.fits;have T1:=O.bound;have I1:=O.len;obtain⟨z,hz⟩: ∃z,q7b A 40=z:=⟨_,rfl⟩
 rw[hz] at HG;clear r Q T0 ht O;go_enter Tryz.func5,Tryz.ntmps5;go_wp2_with fail;refine HG.o.mono ?_;rintro e w1 ⟨rfl,r⟩;have I:=η (HX.o.trans r);have h0:=η (v0.o.ext r);have u0:=η (HA.o.ext r);have E0:=η (G0.o.ext r);have a0:=η (fun W (k:Ext w W)=>y3N W (HT.o.ext k));clear r HG v0 HA HX G0
 cases z with
 | true=>
  go_wp2_with fail;refine(a0.o w1 I.o).mono ?_;rintro e w2 ⟨rfl,r⟩;have l0:=η (I.o.trans r);clear r;go_wp2_with fail;go_ret;exact⟨rfl,l0.o⟩
 | false =>
  by_cases hl:8<U
  ·have J1:decide ((8:Int)<(U:Int))=true:=ζ (by omega)
   go_wp2_with fail;refine(a0.o w1 I.o).mono ?_;rintro e w2 ⟨rfl,r⟩;have l0:=η (I.o.trans r);clear r;go_wp2_with fail;go_ret;exact⟨rfl,l0.o⟩
  have J1:decide ((8:Int)<(U:Int))=false:=ε (by omega);have o0:=z8u hz;have e1:n<=40:=by have:=o0.1;omega
  have M:=h0.o;have k0:=M.cell 0;have k1:=M.cell 1;have k2:=M.cell 2;have H0:=η (y0f sd rate d w1 u0.o M1 N1 e1 o0.2);have G:=η (q0B w1 (.cells #[.int .u64 sd,.float .f64 rate,.int .u16 d] 27));clear o0 hz M;go_wp2_with fail;refine H0.o.mono ?_;rintro e w2 ⟨g,gs,mb,u,m,bs,vL,vM,rfl,hF,hu,hm⟩;obtain⟨wf,j1⟩: ∃wf,w1.alloc (.cells #[.int .u64 sd,.float .f64 rate,.int .u16 d] 27)=wf:=⟨_,rfl⟩
  rw[j1] at hF G;have HF:Hd (TW wf w2 g gs rate sd 1048576 u m bs mb vL vM m bs [] noP noP (fun _=>False)):=η hF;have F1:=η (I.o.trans G.o);have v1:=η (E0.o.ext G.o);have C0:=η (h0.o.ext G.o);obtain⟨q0,p0⟩: ∃q0,w.heap.size=q0:=⟨_,rfl⟩
  have B1:=η p0;rw[p0] at C0;have O1:=hF.sk.few;clear hF hu j1 H0 k0 k1 k2 p0 G u0 h0 E0;go_wp2_with fail
  go_loopw [11] (fun oi W=> ∃j:Nat,oi= .int .i64 (j:Int)/\j<=U/\TW wf W g gs rate sd 1048576 u m bs mb vL vM m bs [] noP noP (fun _=>False)) (fun i _=>U-(intOf i).toNat)
  case atStart=>exact⟨0,rfl,υ _,HF.o⟩
  case round =>
   obtain⟨j,rfl,hj,s⟩:=hrel;have P0:=η s;have d0:=η (F1.o.trans s.base);have Y0:=v1.o.ext s.base;have X0:=C0.o.ext s.base;have A1:=η Y0;have u1:=η X0;clear s Y0 X0 HF;by_cases Z0:j<U
   ·have hd:decide ((j:Int)<(U:Int))=true:=ζ (by omega)
    have V1:(j:Int)<(U:Int):=by omega
    have q8:IntKind.i64.wrap ((j:Int)+1)=(j:Int)+1:=by rw[ν];omega
    obtain⟨b0,off,rfl,c0,c1,c2⟩:=A1.o.at Z0;generalize L.getD j z0D=C at*;by_cases e0:100<C.st.length
    ·have d1:decide ((100:Int)<(C.st.length:Int))=true:=ζ (by omega)
     clear e0;go_wp2_with fail;refine(a0.o wr d0.o).mono ?_;rintro e w3 ⟨rfl,r⟩;have m0:=η (d0.o.trans r);clear r;go_wp2_with fail
     (try rw[Exit.noGoto_ret])
     go_ret;exact⟨rfl,m0.o⟩
    have d1:decide ((100:Int)<(C.st.length:Int))=false:=ε (by omega);have R0:C.st.length<=100:=by omega
    obtain⟨st,nx,dn⟩:=C;simp only at c0 c1 c2 d1 R0;have m2:=q2K B1.o (u1.o.cell 2);obtain⟨R7,H1⟩: ∃R7:Int,d.tmod 7=R7:=⟨_,rfl⟩
    have q1:IntKind.i64.wrap d=d:=by rw[ν];omega
    have q2:0<=R7/\R7<=6:=by rw[<-H1,Int.tmod_eq_emod_of_nonneg L1];omega
    have K0:=η q2;clear q2 e0;go_wp2_with fail;have x0:=q0A (Ext.refl _).drew c0;have x1:=q0A (Ext.refl _).drew c1;have x2:=q0A (Ext.refl _).drew c2;have x3:=q0A (Ext.refl _).drew m2;have Z:Hd (∀W,Ext wr W->(W.cell? ⟨b0,off+j*3,none⟩=some (.string ⟨st.toArray⟩)/\W.cell? ⟨b0,off+j*3+1,none⟩=some (.int .i64 nx)/\W.cell? ⟨b0,off+j*3+2,none⟩=some (.bool dn)/\W.cell? ⟨w.heap.size,2,none⟩=some (.int .u16 d))):=η fun W kk=>⟨q0A kk c0,q0A kk c1,q0A kk c2,q0A kk m2⟩
    refine q0k (fun W:World=>W.cell? ⟨b0,off+j*3,none⟩=some (.string ⟨st.toArray⟩)/\W.cell? ⟨b0,off+j*3+1,none⟩=some (.int .i64 nx)/\W.cell? ⟨b0,off+j*3+2,none⟩=some (.bool dn)/\W.cell? ⟨w.heap.size,2,none⟩=some (.int .u16 d)) 11 (by kernel_rfl) ⟨x0,x1,x2,x3⟩ (fun b=>?_);refine q0U 0 b (fun b=>?_);refine q0U 1 b (fun b=>?_);refine q0U 2 b (fun b=>?_);refine q2n 3 b (fun b=>?_);refine q0U 4 b (fun b=>?_);refine q2n 5 b (fun b=>?_);refine q0U 6 b (fun b=>?_);refine q0U 7 b (fun b=>?_);simp only[Act.put,π,ψ,ω];refine q0R (i:=8) (by kernel_rfl) rfl (fun K hK=>?_)
    go_simp
    refine hK.out _ _ (Z.o _ ((Ext.refl _).drew.trans (q0B _ _))) (fun b=>?_);clear hK K
    try simp only[Act.put,π,ψ,ω]
    refine q0R (i:=9) (by kernel_rfl) rfl (fun K hK=>?_)
    go_simp
    refine hK.out _ _ (Z.o _ ((Ext.refl _).drew.trans (q0B _ _))) (fun b=>?_);clear hK K
    try simp only[Act.put,π,ψ,ω]
    refine q0R (i:=10) (by kernel_rfl) rfl (fun K hK=>?_)
    go_simp
    refine hK.out _ _ (Z.o _ ((Ext.refl _).drew.trans (q0B _ _))) (fun b=>?_);clear hK K
    try simp only[Act.put,π,ψ,ω]
    refine q0w (by kernel_rfl) ?_
    try simp only[List.drop_succ_cons,List.drop_zero,List.drop_nil]
    clear b;go_wp2_with fail;obtain⟨F,q⟩: ∃F,wr.heap.size=F:=⟨_,rfl⟩
    have m1:Ext wr (wr.drew.alloc (.cells #[.string ⟨st.toArray⟩,.int .i64 nx,.bool dn] 63)):=(Ext.refl _).drew.trans (q0B _ _);have V0:Blk (wr.drew.alloc (.cells #[.string ⟨st.toArray⟩,.int .i64 nx,.bool dn] 63)) F 63 #[.string ⟨st.toArray⟩,.int .i64 nx,.bool dn]:=by rw[<-q];exact Blk.new wr.drew 63 #[.string ⟨st.toArray⟩,.int .i64 nx,.bool dn]
    have N0:=η (P0.o.more (X':=fun i=>i=F) m1 fun i hi=> .inr (by rw[ρ];show wr.heap.size<=i/\i<wr.heap.size+1;omega));have g0:wf.heap.size<=F:=by rw[<-q];exact P0.o.base.size
    have l:=η q;have B0:=η V0;have i0:=η g0;have r0:=K0.o.1;have r6:=K0.o.2;clear q m1 V0 g0 c0 c1 c2 x0 x1 x2 x3 m2 Z d1 q1
    go_loopw [13,14] (fun oc ot W=> ∃(t:Nat) (ct:Int) (C:Cur),oc= .int .i64 ct/\ot= .int .i64 (t:Int)/\t<=4/\0<=ct/\ct<=6+4*(t:Int)/\C.st.length<=100/\TW wf W g gs rate sd 1048576 u m bs mb vL vM m bs [] noP noP (fun i=>i=F)/\Blk W F 63 #[.string ⟨C.st.toArray⟩,.int .i64 C.nx,.bool C.dn]) (fun _ ot _=>4-(intOf ot).toNat)
    case atStart=>exact⟨0,R7,⟨st,nx,dn⟩,rfl,rfl,υ _,r0,by omega,R0,N0.o,B0.o⟩
    case round=>
     obtain⟨t,ct,C,rfl,rfl,X1,U1,M,Q0,s,W0⟩:=hrel;have j0:=η s;have V:=η W0;clear s W0 N0 B0;by_cases a1:t<4
     ·have d2:decide ((t:Int)<4)=true:=ζ (by omega)
      have q3:IntKind.i64.wrap ((t:Int)+1)=(t:Int)+1:=by rw[ν];omega
      have q4:IntKind.i64.wrap (ct+(t:Int))=ct+(t:Int):=by rw[ν];omega
      have J0:=η (z3i j0.o.sk (by omega) C (by omega) ct (by omega));have t0:=y3P bs C ct;have S0:=z6p C ct;have L0:=η (fun (W:World) (vL vM:Value) (ms:List Value) (hm:MoI W mb wf.heap.size vL vM (tos bs) ms) (K1:okBs bs)=>y3W hm K1 (by omega) C (by omega) ct (by omega));have k0:=q2K l.o (V.o.cell 0);have k1:=q2K l.o (V.o.cell 1);have k2:=q2K l.o (V.o.cell 2);generalize z0Y C ct=N at*;generalize z2q bs C ct=T at*;generalize z4I bs C ct=Y at*;generalize z6o bs C ct=E at*;obtain⟨cs,cn,cd⟩:=C;obtain⟨ys,yn,yd⟩:=Y;simp only at k0 k1 k2 Q0 t0;have D1:=η t0;have F0:=η Q0;clear t0;have G1:N=0\/N=2:=S0;clear S0;go_wp2_with fail;refine J0.o.mono ?_;rintro e w3 ⟨v,rfl,s1,s2,s3,s4⟩;obtain⟨va,vc,rfl⟩:=q0F s3;obtain⟨h3,g1⟩:=j0.o.read s1 s2 s4;have U0:=V.o.same (g1 F rfl);have y:=q0B w3 (.cells #[.string ⟨ys.toArray⟩,.int .i64 yn,.bool yd] 63);have h1:=(q7V s3).1.ext y;have D:=Blk.new w3 63 #[.string ⟨ys.toArray⟩,.int .i64 yn,.bool yd];have h4:=(h3.more (X':=fun i=>i=F) (Ext.refl _) (fun i hi=> .inl (.inl hi))).grow y;have J:=U0.ext y;have E1:=η h1;have t1:=η D;have H4:=η h4;have o1:=η J;obtain⟨ms,b1,_⟩:=h4.mo;have M0:=η (L0.o _ _ _ _ b1 h4.ok2);have k0:=q2K l.o (J.cell 0);have k1:=q2K l.o (J.cell 1);have k2:=q2K l.o (J.cell 2);clear s1 s2 s3 s4 h3 g1 U0 y h1 D h4 J b1 J0 L0;go_wp2_with fail;refine M0.o.mono ?_;rintro e w5 ⟨v2,rfl,l1,s0⟩;obtain⟨vb,vd,rfl⟩:=q0F s0;have y:=q0B w5 (.cells #[.string ⟨ys.toArray⟩,.int .i64 yn,.bool yd] 67);have R:=l1.trans y;have i1:=(q7V s0).1.ext y;have O0:=η (y3i _ (E1.o.ext R) i1);have B:=Blk.new w5 67 #[.string ⟨ys.toArray⟩,.int .i64 yn,.bool yd];have r1:=η B;have D0:=η (t1.o.ext R);have H6:=η (H4.o.grow R);have p1:=η (o1.o.ext R);clear l1 s0 y R i1 B M0 k0 k1 k2;go_wp2_with fail;refine O0.o.mono ?_;rintro e w7 ⟨rfl,S⟩;have D:=D0.o.ext S;have B:=r1.o.ext S;have q:=p1.o.ext S;have H7:=η (H6.o.grow S);have w0:=η q;have n0:=D.cell 0;have n1:=D.cell 1;have n2:=D.cell 2;have y0:=B.cell 0;have y1:=B.cell 1;have y2:=B.cell 2;have z0:=q2K l.o (q.cell 0);have z1:=q2K l.o (q.cell 1);have z2:=q2K l.o (q.cell 2);have f0:=z8L l.o (q.free 0);have f1:=z8L l.o (q.free 1);have f2:=z8L l.o (q.free 2);clear S D B q O0;rcases G1 with rfl|rfl
      ·have I0:=η (((H7.o.poke (x:=F) rfl i0.o 0 (.string ⟨ys.toArray⟩)).poke (x:=F) rfl i0.o 1 (.int .i64 yn)).poke (x:=F) rfl i0.o 2 (.bool yd))
       have A0:=η (((w0.o.set 0 (.string ⟨ys.toArray⟩)).set 1 (.int .i64 yn)).set 2 (.bool yd));have C1:=η (D1.o rfl);rw[<-l.o] at I0 A0;go_wp2_with fail
       go_roundw
       case rel=>exact⟨t+1,ct+(t:Int),⟨ys,yn,yd⟩,by go_num,by go_num,by omega,by omega,by omega,by show ys.length<=100;rw[C1.o];exact F0.o,by rw[<-l.o];exact I0.o,by rw[<-l.o];exact A0.o⟩
       case measure=>simp[intOf];omega
      ·go_wp2_with fail
       go_roundw
       case rel=>exact⟨t+1,ct+(t:Int),⟨cs,cn,cd⟩,by go_num,by go_num,by omega,by omega,by omega,F0.o,H7.o,w0.o⟩
       case measure=>simp[intOf];omega
     ·have d2:decide ((t:Int)<4)=false:=ε (by omega)
      have HE:=η (j0.o.more (X':=fun _=>False) (Ext.refl _) fun i hi=>hi.elim);clear a1;go_wp2_with fail
      go_roundw
      case rel=>exact⟨j+1,by go_num,by omega,HE.o⟩
      case measure=>simp[intOf];omega
   ·obtain rfl:j=U:=by omega
    have hd:decide ((j:Int)<(j:Int))=false:=ε (by omega);clear Z0;go_wp2_with fail;refine(a0.o wr d0.o).mono ?_;rintro e w3 ⟨rfl,r⟩;have m0:=η (d0.o.trans r);clear r;go_wp2_with fail;go_ret;exact⟨rfl,m0.o⟩
end
section
open Go.RowKit Go.WideShapes Go.ChangeShapes Go.Deep
theorem y1L{enc:TypeId×Value->H}{w:World}{base:Nat}{i:Bool}{cs:List Value}{y:DataW H×List MemPlace}
  (h:DataW.trod enc Tryz.prog w base (fun _=>true) i fuel 63 cs=some y): ∃x:Cur,cs=cuc x:=by
 obtain⟨I,J,M,G,_,j,B,C,D⟩:=trod_struct3 Tryz.underlying63 h;have hce:Tryz.prog.cellsOf 63=3:=by kernel_rfl
 have o:Tryz.prog.cellsOf 9=1:=by kernel_rfl
 have m:Tryz.prog.cellsOf 3=1:=by kernel_rfl
 have l:Tryz.prog.cellsOf 4=1:=by kernel_rfl
 rw[hce] at j
 match cs,j with
 | [c2,c3,c4],_=>
  simp only[o,m,l] at B C D;obtain⟨t,q,_,F⟩:=DataW.trod_string Tryz.underlying9 B;obtain⟨d,r,_,E⟩:=DataW.trod_int Tryz.underlying3 C;obtain⟨b,s,_⟩:=DataW.trod_bool Tryz.underlying4 D;simp at q r s;subst q r s;exact⟨⟨t.data.toList,d,b⟩,by unfold cuc;cases t;rfl⟩
theorem open_curs{enc:TypeId×Value->H}{w:World}{base:Nat}{s:Bool}{U:Nat}{n:Nat}{y:DataW H×List MemPlace}
  (M:DataW.trod enc Tryz.prog w base (fun _=>true) s U 74 [.slice ao n cap]=some y):
  ∃L,Curs w ao n cap L:=by
 have hc:Tryz.prog.cellsOf 63=3:=by kernel_rfl
 rcases open_slice Tryz.underlying74 M with⟨q,_⟩|⟨a,len,O,m,n',D,Pl,q,_,hl,hm,E,_,G⟩
 ·simp only[List.cons.injEq,and_true] at q
  cases q;exact⟨[],⟨rfl,ι _,by omega,fun _=>rfl,Rd.nil _ _⟩⟩
 ·simp only[List.cons.injEq,and_true] at q
  cases q;simp only[if_true] at E;subst E;rw[hc] at G;have Z: ∀i,∃k:Cur,i<n->(∀j,j<3->w.cell? ((a.add (i*3)).add j)=(cuc k)[j]?):=fun i=>by
   by_cases N:i<n
   ·obtain⟨S,J,ht⟩:=G i (by omega)
    obtain⟨_,V,I⟩:=World.cells?_some J;obtain⟨k,rfl⟩:=y1L ht;exact⟨k,fun _=>I⟩
   ·exact⟨z0D,fun h=>absurd h N⟩
  obtain⟨f,Q⟩:=Classical.axiomOfChoice Z;have l:((List.range n).map f).length=n:=by simp
  have x: ∀i,i<n->((List.range n).map f).getD i z0D=f i:=fun i G=>by
   rw[δ,List.getElem?_map,List.getElem?_range G];rfl
  refine⟨(List.range n).map f,⟨l,hl,by unfold maxLen at hm;omega,(fun h=>by cases h),?_⟩⟩;intro j u R;have Y:j<n*3:=by
   have:=(List.getElem?_eq_some_iff.1 R).1
   rwa [z3k,l] at this
  have o:j/3<n:=by omega
  have F:j % 3<3:=Nat.mod_lt _ (by decide);have B:j/3*3+j % 3=j:=by omega
  have C:=q8a ((List.range n).map f) (j/3) (j % 3) (by rw[l];exact o) F;rw[B,x _ o,R] at C;have r:=Q 0 (by omega) 0 (by decide);rw[Nat.zero_mul,add_add,Nat.add_zero] at r;obtain⟨b,off,rfl⟩:=q9R r;have d:=Q (j/3) o (j % 3) F;rw[add_add,B,<-C,z0r] at d;exact⟨b,off,rfl,d⟩
end
end Go.Proofs.YthdekbmdkpcooaaGreatDoor
