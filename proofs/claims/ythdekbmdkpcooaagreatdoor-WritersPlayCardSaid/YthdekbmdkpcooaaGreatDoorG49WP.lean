/- Acts, and how a store is made, that came in, laid open. -/
import Derived.Test.YthdekbmdkpcooaaGreatDoorG26WP
import Derived.Lib.SmallJoins
import Derived.Deep.Strs
set_option linter.unusedVariables false
set_option linter.unusedSimpArgs false
set_option maxRecDepth 100000
set_option maxHeartbeats 12800000
namespace Go.Proofs.YthdekbmdkpcooaaGreatDoor
open Go.RowKit Go.WideShapes Go.ChangeShapes Go.Deep
theorem q7m {H:Type} {enc:TypeId×Value→H} {P:Program} {w:World} {base:Nat} {spare:Nat→Bool} {held:Bool} {fuel:Nat} {t:TypeId} {c:Value} {y:DataW H×List MemPlace} (ht:P.underlying t=some (.float .f64))
  (h:DataW.trod enc P w base spare held fuel t [c]=some y): ∃b,c= .float .f64 b∧b<18446744073709551616:=by
 cases fuel with
 |zero=>simp[DataW.trod] at h
 | succ n=>
  simp only[DataW.trod,ht] at h
  cases c<;>simp at h;rename_i k' b;obtain ⟨⟨h1,h2⟩,_⟩:=h;subst h1;exact ⟨b,rfl,by simpa [Lit.wf] using h2⟩
theorem z9B {H:Type} {enc:TypeId×Value→H} {w:World} {base:Nat} {held:Bool} {fuel:Nat} {cs:List Value} {y:DataW H×List MemPlace}
  (h:DataW.trod enc Tryz.prog w base (fun _=>true) held fuel 85 cs=some y): ∃x:Ev,cs=evc x∧x.ty.length≤9223372036854775807∧x.da.length≤9223372036854775807∧x.we<18446744073709551616:=by
 obtain ⟨z0,z1,z2,n2,_,hl2,g0,g1,g2⟩:=trod_struct3 Tryz.underlying85 h;have hce:Tryz.prog.cellsOf 85=3:=by kernel_rfl
 have hcs:Tryz.prog.cellsOf 9=1:=by kernel_rfl
 have hcf:Tryz.prog.cellsOf 24=1:=by kernel_rfl
 rw[hce] at hl2
 match cs,hl2 with
 | [c2,c3,c4],_=>
  simp only[hcs,hcf] at g0 g1 g2;obtain ⟨t,e2,_,ht⟩:=DataW.trod_string Tryz.underlying9 g0;obtain ⟨d,e3,_,hd⟩:=DataW.trod_string Tryz.underlying9 g1;simp at e2 e3;subst e2 e3;obtain ⟨b,rfl,hb⟩:=q7m Tryz.underlying24 g2;refine ⟨⟨t.data.toList,d.data.toList,b⟩,by unfold evc;cases t;cases d;rfl,?_,?_,hb⟩
  all_goals
   unfold maxLen at ht hd;simp only[Array.length_toList]
   assumption
theorem z6y {H:Type} {enc:TypeId×Value→H} {w:World} {base:Nat} {held:Bool} {f0:Nat} {ao:Option Addr} {n cap:Nat} {y:DataW H×List MemPlace}
  (hf0:DataW.trod enc Tryz.prog w base (fun _=>true) held f0 43 [.slice ao n cap]=some y):
  ∃L,Evs w ao n cap L∧ ∀x∈L,x.ty.length≤9223372036854775807∧x.da.length≤9223372036854775807∧x.we<18446744073709551616:=by
 have hc:Tryz.prog.cellsOf 85=3:=by kernel_rfl
 rcases open_slice Tryz.underlying43 hf0 with ⟨e1,_⟩|⟨a,len,cap',m,n',D,Pl,e1,_,hl,hm,hmm,_,hi⟩
 ·simp only[List.cons.injEq,and_true] at e1
  cases e1;exact ⟨[],⟨rfl,Nat.le_refl _,by omega,fun _=>rfl,Rd.nil _ _⟩,fun x h=>by cases h⟩
 ·simp only[List.cons.injEq,and_true] at e1
  cases e1;simp only[if_true] at hmm;subst hmm;rw[hc] at hi;have hk: ∀i,∃k:Ev,i<n→(∀j,j<3→w.cell? ((a.add (i*3)).add j)=(evc k)[j]?)∧k.ty.length≤9223372036854775807∧k.da.length≤9223372036854775807∧k.we<18446744073709551616:=fun i=>by
   by_cases hil:i<n
   ·obtain ⟨cs',hcs,ht⟩:=hi i (by omega)
    obtain ⟨_,hcl,hat⟩:=World.cells?_some hcs;obtain ⟨k,rfl,hkl⟩:=z9B ht;exact ⟨k,fun _=>⟨hat,hkl⟩⟩
   ·exact ⟨ev0,fun h=>absurd h hil⟩
  obtain ⟨f,hf⟩:=Classical.axiomOfChoice hk;have hlen:((List.range n).map f).length=n:=by simp
  have hget: ∀i,i<n→((List.range n).map f).getD i ev0=f i:=fun i hi=>by
   rw[List.getD_eq_getElem?_getD,List.getElem?_map,List.getElem?_range hi];rfl
  refine ⟨(List.range n).map f,⟨hlen,hl,by unfold maxLen at hm;omega,(fun h=>by cases h),?_⟩,fun x hx=>?_⟩
  ·intro j u hj
   have hjl:j<n*3:=by
    have:=(List.getElem?_eq_some_iff.1 hj).1
    rwa [q6m,hlen] at this
   have hi3:j/3<n:=by omega
   have hr3:j % 3<3:=Nat.mod_lt _ (by decide);have hjj:j/3*3+j % 3=j:=by omega
   have hkc:=q7S ((List.range n).map f) (j/3) (j % 3) (by rw[hlen];exact hi3) hr3;rw[hjj,hget _ hi3,hj] at hkc;have h0':=(hf 0 (by omega)).1 0 (by decide);rw[Nat.zero_mul,add_add,Nat.add_zero] at h0';obtain ⟨b,off,rfl⟩:=z0n h0';have hcell:=(hf (j/3) hi3).1 (j % 3) hr3;rw[add_add,hjj,←hkc,z3Q] at hcell;exact ⟨b,off,rfl,hcell⟩
  ·obtain ⟨i,hi,rfl⟩:=List.mem_map.1 hx
   exact (hf i (List.mem_range.1 hi)).2
theorem z6p {H:Type} {enc:TypeId×Value→H} {w:World} {base:Nat} {held:Bool} {fuel:Nat} {cs:List Value} {y:DataW H×List MemPlace}
  (h:DataW.trod enc Tryz.prog w base (fun _=>true) held fuel 45 cs=some y): ∃x:Acm,cs=acc x∧Evs w x.ao x.n x.cap x.L∧y1m x:=by
 obtain ⟨xs,n,_,rfl,hl,hlen,hf⟩:=DataW.trod_struct Tryz.underlying45 h;have hc:Tryz.prog.cellsOf 45=5:=by kernel_rfl
 have c0:Tryz.prog.cellsOf 5=1:=by kernel_rfl
 have c1:Tryz.prog.cellsOf 9=1:=by kernel_rfl
 have c3:Tryz.prog.cellsOf 3=1:=by kernel_rfl
 have c4:Tryz.prog.cellsOf 43=1:=by kernel_rfl
 rw[hc] at hl
 match cs,hl with
 | [x0,x1,x2,x3,x4],_=>
  match xs,hlen with
  | [y0,y1,y2,y3,y4],_=>
   have h0:=hf 0 _ rfl;have h1:=hf 1 _ rfl;have h2:=hf 2 _ rfl;have h3:=hf 3 _ rfl;have h4:=hf 4 _ rfl;simp[c0,c1,c3,c4] at h0 h1 h2 h3 h4;obtain ⟨a0,e0,_,wf0⟩:=DataW.trod_int Tryz.underlying5 h0;obtain ⟨a1,e1,_,wf1⟩:=DataW.trod_string Tryz.underlying9 h1;obtain ⟨a2,e2,_,wf2⟩:=DataW.trod_int Tryz.underlying3 h2;obtain ⟨a3,e3,_,wf3⟩:=DataW.trod_int Tryz.underlying3 h3;obtain ⟨a4,l4,k4,e4⟩:=Joins.slice_form Tryz.underlying43 h4;simp only[List.cons.injEq,and_true] at e0 e1 e2 e3 e4;subst e0 e1 e2 e3 e4;obtain ⟨L,hL,hLk⟩:=z6y h4;have hb0:=bounds_u8 wf0;have hb2:=bounds_i64 wf2;have hb3:=bounds_i64 wf3;refine ⟨⟨a0,a1.data.toList,a2,a3,a4,l4,k4,L⟩,by unfold acc;cases a1;rfl,hL,⟨hb0.1,by simp only;omega,?_,hb2.1,hb2.2,hb3.1,hb3.2,hLk⟩⟩;unfold maxLen at wf1;simp only[Array.length_toList]
   assumption
theorem z1m (A:List Acm):(y1M A).length=A.length*5:=by
 induction A with
 |nil=>rfl
 |cons x A ih=>rw[q7R,List.length_append,ih];simp[acc];omega
theorem open_Acs {H:Type} {enc:TypeId×Value→H} {w:World} {base:Nat} {held:Bool} {v:Value} {d:DataW H} {p:List MemPlace}
  (h:DataW.Trod enc Tryz.prog w base (fun _=>true) held 22 v d p) (hs: ∃ao n cap,v= .slice ao n cap):
  ∃ao n cap A,v= .slice ao n cap∧Acs w ao n cap A:=by
 obtain ⟨ao,n,cap,rfl⟩:=hs;obtain ⟨f0,hf0⟩:=h;have e9:(Value.slice ao n cap).cells.toList=[.slice ao n cap]:=by simp[Value.cells]
 rw[e9] at hf0;have hc:Tryz.prog.cellsOf 45=5:=by kernel_rfl
 rcases open_slice Tryz.underlying22 hf0 with ⟨e1,_⟩|⟨a,len,cap',m,n',D,Pl,e1,_,hl,hm,hmm,_,hi⟩
 ·simp only[List.cons.injEq,and_true] at e1
  cases e1;exact ⟨none,0,0,[],rfl,⟨rfl,Nat.le_refl _,by omega,fun _=>rfl,Rd.nil _ _,(fun x h=>by cases h),(fun x h=>by cases h)⟩⟩
 ·simp only[List.cons.injEq,and_true] at e1
  cases e1;simp only[if_true] at hmm;subst hmm;rw[hc] at hi;have hk: ∀i,∃k:Acm,i<n→(∀j,j<5→w.cell? ((a.add (i*5)).add j)=(acc k)[j]?)∧Evs w k.ao k.n k.cap k.L∧y1m k:=fun i=>by
   by_cases hil:i<n
   ·obtain ⟨cs',hcs,ht⟩:=hi i (by omega)
    obtain ⟨_,hcl,hat⟩:=World.cells?_some hcs;obtain ⟨k,rfl,hkl⟩:=z6p ht;exact ⟨k,fun _=>⟨hat,hkl⟩⟩
   ·exact ⟨ac0,fun h=>absurd h hil⟩
  obtain ⟨f,hf⟩:=Classical.axiomOfChoice hk;have hlen:((List.range n).map f).length=n:=by simp
  have hget: ∀i,i<n→((List.range n).map f).getD i ac0=f i:=fun i hi=>by
   rw[List.getD_eq_getElem?_getD,List.getElem?_map,List.getElem?_range hi];rfl
  refine ⟨some a,n,_,(List.range n).map f,rfl,⟨hlen,hl,by unfold maxLen at hm;omega,(fun h=>by cases h),?_,fun x hx=>?_,fun x hx=>?_⟩⟩
  ·intro j u hj
   have hjl:j<n*5:=by
    have:=(List.getElem?_eq_some_iff.1 hj).1
    rwa [z1m,hlen] at this
   have hi3:j/5<n:=by omega
   have hr3:j % 5<5:=Nat.mod_lt _ (by decide);have hjj:j/5*5+j % 5=j:=by omega
   have hkc:=q4u ((List.range n).map f) (j/5) (j % 5) (by rw[hlen];exact hi3) hr3;rw[hjj,hget _ hi3,hj] at hkc;have h0':=(hf 0 (by omega)).1 0 (by decide);rw[Nat.zero_mul,add_add,Nat.add_zero] at h0';obtain ⟨b,off,rfl⟩:=z0n h0';have hcell:=(hf (j/5) hi3).1 (j % 5) hr3;rw[add_add,hjj,←hkc,z3Q] at hcell;exact ⟨b,off,rfl,hcell⟩
  all_goals
   obtain ⟨i,hi,rfl⟩:=List.mem_map.1 hx
   first
    |exact (hf i (List.mem_range.1 hi)).2.1
    |exact (hf i (List.mem_range.1 hi)).2.2
theorem open_how {H:Type} {enc:TypeId×Value→H} {w:World} {base:Nat} {held:Bool} {r:Reach} {b0:Nat} {v:Value} {d:DataW H} {p:List MemPlace}
  (hv:Value.okWide Tryz.prog w r b0 27 v) (h:DataW.Trod enc Tryz.prog w base (fun _=>true) held 27 v d p):
  ∃sd rate room,v= .agg #[.int .u64 sd,.float .f64 rate,.int .u16 room]∧0≤sd∧sd<18446744073709551616∧0≤room∧room≤65535:=by
 obtain ⟨v0,v1,v2,y0,y1,y2,n,rfl,_,_,h0,h1,h2⟩:=Joins.open_agg3 Tryz.underlying27 (by kernel_rfl) (by kernel_rfl) hv h;obtain ⟨a0,e0,_,w0⟩:=DataW.trod_int Tryz.underlying23 h0;obtain ⟨a1,rfl,hb⟩:=q7m Tryz.underlying24 h1;obtain ⟨a2,e2,_,w2⟩:=DataW.trod_int Tryz.underlying25 h2;simp only[List.cons.injEq,and_true] at e0 e2;subst e0 e2;have hb0:=bounds_u64 w0;have hb2:=bounds_u16 w2;exact ⟨a0,a1,a2,rfl,hb0.1,by omega,hb2.1,by omega⟩
end Go.Proofs.YthdekbmdkpcooaaGreatDoor
