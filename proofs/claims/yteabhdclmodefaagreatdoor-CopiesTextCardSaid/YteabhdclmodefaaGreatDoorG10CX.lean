/- Walks. -/
import Derived.RangeFuncNested
import Derived.RangeFuncBound
import Derived.RangeFuncCalls
import Derived.RangeFuncLeaves
import Derived.RangeFuncBox
import Derived.Shelf.Abstract
import Derived.Shelf.RegionOpen
import Derived.OwnWalkIn
import Derived.TacticsInMore
import Derived.LoopNIn
import Derived.LoopIn
import Derived.Maps.AppendAt
import Derived.Test.YteabhdclmodefaaGreatDoorG8CX
set_option linter.unusedVariables false
set_option linter.unusedSimpArgs false
set_option maxRecDepth 100000
set_option maxHeartbeats 1600000
namespace Go.Proofs.YteabhdclmodefaaGreatDoor
variable {a:Nat}
open Go.RowKit Go.Shelf
attribute [local go_sem] Oper.semAt_some
theorem z5R{W W':World}(h:Ext W W'):W.grownBy W' none:=⟨h.os,h.tape,h.output,h.size,fun i b _=>h.block i b⟩
def KpB(b:Nat)(W W':World):Prop:=W'.heap[b]? =W.heap[b]?
abbrev y1g(x:Nat×Nat):Array Value:=#[.int .i64 (x.1:Int),.int .i64 (x.2:Int)]
theorem z7X{s:List UInt8}(h:isR s a=false)(f:Nat):q5R f s a=[]:=by
 cases f with
 |zero=>rfl
 |succ f=>unfold q5R q5E;rw[h];rfl
theorem z5L{s p:List UInt8}{b:Nat}(h:q5E s a=some (p,b)){f:Nat}(i:s.length<a+f): ∃d,q5R f s a=(a,b)::q5R d s b/\s.length<b+d:=by
 obtain⟨h1,h2,h3,_⟩:=z0G h
 cases f with
 |zero=>omega
 |succ f=>exact⟨f,by conv=>lhs;unfold q5R;rw[h],by omega⟩
theorem z7W(n:Nat)(hn:1<=n)(l bf E:Nat)(s:List UInt8)(q:Nat)(hl:s.length<=4611686018427387903)(M:q<=s.length)(J Jx:List (Nat×Nat)->World->Prop)(Z: ∀d W W',J d W->Ext W W'->J d W')
  (hY: ∀d x W,J d W->d.length<(q0m s q).length->YieldAt Fence.wide (n-1) Tryz.prog l (y1g x) W fun e W'=>
   (e= .returned (.bool true)/\J (d++[x]) W'/\KpB E W W')\/(e= .returned (.bool false)/\Jx (d++[x]) W'))
  (W:World)(d0:W.cell? ⟨bf,0,none⟩=some (.int .i64 (q:Int)))(N:Boxed W E 9 (.string ⟨s.toArray⟩))(h0:J [] W):
  CallsIn Fence.wide n Tryz.prog 241 #[.func (.yield l) #[] #[],.pointer (some ⟨bf,0,none⟩),.pointer (some ⟨E,0,none⟩)] W fun e W'=>(∃v,e= .returned v)/\
   ((∃ys,ys=q0m s q/\J ys W')\/(∃d,d<+:q0m s q/\Jx d W')):=by
 have hG:=fun W (a:Nat) (h:a<=s.length)=>callsIn_wide (n:=n-1).2 (q8z s a W hl (by omega))
 refine callsIn_of_wp Tryz.func241 rfl trivial ?_ rfl;simp only[Tryz.ntmps241,List.size_toArray,χ,List.length_nil,Nat.reduceAdd,Nat.reduceSub,Array.replicate_succ,Array.replicate_zero,List.push_toArray,List.append_toArray,List.nil_append,List.cons_append]
 gi_wp2
 gi_loopw [4] (fun p wr=> ∃(d:List (Nat×Nat)) (a f:Nat),p= .int .i64 (a:Int)/\a<=s.length/\q0m s q=d++q5R f s a/\s.length<a+f/\J d wr/\Boxed wr E 9 (.string ⟨s.toArray⟩))
  (fun p _=>s.length-(intOf p).toNat)
 case atStart=>
  exact⟨[],q,s.length+1,rfl,M,rfl,by omega,h0,N⟩
 case round=>
  obtain⟨d,a,f,rfl,C,D,hf,m,X⟩:=hrel;have hc:=X.cell;have F:=hG wr a C;have HJ:=η Z
  cases hg:q5E s a with
  | none=>
   have hi:isR s a=false:=by cases h:isR s a with|false=>rfl|true=>(unfold q5E at hg;rw[h] at hg;cases hg)
   rw[z7X hi,List.append_nil] at D;rw[q7D hi] at F;have S:=η D;have B:=η m;clear D m hg hi
   gi_wp2
   refine⟨trivial,F.mono ?_⟩;rintro e w1 ⟨rfl,i⟩;have j:=η i;clear i
   gi_wp2
   refine⟨fun _ h=>(by cases h),?_⟩
   gi_wp2
   refine bodyPost_ret (results_none rfl _ _ _) rfl ?_;exact⟨⟨_,rfl⟩,.inl ⟨d,S.o.symm,Z _ _ _ B.o j.o⟩⟩
  | some r=>
   obtain⟨p,b⟩:=r;obtain⟨g1,g2,g3,g4,g5⟩:=z0G hg;obtain⟨f',O,Q⟩:=z5L hg hf;have R:z0H s a= .tuple #[.string ⟨p.toArray⟩,.int .i64 (b:Int),.bool true]:=by unfold z0H;rw[hg]
   rw[R] at F;rw[O] at D;have u:d.length<(q0m s q).length:=by rw[D];simp
   have c0:=η (fun W1 h=>hY d (a,b) W1 h u);have S:=η D;have B:=η m;have y:=η X;have f0:a<b:=by omega
   have V:=η Q;have U:=η C;have G:=η g3;clear D m hg R O hf hc X Q g1 g2 g4 g5 hG hY N h0 d0;have hc:=y.o.cell
   gi_wp2
   refine⟨trivial,F.mono ?_⟩;rintro e w1 ⟨rfl,i⟩;have j:=η i;clear i hc;obtain⟨fn,tmps,assign,body,hy,hR⟩:=c0.o w1 (HJ.o _ _ _ B.o j.o)
   dsimp only[y1g] at hy
   have HR:=η hR;clear hR u F Z hl M C g3
   gi_wp2
   refine HR.o.mono ?_;rintro e W3 (⟨rfl,b0,e0⟩|⟨rfl,I⟩)
   ·have Y:Boxed W3 E 9 (.string ⟨s.toArray⟩):=Eq.trans e0 ((j.o.block E y.o.lt).trans y.o)
    gi_wp2
    go_roundw
    case rel=>exact⟨d++[(a,b)],b,f',rfl,G.o,by rw[S.o];simp,V.o,b0,Y⟩
    case measure=>have:=U.o;have:=G.o;simp[intOf];omega
   ·gi_wp2
    refine bodyPost_ret (results_none rfl _ _ _) rfl ?_;exact⟨⟨_,rfl⟩,.inr ⟨d++[(a,b)],⟨_,by rw[S.o];simp;rfl⟩,I⟩⟩
end Go.Proofs.YteabhdclmodefaaGreatDoor
