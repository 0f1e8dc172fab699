/- Walks. -/
import Derived.RangeFuncNested
import Derived.RangeFuncBound
import Derived.RangeFuncCalls
import Derived.RangeFuncLeaves
import Derived.RangeFuncBox
import Derived.Shelf.Abstract
import Derived.Shelf.RegionOpen
import Derived.OwnWalkIn
import Derived.TacticsInMore
import Derived.LoopNIn
import Derived.LoopIn
import Derived.Maps.AppendAt
import Derived.Test.YtfiibpgoplcgkaaGreatDoorG6SA
set_option linter.unusedVariables false
set_option linter.unusedSimpArgs false
set_option maxRecDepth 100000
set_option maxHeartbeats 1600000
namespace Go.Proofs.YtfiibpgoplcgkaaGreatDoor
variable {a:Nat}
open Go.RowKit Go.Shelf
attribute [local go_sem] Oper.semAt_some
theorem z6V{W W':World}(h:Ext W W'):W.grownBy W' none:=⟨h.os,h.tape,h.output,h.size,fun i b _=>h.block i b⟩
def KpB(b:Nat)(W W':World):Prop:=W'.heap[b]? =W.heap[b]?
abbrev y3H(x:Nat×Nat):Array Value:=#[.int .i64 (x.1:Int),.int .i64 (x.2:Int)]
theorem z8i{s:List UInt8}(h:isR s a=false)(f:Nat):q4S f s a=[]:=by
 cases f with
 |zero=>rfl
 |succ f=>unfold q4S q5P;rw[h];rfl
theorem z6R{s p:List UInt8}{b:Nat}(h:q5P s a=some (p,b)){f:Nat}(m:s.length<a+f): ∃d,q4S f s a=(a,b)::q4S d s b/\s.length<b+d:=by
 obtain⟨i,j,l,_⟩:=z1B h
 cases f with
 |zero=>omega
 |succ f=>exact⟨f,by conv=>lhs;unfold q4S;rw[h],by omega⟩
theorem z8h(n:Nat)(hn:1<=n)(l bf bs:Nat)(s:List UInt8)(a0:Nat)(hl:s.length<=4611686018427387903)(F:a0<=s.length)(J Jx:List (Nat×Nat)->World->Prop)(V: ∀pre W W',J pre W->Ext W W'->J pre W')
  (hY: ∀pre x W,J pre W->pre.length<(q0m s a0).length->YieldAt Fence.wide (n-1) Tryz.prog l (y3H x) W fun e W'=>
   (e= .returned (.bool true)/\J (pre++[x]) W'/\KpB bs W W')\/(e= .returned (.bool false)/\Jx (pre++[x]) W'))
  (W:World)(Z:W.cell? ⟨bf,0,none⟩=some (.int .i64 (a0:Int)))(G:Boxed W bs 9 (.string ⟨s.toArray⟩))(h0:J [] W):
  CallsIn Fence.wide n Tryz.prog 322 #[.func (.yield l) #[] #[],.pointer (some ⟨bf,0,none⟩),.pointer (some ⟨bs,0,none⟩)] W fun e W'=>(∃v,e= .returned v)/\
   ((∃ys,ys=q0m s a0/\J ys W')\/(∃pre,pre<+:q0m s a0/\Jx pre W')):=by
 have hG:=fun W (a:Nat) (h:a<=s.length)=>callsIn_wide (n:=n-1).2 (q9n s a W hl (by omega))
 refine callsIn_of_wp Tryz.func322 rfl trivial ?_ rfl;simp only[Tryz.ntmps322,List.size_toArray,χ,List.length_nil,Nat.reduceAdd,Nat.reduceSub,Array.replicate_succ,Array.replicate_zero,List.push_toArray,List.append_toArray,List.nil_append,List.cons_append]
 gi_wp2
 gi_loopw [4] (fun p wr=> ∃(pre:List (Nat×Nat)) (a f:Nat),p= .int .i64 (a:Int)/\a<=s.length/\q0m s a0=pre++q4S f s a/\s.length<a+f/\J pre wr/\Boxed wr bs 9 (.string ⟨s.toArray⟩))
  (fun p _=>s.length-(intOf p).toNat)
 case atStart=>
  exact⟨[],a0,s.length+1,rfl,F,rfl,by omega,h0,G⟩
 case round=>
  obtain⟨pre,a,f,rfl,y,B,hf,j,S⟩:=hrel;have hc:=S.cell;have C:=hG wr a y;have HJ:=η V
  cases hg:q5P s a with
  | none=>
   have hi:isR s a=false:=by cases h:isR s a with|false=>rfl|true=>(unfold q5P at hg;rw[h] at hg;cases hg)
   rw[z8i hi,List.append_nil] at B;rw[q7k hi] at C;have O:=η B;have u:=η j;clear B j hg hi
   gi_wp2
   refine⟨trivial,C.mono ?_⟩;rintro e w1 ⟨rfl,d⟩;have i:=η d;clear d
   gi_wp2
   refine⟨fun _ h=>(by cases h),?_⟩
   gi_wp2
   refine bodyPost_ret (results_none rfl _ _ _) rfl ?_;exact⟨⟨_,rfl⟩,.inl ⟨pre,O.o.symm,V _ _ _ u.o i.o⟩⟩
  | some r=>
   obtain⟨p,b⟩:=r;obtain⟨g1,g2,g3,g4,g5⟩:=z1B hg;obtain⟨f',I,M⟩:=z6R hg hf;have N:z1C s a= .tuple #[.string ⟨p.toArray⟩,.int .i64 (b:Int),.bool true]:=by unfold z1C;rw[hg]
   rw[N] at C;rw[I] at B;have m:pre.length<(q0m s a0).length:=by rw[B];simp
   have Y:=η (fun W1 h=>hY pre (a,b) W1 h m);have O:=η B;have u:=η j;have q:=η S;have c0:a<b:=by omega
   have R:=η M;have Q:=η y;have D:=η g3;clear B j hg N I hf hc S M g1 g2 g4 g5 hG hY G h0 Z;have hc:=q.o.cell
   gi_wp2
   refine⟨trivial,C.mono ?_⟩;rintro e w1 ⟨rfl,d⟩;have i:=η d;clear d hc;obtain⟨fn,tmps,assign,body,hy,hR⟩:=Y.o w1 (HJ.o _ _ _ u.o i.o)
   dsimp only[y3H] at hy
   have HR:=η hR;clear hR m C V hl F y g3
   gi_wp2
   refine HR.o.mono ?_;rintro e W3 (⟨rfl,X,b0⟩|⟨rfl,E⟩)
   ·have U:Boxed W3 bs 9 (.string ⟨s.toArray⟩):=Eq.trans b0 ((i.o.block bs q.o.lt).trans q.o)
    gi_wp2
    go_roundw
    case rel=>exact⟨pre++[(a,b)],b,f',rfl,D.o,by rw[O.o];simp,R.o,X,U⟩
    case measure=>have:=Q.o;have:=D.o;simp[intOf];omega
   ·gi_wp2
    refine bodyPost_ret (results_none rfl _ _ _) rfl ?_;exact⟨⟨_,rfl⟩,.inr ⟨pre++[(a,b)],⟨_,by rw[O.o];simp;rfl⟩,E⟩⟩
end Go.Proofs.YtfiibpgoplcgkaaGreatDoor
