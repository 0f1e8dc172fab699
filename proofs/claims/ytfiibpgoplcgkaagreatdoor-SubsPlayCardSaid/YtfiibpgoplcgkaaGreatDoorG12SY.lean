/- Walks. -/
import Derived.RangeFuncNested
import Derived.RangeFuncBound
import Derived.RangeFuncCalls
import Derived.RangeFuncLeaves
import Derived.RangeFuncBox
import Derived.Shelf.Abstract
import Derived.Shelf.RegionOpen
import Derived.OwnWalkIn
import Derived.TacticsInMore
import Derived.LoopNIn
import Derived.LoopIn
import Derived.Maps.AppendAt
import Derived.Test.YtfiibpgoplcgkaaGreatDoorG6SY
set_option linter.unusedVariables false
set_option linter.unusedSimpArgs false
set_option maxRecDepth 100000
set_option maxHeartbeats 1600000
namespace Go.Proofs.YtfiibpgoplcgkaaGreatDoor
variable {a:Nat}
open Go.RowKit Go.Shelf
attribute [local go_sem] Oper.semAt_some
theorem z5w{W W':World}(h:Ext W W'):W.grownBy W' none:=⟨h.os,h.tape,h.output,h.size,fun i b _=>h.block i b⟩
def KpB(b:Nat)(W W':World):Prop:=W'.heap[b]? =W.heap[b]?
abbrev y2h(x:Nat×Nat):Array Value:=#[.int .i64 (x.1:Int),.int .i64 (x.2:Int)]
theorem z8J{s:List UInt8}(h:isR s a=false)(f:Nat):q5X f s a=[]:=by
 cases f with
 |zero=>rfl
 |succ f=>unfold q5X q5L;rw[h];rfl
theorem z5o{s p:List UInt8}{b:Nat}(h:q5L s a=some (p,b)){f:Nat}(m:s.length<a+f): ∃d,q5X f s a=(a,b)::q5X d s b/\s.length<b+d:=by
 obtain⟨i,j,l,_⟩:=z0h h
 cases f with
 |zero=>omega
 |succ f=>exact⟨f,by conv=>lhs;unfold q5X;rw[h],by omega⟩
theorem z8I(n:Nat)(hn:1<=n)(l bf bs:Nat)(s:List UInt8)(q:Nat)(hl:s.length<=4611686018427387903)(I:q<=s.length)(J Jx:List (Nat×Nat)->World->Prop)(Y: ∀d W W',J d W->Ext W W'->J d W')
  (hY: ∀d x W,J d W->d.length<(q0o s q).length->YieldAt Fence.wide (n-1) Tryz.prog l (y2h x) W fun e W'=>
   (e= .returned (.bool true)/\J (d++[x]) W'/\KpB bs W W')\/(e= .returned (.bool false)/\Jx (d++[x]) W'))
  (W:World)(c0:W.cell? ⟨bf,0,none⟩=some (.int .i64 (q:Int)))(M:Boxed W bs 9 (.string ⟨s.toArray⟩))(h0:J [] W):
  CallsIn Fence.wide n Tryz.prog 322 #[.func (.yield l) #[] #[],.pointer (some ⟨bf,0,none⟩),.pointer (some ⟨bs,0,none⟩)] W fun e W'=>(∃v,e= .returned v)/\
   ((∃ys,ys=q0o s q/\J ys W')\/(∃d,d<+:q0o s q/\Jx d W')):=by
 have hG:=fun W (a:Nat) (h:a<=s.length)=>callsIn_wide (n:=n-1).2 (q9Y s a W hl (by omega))
 refine callsIn_of_wp Tryz.func322 rfl trivial ?_ rfl;simp only[Tryz.ntmps322,List.size_toArray,χ,List.length_nil,Nat.reduceAdd,Nat.reduceSub,Array.replicate_succ,Array.replicate_zero,List.push_toArray,List.append_toArray,List.nil_append,List.cons_append]
 gi_wp2
 gi_loopw [4] (fun p wr=> ∃(d:List (Nat×Nat)) (a f:Nat),p= .int .i64 (a:Int)/\a<=s.length/\q0o s q=d++q5X f s a/\s.length<a+f/\J d wr/\Boxed wr bs 9 (.string ⟨s.toArray⟩))
  (fun p _=>s.length-(intOf p).toNat)
 case atStart=>
  exact⟨[],q,s.length+1,rfl,I,rfl,by omega,h0,M⟩
 case round=>
  obtain⟨d,a,f,rfl,C,D,hf,m,V⟩:=hrel;have hc:=V.cell;have E:=hG wr a C;have HJ:=η Y
  cases hg:q5L s a with
  | none=>
   have hi:isR s a=false:=by cases h:isR s a with|false=>rfl|true=>(unfold q5L at hg;rw[h] at hg;cases hg)
   rw[z8J hi,List.append_nil] at D;rw[q7R hi] at E;have R:=η D;have B:=η m;clear D m hg hi
   gi_wp2
   refine⟨trivial,E.mono ?_⟩;rintro e w1 ⟨rfl,i⟩;have j:=η i;clear i
   gi_wp2
   refine⟨fun _ h=>(by cases h),?_⟩
   gi_wp2
   refine bodyPost_ret (results_none rfl _ _ _) rfl ?_;exact⟨⟨_,rfl⟩,.inl ⟨d,R.o.symm,Y _ _ _ B.o j.o⟩⟩
  | some r=>
   obtain⟨p,b⟩:=r;obtain⟨g1,g2,g3,g4,g5⟩:=z0h hg;obtain⟨f',N,O⟩:=z5o hg hf;have Q:z0i s a= .tuple #[.string ⟨p.toArray⟩,.int .i64 (b:Int),.bool true]:=by unfold z0i;rw[hg]
   rw[Q] at E;rw[N] at D;have u:d.length<(q0o s q).length:=by rw[D];simp
   have b0:=η (fun W1 h=>hY d (a,b) W1 h u);have R:=η D;have B:=η m;have y:=η V;have e0:a<b:=by omega
   have U:=η O;have S:=η C;have F:=η g3;clear D m hg Q N hf hc V O g1 g2 g4 g5 hG hY M h0 c0;have hc:=y.o.cell
   gi_wp2
   refine⟨trivial,E.mono ?_⟩;rintro e w1 ⟨rfl,i⟩;have j:=η i;clear i hc;obtain⟨fn,tmps,assign,body,hy,hR⟩:=b0.o w1 (HJ.o _ _ _ B.o j.o)
   dsimp only[y2h] at hy
   have HR:=η hR;clear hR u E Y hl I C g3
   gi_wp2
   refine HR.o.mono ?_;rintro e W3 (⟨rfl,Z,d0⟩|⟨rfl,G⟩)
   ·have X:Boxed W3 bs 9 (.string ⟨s.toArray⟩):=Eq.trans d0 ((j.o.block bs y.o.lt).trans y.o)
    gi_wp2
    go_roundw
    case rel=>exact⟨d++[(a,b)],b,f',rfl,F.o,by rw[R.o];simp,U.o,Z,X⟩
    case measure=>have:=S.o;have:=F.o;simp[intOf];omega
   ·gi_wp2
    refine bodyPost_ret (results_none rfl _ _ _) rfl ?_;exact⟨⟨_,rfl⟩,.inr ⟨d++[(a,b)],⟨_,by rw[R.o];simp;rfl⟩,G⟩⟩
end Go.Proofs.YtfiibpgoplcgkaaGreatDoor
