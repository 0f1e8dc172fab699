/- Walks. -/
import Derived.RangeFuncNested
import Derived.RangeFuncBound
import Derived.RangeFuncCalls
import Derived.RangeFuncLeaves
import Derived.RangeFuncBox
import Derived.Shelf.Abstract
import Derived.Shelf.RegionOpen
import Derived.OwnWalkIn
import Derived.TacticsInMore
import Derived.LoopNIn
import Derived.LoopIn
import Derived.Maps.AppendAt
import Derived.Test.YthdekbmdkpcooaaGreatDoorG7CT
set_option linter.unusedVariables false
set_option linter.unusedSimpArgs false
set_option maxRecDepth 100000
set_option maxHeartbeats 1600000
namespace Go.Proofs.YthdekbmdkpcooaaGreatDoor
open Go.RowKit Go.Shelf
attribute [local go_sem] Oper.semAt_some
theorem z6T {W W':World} (h:Ext W W'):W.grownBy W' none:=⟨h.os,h.tape,h.output,h.size,fun i hi _=>h.block i hi⟩
def KpB (b:Nat) (W W':World):Prop:=W'.heap[b]? =W.heap[b]?
abbrev y1n (x:Nat×Nat):Array Value:=#[.int .i64 (x.1:Int),.int .i64 (x.2:Int)]
theorem z7G {s:List UInt8} {a:Nat} (h:isR s a=false) (f:Nat):q5P f s a=[]:=by
 cases f with
 |zero=>rfl
 |succ f=>unfold q5P q4z;rw[h];rfl
theorem z5l {s p:List UInt8} {a b:Nat} (h:q4z s a=some (p,b)) {f:Nat} (hf:s.length<a+f): ∃f',q5P f s a=(a,b)::q5P f' s b∧s.length<b+f':=by
 obtain ⟨h1,h2,h3,_⟩:=q9f h
 cases f with
 |zero=>omega
 |succ f=>exact ⟨f,by conv=>lhs;unfold q5P;rw[h],by omega⟩
theorem z7P (n:Nat) (hn:1≤n) (l bf bs:Nat) (s:List UInt8) (a0:Nat) (hl:s.length≤4611686018427387903) (ha0:a0≤s.length) (J Jx:List (Nat×Nat)→World→Prop) (hJ: ∀pre W W',J pre W→Ext W W'→J pre W')
  (hY: ∀pre x W,J pre W→pre.length<(q0k s a0).length→YieldAt Fence.wide (n-1) Tryz.prog l (y1n x) W fun e W'=>
   (e= .returned (.bool true)∧J (pre++[x]) W'∧KpB bs W W')∨(e= .returned (.bool false)∧Jx (pre++[x]) W'))
  (W:World) (hbf:W.cell? ⟨bf,0,none⟩=some (.int .i64 (a0:Int))) (hbs:Boxed W bs 9 (.string ⟨s.toArray⟩)) (h0:J [] W):
  CallsIn Fence.wide n Tryz.prog 229 #[.func (.yield l) #[] #[],.pointer (some ⟨bf,0,none⟩),.pointer (some ⟨bs,0,none⟩)] W fun e W'=>(∃v,e= .returned v)∧
   ((∃ys,ys=q0k s a0∧J ys W')∨(∃pre,pre<+:q0k s a0∧Jx pre W')):=by
 have hG:=fun W (a:Nat) (h:a≤s.length)=>callsIn_wide (n:=n-1).2 (q8r s a W hl (by omega))
 refine callsIn_of_wp Tryz.func229 rfl trivial ?_ rfl;simp only[Tryz.ntmps229,List.size_toArray,List.length_cons,List.length_nil,Nat.reduceAdd,Nat.reduceSub,Array.replicate_succ,Array.replicate_zero,List.push_toArray,List.append_toArray,List.nil_append,List.cons_append]
 gi_wp2
 gi_loopw [4] (fun p wr=> ∃(pre:List (Nat×Nat)) (a f:Nat),p= .int .i64 (a:Int)∧a≤s.length∧q0k s a0=pre++q5P f s a∧s.length<a+f∧J pre wr∧Boxed wr bs 9 (.string ⟨s.toArray⟩))
  (fun p _=>s.length-(intOf p).toNat)
 case atStart=>
  exact ⟨[],a0,s.length+1,rfl,ha0,rfl,by omega,h0,hbs⟩
 case round=>
  obtain ⟨pre,a,f,rfl,hal,hx,hf,hJs,hB⟩:=hrel;have hc:=hB.cell;have HG:=hG wr a hal;have HJ:=Lib.hid hJ
  cases hg:q4z s a with
  | none=>
   have hi:isR s a=false:=by cases h:isR s a with|false=>rfl|true=>(unfold q4z at hg;rw[h] at hg;cases hg)
   rw[z7G hi,List.append_nil] at hx;rw[q7H hi] at HG;have HX:=Lib.hid hx;have HJs:=Lib.hid hJs;clear hx hJs hg hi
   gi_wp2
   refine ⟨trivial,HG.mono ?_⟩;rintro e w1 ⟨rfl,hb1⟩;have HB1:=Lib.hid hb1;clear hb1
   gi_wp2
   refine ⟨fun _ h=>(by cases h),?_⟩
   gi_wp2
   refine bodyPost_ret (results_none rfl _ _ _) rfl ?_;exact ⟨⟨_,rfl⟩,.inl ⟨pre,HX.out.symm,hJ _ _ _ HJs.out HB1.out⟩⟩
  | some r=>
   obtain ⟨p,b⟩:=r;obtain ⟨g1,g2,g3,g4,g5⟩:=q9f hg;obtain ⟨f',hf1,hf2⟩:=z5l hg hf;have hgv:q9U s a= .tuple #[.string ⟨p.toArray⟩,.int .i64 (b:Int),.bool true]:=by unfold q9U;rw[hg]
   rw[hgv] at HG;rw[hf1] at hx;have hlen:pre.length<(q0k s a0).length:=by rw[hx];simp
   have hYW:=Lib.hid (fun W1 h=>hY pre (a,b) W1 h hlen);have HX:=Lib.hid hx;have HJs:=Lib.hid hJs;have HHB:=Lib.hid hB;have hab:a<b:=by omega
   have HF2:=Lib.hid hf2;have HAL:=Lib.hid hal;have HG3:=Lib.hid g3;clear hx hJs hg hgv hf1 hf hc hB hf2 g1 g2 g4 g5 hG hY hbs h0 hbf;have hc:=HHB.out.cell
   gi_wp2
   refine ⟨trivial,HG.mono ?_⟩;rintro e w1 ⟨rfl,hb1⟩;have HB1:=Lib.hid hb1;clear hb1 hc;obtain ⟨fn,tmps,assign,body,hy,hR⟩:=hYW.out w1 (HJ.out _ _ _ HJs.out HB1.out)
   dsimp only[y1n] at hy
   have HR:=Lib.hid hR;clear hR hlen HG hJ hl ha0 hal g3
   gi_wp2
   refine HR.out.mono ?_;rintro e W3 (⟨rfl,hJ3,hk3⟩|⟨rfl,hJx3⟩)
   ·have hB3:Boxed W3 bs 9 (.string ⟨s.toArray⟩):=Eq.trans hk3 ((HB1.out.block bs HHB.out.lt).trans HHB.out)
    gi_wp2
    go_roundw
    case rel=>exact ⟨pre++[(a,b)],b,f',rfl,HG3.out,by rw[HX.out];simp,HF2.out,hJ3,hB3⟩
    case measure=>have:=HAL.out;have:=HG3.out;simp[intOf];omega
   ·gi_wp2
    refine bodyPost_ret (results_none rfl _ _ _) rfl ?_;exact ⟨⟨_,rfl⟩,.inr ⟨pre++[(a,b)],⟨_,by rw[HX.out];simp;rfl⟩,hJx3⟩⟩
end Go.Proofs.YthdekbmdkpcooaaGreatDoor
