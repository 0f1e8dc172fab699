/- Walks. -/
import Derived.RangeFuncNested
import Derived.RangeFuncBound
import Derived.RangeFuncCalls
import Derived.RangeFuncLeaves
import Derived.RangeFuncBox
import Derived.Shelf.Abstract
import Derived.Shelf.RegionOpen
import Derived.OwnWalkIn
import Derived.TacticsInMore
import Derived.LoopNIn
import Derived.LoopIn
import Derived.Test.YtfiibpgoplcgkaaGreatDoorG5WS
import Derived.Test.YtfiibpgoplcgkaaGreatDoorG6WS
set_option linter.unusedVariables false
set_option linter.unusedSimpArgs false
set_option maxRecDepth 100000
set_option maxHeartbeats 1600000
namespace Go.Proofs.YtfiibpgoplcgkaaGreatDoor
variable {W A C:World}{a B b1 b2 b3:Nat}
section
open Go.RowKit Go.Shelf
attribute [local go_sem] Oper.semAt_some
theorem z7S{W':World}(h:Ext W W'):W.grownBy W' none:=⟨h.os,h.tape,h.output,h.size,fun i b _=>h.block i b⟩
def KpB(b:Nat)(W W':World):Prop:=W'.heap[b]? =W.heap[b]?
abbrev y4W(x:Nat×Nat):Array Value:=#[.int .i64 (x.1:Int),.int .i64 (x.2:Int)]
theorem z9g{s:List UInt8}(h:isR s a=false)(f:Nat):q4q f s a=[]:=by
 cases f with
 |zero=>rfl
 |succ f=>unfold q4q q5d;rw[h];rfl
theorem z7L{s p:List UInt8}{b:Nat}(h:q5d s a=some (p,b)){f:Nat}(i:s.length<a+f): ∃d,q4q f s a=(a,b)::q4q d s b/\s.length<b+d:=by
 obtain⟨h1,h2,h3,_⟩:=z1m h
 cases f with
 |zero=>omega
 |succ f=>exact⟨f,by conv=>lhs;unfold q4q;rw[h],by omega⟩
theorem z9f(n:Nat)(hn:1<=n)(l bf bs:Nat)(s:List UInt8)(m:Nat)(hl:s.length<=4611686018427387903)(M:m<=s.length)(J Jx:List (Nat×Nat)->World->Prop)(Z: ∀pre W W',J pre W->Ext W W'->J pre W')
  (hY: ∀pre x W,J pre W->pre.length<(q0s s m).length->YieldAt Fence.wide (n-1) Tryz.prog l (y4W x) W fun e W'=>
   (e= .returned (.bool true)/\J (pre++[x]) W'/\KpB bs W W')\/(e= .returned (.bool false)/\Jx (pre++[x]) W'))
  (W:World)(d0:W.cell? ⟨bf,0,none⟩=some (.int .i64 (m:Int)))(N:Boxed W bs 9 (.string ⟨s.toArray⟩))(h0:J [] W):
  CallsIn Fence.wide n Tryz.prog 322 #[.func (.yield l) #[] #[],.pointer (some ⟨bf,0,none⟩),.pointer (some ⟨bs,0,none⟩)] W fun e W'=>(∃v,e= .returned v)/\
   ((∃ys,ys=q0s s m/\J ys W')\/(∃pre,pre<+:q0s s m/\Jx pre W')):=by
 have hG:=fun W (a:Nat) (h:a<=s.length)=>callsIn_wide (n:=n-1).2 (z0U s a W hl (by omega))
 refine callsIn_of_wp Tryz.func322 rfl trivial ?_ rfl;simp only[Tryz.ntmps322,List.size_toArray,χ,List.length_nil,Nat.reduceAdd,Nat.reduceSub,Array.replicate_succ,Array.replicate_zero,List.push_toArray,List.append_toArray,List.nil_append,List.cons_append]
 gi_wp2
 gi_loopw [4] (fun p wr=> ∃(pre:List (Nat×Nat)) (a f:Nat),p= .int .i64 (a:Int)/\a<=s.length/\q0s s m=pre++q4q f s a/\s.length<a+f/\J pre wr/\Boxed wr bs 9 (.string ⟨s.toArray⟩))
  (fun p _=>s.length-(intOf p).toNat)
 case atStart=>
  exact⟨[],m,s.length+1,rfl,M,rfl,by omega,h0,N⟩
 case round=>
  obtain⟨pre,a,f,rfl,D,E,hf,j,X⟩:=hrel;have hc:=X.cell;have F:=hG wr a D;have HJ:=η Z
  cases hg:q5d s a with
  | none=>
   have hi:isR s a=false:=by cases h:isR s a with|false=>rfl|true=>(unfold q5d at hg;rw[h] at hg;cases hg)
   rw[z9g hi,List.append_nil] at E;rw[q8R hi] at F;have S:=η E;have y:=η j;clear E j hg hi
   gi_wp2
   refine⟨trivial,F.mono ?_⟩;rintro e w1 ⟨rfl,d⟩;have i:=η d;clear d
   gi_wp2
   refine⟨fun _ h=>(by cases h),?_⟩
   gi_wp2
   refine bodyPost_ret (results_none rfl _ _ _) rfl ?_;exact⟨⟨_,rfl⟩,.inl ⟨pre,S.o.symm,Z _ _ _ y.o i.o⟩⟩
  | some r=>
   obtain⟨p,b⟩:=r;obtain⟨g1,g2,g3,g4,g5⟩:=z1m hg;obtain⟨f',O,Q⟩:=z7L hg hf;have R:z1n s a= .tuple #[.string ⟨p.toArray⟩,.int .i64 (b:Int),.bool true]:=by unfold z1n;rw[hg]
   rw[R] at F;rw[O] at E;have q:pre.length<(q0s s m).length:=by rw[E];simp
   have c0:=η (fun W1 h=>hY pre (a,b) W1 h q);have S:=η E;have y:=η j;have u:=η X;have f0:a<b:=by omega
   have V:=η Q;have U:=η D;have G:=η g3;clear E j hg R O hf hc X Q g1 g2 g4 g5 hG hY N h0 d0;have hc:=u.o.cell
   gi_wp2
   refine⟨trivial,F.mono ?_⟩;rintro e w1 ⟨rfl,d⟩;have i:=η d;clear d hc;obtain⟨fn,tmps,assign,body,hy,hR⟩:=c0.o w1 (HJ.o _ _ _ y.o i.o)
   dsimp only[y4W] at hy
   have HR:=η hR;clear hR q F Z hl M D g3
   gi_wp2
   refine HR.o.mono ?_;rintro e W3 (⟨rfl,b0,e0⟩|⟨rfl,I⟩)
   ·have Y:Boxed W3 bs 9 (.string ⟨s.toArray⟩):=Eq.trans e0 ((i.o.block bs u.o.lt).trans u.o)
    gi_wp2
    go_roundw
    case rel=>exact⟨pre++[(a,b)],b,f',rfl,G.o,by rw[S.o];simp,V.o,b0,Y⟩
    case measure=>have:=U.o;have:=G.o;simp[intOf];omega
   ·gi_wp2
    refine bodyPost_ret (results_none rfl _ _ _) rfl ?_;exact⟨⟨_,rfl⟩,.inr ⟨pre++[(a,b)],⟨_,by rw[S.o];simp;rfl⟩,I⟩⟩
end
section
open Go.RowKit Go.Shelf
attribute [local go_sem] Oper.semAt_some
theorem y1Y(n:Nat)(s:List UInt8)(a:Nat)(w:World):
  CallsIn Fence.wide n Tryz.prog 277 #[.string ⟨s.toArray⟩,.int .i64 (a:Int)] w fun e w'=>e= .returned (.func (.func 322) #[] #[.pointer (some ⟨w.heap.size+1,0,none⟩),.pointer (some ⟨w.heap.size,0,none⟩)])/\
   w'=(w.alloc (.cells #[.string ⟨s.toArray⟩] 9)).alloc (.cells #[.int .i64 (a:Int)] 3):=by
 refine callsIn_of_wp Tryz.func277 rfl trivial ?_ rfl;simp only[Tryz.ntmps277,List.size_toArray,χ,List.length_nil,Nat.reduceAdd,Nat.reduceSub,Array.replicate_succ,Array.replicate_zero,List.push_toArray,List.append_toArray,List.nil_append,List.cons_append]
 gi_wp2
 go_ret;exact⟨rfl,rfl⟩
theorem z5f(n:Nat)(D:1<=n)(d bs:Nat)(s:List UInt8)(b:Nat)(y:s.length<=4611686018427387903)(i:b<=s.length)(w:World)(m:Boxed w d 3 (.int .i64 (b:Int)))(o:Boxed w bs 9 (.string ⟨s.toArray⟩)):
  SeqStopsK Fence.wide n Tryz.prog 322 #[.pointer (some ⟨d,0,none⟩),.pointer (some ⟨bs,0,none⟩)] y4W (KpB bs) (fun E=>E=q0s s b) (fun pre=>pre<+:q0s s b) (q0s s b).length w:=fun l J q W j v _ x u=>
 z9f n D l d bs s b y i J q (fun pre A B h k=>v pre A B none h (z7S k) (fun r e=>by cases e)) x W ((j.cell (p:=⟨d,0,none⟩) m.lt).trans m.cell) ((j.block bs o.lt).trans o) u
theorem y0F{b:Nat}{B:World}(h:KpB b A B)(k:KpB b B C):KpB b A C:=Eq.trans k h
theorem y0E{b:Nat}(i:b<B)(W:World)(l:Nat)(o d:Obj)(h:B<=l)(_:W.heap[l]? =some o)(_:o.isCells=false)(_:o.isWalk=false):KpB b W (W.putObj l d):=
 World.putObj_heap_other (fun e=>by omega)
theorem z1b(s:List UInt8): ∀(f a:Nat),(q4q f s a).length<=f
 |0,_=>ι _
 | f+1,a=>by
  unfold q4q
  cases q5d s a with
  |none=>simp
  |some r=>have:=z1b s f r.2;simp;omega
theorem z7N(a:Nat)(l:List (Nat×Nat))(x:Nat×Nat):z0K a (l++[x])=x.2:=by unfold z0K;simp
theorem z0o{fn:Func}{p q:Tmp}{l m:TypeId}(h:fn.results=#[.cell p l,.cell q m])(tmps:Array Value)(P:Program)(w:World):
  (results fn tmps).run P w=
   ((asAddr (tmps.getD p undef)).run P w).andThen fun a w₁=>((loadVar l a).run P w₁).andThen fun v d=>((asAddr (tmps.getD q undef)).run P d).andThen fun b i=>((loadVar m b).run P i).andThen fun u j=> .ok (.tuple #[v,u]) j:=by
 simp only[results,h];simp[Sem.run_bind,Result.andThen]
theorem y4s{w1:World}{n₀ d E b:Nat}{t O e:TypeId}{v l X ve':Value}{k m:Nat}{xs Z:List Value}{r:Obj}
  (Y:Boxed W B t v)(M:t≠e)(hE:Boxed W E O X)(u:E≠B)(hb:b<W.heap.size)(S:b≠B)(U:b≠E)(s:W.ownsRow d e 1 v k xs)(y:d<=W.heap.size)(b0:E<d)(c0:b<d)
  (G:n₀<=d)(Q:n₀<=B)(R:n₀<=E)(q:w1.ownsRow d e 1 l m Z)(i:(W.alloc r).grownBy w1 v.ownBlock):
  Boxed w1 B t v/\Boxed (w1.setCell ⟨B,0,none⟩ l) E O X/\Boxed ((w1.setCell ⟨B,0,none⟩ l).setCell ⟨E,0,none⟩ ve') B t l/\Boxed ((w1.setCell ⟨B,0,none⟩ l).setCell ⟨E,0,none⟩ ve') E O ve'/\
  ((w1.setCell ⟨B,0,none⟩ l).setCell ⟨E,0,none⟩ ve').ownsRow d e 1 l m Z/\KeepsOthers W ((w1.setCell ⟨B,0,none⟩ l).setCell ⟨E,0,none⟩ ve')/\Below n₀ W ((w1.setCell ⟨B,0,none⟩ l).setCell ⟨E,0,none⟩ ve')/\
  KpB b W ((w1.setCell ⟨B,0,none⟩ l).setCell ⟨E,0,none⟩ ve'):=by
 have x: ∀j,v.ownBlock=some j->d<=j:=fun j F=>(q0p s j F).1
 have J: ∀j,l.ownBlock=some j->d<=j:=fun j F=>(q0p q j F).1
 have D:Boxed w1 B t v:=(Y.alloc r).kept i (Y.not_row M s);have I:Boxed w1 E O X:=(hE.alloc r).kept i fun e=>by have:=x E e.symm;omega
 have d0:W.heap.size+1<=w1.heap.size:=by have:=i.size;rw[ρ] at this;exact this
 refine⟨D,I.other u l,(D.set l).other (Ne.symm u) ve',(I.other u l).set ve',?_,?_,?_,?_⟩
 ·exact q0d (q0d q _ (D.not_row M q).symm) _ fun e=>by have:=J _ e;simp at this;omega
 ·refine(((KeepsOthers.alloc W r).trans (KeepsOthers.of_grownBy i fun j o N F=>?_)).trans (KeepsOthers.setCell _ _ _)).trans (KeepsOthers.setCell _ _ _)
  rcases(s.alloc r).2 with⟨rfl,_⟩|⟨g,cap,a0,rfl,_,V,_⟩
  ·simp[Value.ownBlock] at N
  ·obtain rfl:g=j:=by simpa [Value.ownBlock] using N
   rw[V] at F;cases F;rfl
 ·exact((((Below.refl n₀ W).alloc (Ω G y) r).grown i (by simp;omega) fun j N=>Ω G (x j N)).setCell (p:=⟨B,0,none⟩) Q l).setCell (p:=⟨E,0,none⟩) R ve'
 ·have e1:w1.heap[b]? =W.heap[b]? :=(i.block b (by rw[ρ];omega) fun e=>by have:=x b e.symm;omega).trans ((q0C W r).block b hb)
  have e2:(w1.setCell ⟨B,0,none⟩ l).heap[b]? =w1.heap[b]? :=(grownBy_setCell' w1 B l).block b (by omega) fun e=>S (by cases e;rfl)
  have e3:((w1.setCell ⟨B,0,none⟩ l).setCell ⟨E,0,none⟩ ve').heap[b]? =(w1.setCell ⟨B,0,none⟩ l).heap[b]? :=(grownBy_setCell' _ E ve').block b (by rw[World.size_setCell];omega) fun e=>U (by cases e;rfl)
  exact e3.trans (e2.trans e1)
theorem Tryz.infoI :(Tryz.prog.info? 3).map (fun i=>(i.zero,i.size,i.bytes))=some (some (.int .i64 0),1,8):=by kernel_rfl
theorem y2c(s :List UInt8)(a:Nat)(w:World)(hl:s.length<=1048576)(ha:a<=s.length):
  Calls Tryz.prog 222 #[.string ⟨s.toArray⟩,.int .i64 (a:Int)] w fun e w'=> ∃v,e= .returned (.tuple #[v,.int .i64 (z0K a (q0s s a):Int)])/\
   w'.ownsRow w.heap.size 3 1 v (q0s s a).length ((q0s s a).map fun x=>Value.int .i64 (x.1:Int))/\Ext w w':=by
 have k0:decide ((s.length:Int)<(a:Int))=false:=by simp;omega
 refine(callsIn_wide (n:=3)).1 ?_;refine callsIn_of_wp_marks Tryz.func222 rfl trivial ?_ rfl;simp only[Tryz.ntmps222,List.size_toArray,χ,List.length_nil,Nat.reduceAdd,Nat.reduceSub,Array.replicate_succ,Array.replicate_zero,List.push_toArray,List.append_toArray,List.nil_append,List.cons_append]
 gi_wp2
 refine⟨trivial,(y1Y _ s a _).mono ?_⟩;rintro e w' ⟨rfl,rfl⟩
 gi_wp2
 obtain⟨j,i⟩: ∃j,((((w.alloc (Obj.cells #[Value.slice none 0 0] 37)).alloc (Obj.cells #[Value.int IntKind.i64 (a:Int)] 3)).alloc (Obj.cells #[Value.string {data:=s.toArray}] 9)).alloc (Obj.cells #[Value.int IntKind.i64 (a:Int)] 3))=j:=⟨_,rfl⟩
 have n0:j.heap.size=w.heap.size+4:=by rw[<-i];simp
 have b0:Boxed j w.heap.size 37 (.slice none 0 0):=by rw[<-i];exact(((Boxed.new w _ _).alloc _).alloc _).alloc _
 have b1:Boxed j (w.heap.size+1) 3 (.int .i64 (a:Int)):=by
  rw[<-i];have:=Boxed.new (w.alloc (Obj.cells #[Value.slice none 0 0] 37)) 3 (.int .i64 (a:Int));rw[ρ] at this;exact(this.alloc _).alloc _
 have b2:Boxed j (w.heap.size+1+1) 9 (.string ⟨s.toArray⟩):=by
  rw[<-i];have:=Boxed.new ((w.alloc (Obj.cells #[Value.slice none 0 0] 37)).alloc (Obj.cells #[Value.int IntKind.i64 (a:Int)] 3)) 9 (.string ⟨s.toArray⟩);rw[ρ,ρ] at this;exact this.alloc _
 have b3:Boxed j (w.heap.size+1+1+1) 3 (.int .i64 (a:Int)):=by
  rw[<-i];have:=Boxed.new (((w.alloc (Obj.cells #[Value.slice none 0 0] 37)).alloc (Obj.cells #[Value.int IntKind.i64 (a:Int)] 3)).alloc (Obj.cells #[Value.string {data:=s.toArray}] 9)) 3 (.int .i64 (a:Int));rw[ρ,ρ,ρ] at this;exact this
 have d0:Ext w j:=by rw[<-i];exact(q8M w _ _ _).alloc _
 rw[i];clear i;have S:(q0s s a).length<=s.length+1:=z1b s _ _;have O:Hd ((q0s s a).length<=1048577):=η (by omega);clear S;obtain⟨i0,hi,e0,f0,g0⟩:=info_parts Tryz.infoI;refine wpIn_rangeFunc_ownG (F:=Fence.wide) rfl (by omega) (gf:=322) (lb:=#[.pointer (some ⟨w.heap.size+1+1+1,0,none⟩),.pointer (some ⟨w.heap.size+1+1,0,none⟩)]) rfl trivial (enters_of Tryz.func322 (by kernel_rfl) rfl)
  (z5f (3-1) (by omega) (w.heap.size+1+1+1) (w.heap.size+1+1) s a (by omega) ha j b3 b2) y0F (fun W l o o' h=>y0E (by omega) W l o o' h) (Below.refl _ _) (fun _=>rfl)
  (fun pre W=>(∃v,Boxed W w.heap.size 37 v/\W.ownsRow j.heap.size 3 1 v pre.length (pre.map fun x=>Value.int .i64 (x.1:Int))/\True)/\Boxed W (w.heap.size+1) 3 (.int .i64 (z0K a pre:Int))/\j.heap.size<=W.heap.size/\Below w.heap.size w W)
  (fun _ _ _=>False)
  (OwnFrom.and (Own.from (holdsRow_own j.heap.size w.heap.size 37 3 1 (fun pre:List (Nat×Nat)=>pre.length) (fun pre=>pre.map fun x=>Value.int .i64 (x.1:Int)) (fun _ _=>True)) _) (OwnFrom.and (Own.from (boxed_own (w.heap.size+1) 3 fun pre:List (Nat×Nat)=> .int .i64 (z0K a pre:Int)) _) (OwnFrom.and (fun _ _ _ _ hs hg _=>Ω hs hg.size) (ownFrom_below (ι _) (by omega)))))
  (fun _ _ _ _ _ hs _ _=>hs)
  ⟨⟨_,b0,World.ownsRow_nil _ _ _ _,trivial⟩,b1,ι _,d0⟩
  (fun x => {tmps:=#[.string ⟨s.toArray⟩,.int .i64 (a:Int),undef,undef,.pointer (some ⟨w.heap.size,0,none⟩),.pointer (some ⟨w.heap.size+1,0,none⟩),.int .i64 (x.1:Int),.int .i64 (x.2:Int),.int .i64 (a:Int),
       .bool (decide ((a:Int)<0)),.bool (decide ((a:Int)<0)),.int .i64 (a:Int),.string ⟨s.toArray⟩,.int .i64 (s.length:Int),.bool false,.bool (decide ((a:Int)<0)),.int .i64 (a:Int),.string ⟨s.toArray⟩,.int .i64 (a:Int),
       .func (.func 322) #[] #[.pointer (some ⟨w.heap.size+1+1+1,0,none⟩),.pointer (some ⟨w.heap.size+1+1,0,none⟩)],.int .i64 (x.1:Int),.int .i64 (x.2:Int),undef,undef,undef,undef,undef,undef,undef],defers:=[]}) ?assign ?body ?done ?stop
 case assign=>
  intro l x W K hK
  gi_wp2
  exact hK
 case body=>
  rintro l pre x W ⟨⟨v,y,d,_⟩,G,q,Q⟩ Y;have hc:=y.cell;have m0:pre.length<=1048577:=by have:=O.o;omega
  have J:w.heap.size+1+1<W.heap.size:=by omega
  clear Y
  gi_wp2_with (gi_at_builtin;refine wpListIn_append_own _ rfl _ _ 37 rfl j.heap.size 3 i0 (.int .i64 0) 1 8 Tryz.underlying37 hi e0 f0 g0 rfl (by decide) _ _ _ rfl (d.alloc _) ⟨W.heap.size,0,none⟩ 1 1 [.int .i64 (x.1:Int)] rfl rfl (cell_one_new _ _ _) (by simp[Value.oneCell']) (by unfold maxLen;omega) (by omega) (by simp;omega) ?_;intro v' w1 m u _;obtain⟨g',h0,rfl⟩:=ownsRow_succ m;obtain⟨N,I,c0,R,a0,M,U,Z⟩:=y4s (n₀:=w.heap.size) (ve':= .int .i64 (x.2:Int)) (b:=w.heap.size+1+1) y (by decide) G (by omega) J (by omega) (by omega) d q (by omega) (by omega) (by omega) (ι _) (by omega) m u;have j0:=N.cell;have l0:=N.frozen;have V:=I.cell;have X:=I.frozen)
  exact⟨M.from _,Z,⟨⟨_,c0,by simpa using a0,trivial⟩,by rw[z7N];exact R,Ω q M.size,Q.trans U⟩⟩
 case done=>
  rintro D ys W hD rfl ⟨⟨v,y,d,_⟩,G,q,Q⟩ hK;have hc:=y.cell;have V:=G.cell;have hf:=y.frozen;have X:=G.frozen;obtain⟨ao,cap,rfl⟩:=q0H d
  gi_wp2
  gi_region
  have e1:=y.set (.slice ao (q0s s a).length cap);have e2:=(G.other (B':=w.heap.size) (by omega) (.slice ao (q0s s a).length cap)).set (.int .i64 (z0K a (q0s s a):Int));have e3:=e1.other (B':=w.heap.size+1) (by omega) (.int .i64 (z0K a (q0s s a):Int));have e4:=q0d (q0d d (a:=⟨w.heap.size,0,none⟩) (.slice ao (q0s s a).length cap) (y.not_row (by decide) d).symm) (a:=⟨w.heap.size+1,0,none⟩) (.int .i64 (z0K a (q0s s a):Int)) (fun e=>by have:=(q0p d _ e).1;simp at this;omega);have e5:=((KeepsOthers.setCell W ⟨w.heap.size,0,none⟩ (.slice ao (q0s s a).length cap)).trans (KeepsOthers.setCell _ ⟨w.heap.size+1,0,none⟩ (.int .i64 (z0K a (q0s s a):Int)))).same D _ hK rfl;have e6:=(Q.setCell (p:=⟨w.heap.size,0,none⟩) (ι _) (.slice ao (q0s s a).length cap)).setCell (p:=⟨w.heap.size+1,0,none⟩) (by simp) (.int .i64 (z0K a (q0s s a):Int));generalize (W.setCell {block:=w.heap.size,off:=0} (.slice ao (q0s s a).length cap)).setCell {block:=w.heap.size+1,off:=0} (.int .i64 (z0K a (q0s s a):Int))=W2 at*;have d2:Boxed W2.drew (w.heap.size+1) 3 (.int .i64 (z0K a (q0s s a):Int)):=e2;have d3:Boxed W2.drew w.heap.size 37 (.slice ao (q0s s a).length cap):=e3;have d4:W2.drew.ownsRow j.heap.size 3 1 (.slice ao (q0s s a).length cap) (q0s s a).length ((q0s s a).map fun x=>Value.int .i64 (x.1:Int)):=y0Y e4;have E:W2.drew.heap[D]? =some (Obj.deferred (some [])):=e5;have d6:Below w.heap.size w W2.drew:=e6.drew;clear e1 e2 e3 e4 e5 e6;generalize W2.drew=W3 at*
  gi_wp2
  have e7:(W3.putObj D (.deferred none)).cell? ⟨w.heap.size,0,none⟩=some (.slice ao (q0s s a).length cap):=cell_kept d3.cell (grownBy_putObj' _ D (.deferred none)) (fun r e=>by cases e;exact⟨_,E,rfl⟩);have e8:(W3.putObj D (.deferred none)).cell? ⟨w.heap.size+1,0,none⟩=some (.int .i64 (z0K a (q0s s a):Int)):=cell_kept d2.cell (grownBy_putObj' _ D (.deferred none)) (fun r e=>by cases e;exact⟨_,E,rfl⟩);refine⟨by simp,.inl ⟨_,_,rfl,run_takeDeferred E,?_⟩⟩;refine⟨.tuple #[.slice ao (q0s s a).length cap,.int .i64 (z0K a (q0s s a):Int)],?_,_,rfl,q1M (ownsRow_putObj d4 _ E rfl) (by omega),d6.trans (belowK_b (w:=w) (ι _) W3 D _ _ (by omega) E rfl rfl)⟩;rw[z0o rfl]
  go_simp
 case stop=>
  rintro D c pre W _ _ h _;exact h.elim
end
section
open Go.RowKit
theorem z5A(s:List UInt8)(n:Nat)(w:World)(G:n<200)(F:s.length<=1048576)(i:z1E s (q1e n)=true):
  Calls Tryz.prog 163 #[.string ⟨s.toArray⟩,.int .i64 (n:Int)] w fun e w'=> ∃v,e= .returned (.tuple #[v,.int .i64 (z0K 12 (q0s s 12):Int),.bool true])/\
   w'.ownsRow w.heap.size 3 1 v (q0s s 12).length ((q0s s 12).map fun x=>Value.int .i64 (x.1:Int))/\Ext w w':=by
 have l:=q1f n;have y:=η (fun W=>q9z n W G);have d:12<=s.length:=by
  unfold z1E at i;simp only[Ξ,Φ] at i;omega
 generalize q1e n=H at*;have u:=η (fun W=>q5j s H W (by omega) (by omega));rw[i] at u;have E:=η (fun W=>y2c s 12 W F d);clear i;have m:(H==[])=false:=by cases H with|nil=>cases l|cons=>rfl
 have I:¬H=[]:=by simpa using m
 go_enter Tryz.func163,Tryz.ntmps163;go_wp2_with fail;refine(y.o _).mono ?_;rintro e w1 ⟨rfl,b⟩;have r:=η b;clear b;go_wp2_with fail;refine(u.o _).mono ?_;rintro e J ⟨rfl,rfl⟩;go_wp2_with fail;refine(E.o _).mono ?_;rintro e M ⟨v,rfl,q,b⟩;have D:=η (q1M q r.o.size);have j:=η (r.o.trans b);obtain⟨ao,cap,rfl⟩:=q0H q;clear q b;go_wp2_with fail;go_ret3;exact⟨_,rfl,D.o,j.o⟩
end
section
open Go.RowKit Go.Shelf
attribute [local go_sem] Oper.semAt_some
abbrev Bit(b:Nat):={x:Int//0<=x/\x<(b:Int)}
abbrev y4V{b:Nat}(x:Bit b):Array Value:=#[.int .i64 x.1]
def y2h(b1 b2 b3:Nat)(W W':World):Prop:=KpB b1 W W'/\KpB b2 W W'/\KpB b3 W W'
theorem z7K(n:Nat)(hn:1<=n)(l F E D:Nat)(h:Int)(p b:Nat)(hp:p<=16)(hb:1<=b)(Y:b<=1000000)(J Jx:List (Bit b)->World->Prop)
  (V: ∀pre x W,J pre W->pre.length<p->YieldAt Fence.wide (n-1) Tryz.prog l (y4V x) W fun e W'=>
   (e= .returned (.bool true)/\J (pre++[x]) W'/\y2h F E D W W')\/(e= .returned (.bool false)/\Jx (pre++[x]) W'))
  (W:World)(u:Boxed W F 3 (.int .i64 (p:Int)))(s:Boxed W E 23 (.int .u64 h))(r:Boxed W D 3 (.int .i64 (b:Int)))(R:J [] W):
  CallsIn Fence.wide n Tryz.prog 350 #[.func (.yield l) #[] #[],.pointer (some ⟨F,0,none⟩),.pointer (some ⟨E,0,none⟩),.pointer (some ⟨D,0,none⟩)] W fun e W'=>(∃v,e= .returned v)/\
   ((∃ys,True/\J ys W')\/(∃pre,True/\Jx pre W')):=by
 have S:=fun W (i:Nat) (hi:i<=1000000)=>callsIn_wide (n:=n-1).2 (z8N W h i b hi hb Y)
 have f0:¬((64:Int)<(p:Int)):=by omega
 refine callsIn_of_wp Tryz.func350 rfl trivial ?_ rfl;simp only[Tryz.ntmps350,List.size_toArray,χ,List.length_nil,Nat.reduceAdd,Nat.reduceSub,Array.replicate_succ,Array.replicate_zero,List.push_toArray,List.append_toArray,List.nil_append,List.cons_append]
 gi_wp2
 gi_loopw [5] (fun i wr=> ∃(pre:List (Bit b)),i= .int .i64 (pre.length:Int)/\pre.length<=p/\J pre wr/\Boxed wr F 3 (.int .i64 (p:Int))/\Boxed wr E 23 (.int .u64 h)/\Boxed wr D 3 (.int .i64 (b:Int)))
  (fun i _=>p-(intOf i).toNat)
 case atStart=>exact⟨[],rfl,υ _,R,u,s,r⟩
 case round=>
  obtain⟨pre,rfl,g0,q,d,j,m⟩:=hrel;have c0:=d.cell;have d0:=j.cell;have e0:=m.cell;by_cases I:pre.length<p
  ·have hd:decide ((pre.length:Int)<(p:Int))=true:=by simp;omega
   have O:=S wr pre.length (by omega);have M:=q8e h pre.length b (by omega);obtain⟨x,hx⟩: ∃x:Bit b,x.1=q6W h pre.length b:=⟨⟨_,M⟩,rfl⟩
   rw[<-hx] at O;have X:=η (V pre x wr q I);have y:=η q;have N:=η (And.intro d (And.intro j m));clear hx q S V u s r R M d j m
   gi_wp2
   refine⟨trivial,O.mono ?_⟩;rintro e w1 ⟨rfl,rfl⟩;clear O;obtain⟨fn,tmps,assign,body,hy,hR⟩:=X.o
   dsimp only[y4V] at hy
   have HR:=η hR;clear hR
   gi_wp2
   refine HR.o.mono ?_;rintro e Q (⟨rfl,U,Z,a0,b0⟩|⟨rfl,G⟩)
   ·have d:Boxed Q F 3 (.int .i64 (p:Int)):=Eq.trans Z N.o.1
    have j:Boxed Q E 23 (.int .u64 h):=Eq.trans a0 N.o.2.1;have m:Boxed Q D 3 (.int .i64 (b:Int)):=Eq.trans b0 N.o.2.2
    gi_wp2
    go_roundw
    case rel=>exact⟨pre++[x],by rw[θ];go_num,by rw[θ];exact I,U,d,j,m⟩
    case measure=>simp[intOf];omega
   ·gi_wp2
    refine bodyPost_ret (results_none rfl _ _ _) rfl ?_;exact⟨⟨_,rfl⟩,.inr ⟨pre++[x],trivial,G⟩⟩
  ·have hd:decide ((pre.length:Int)<(p:Int))=false:=by simp;omega
   have y:=η q;clear S V u s r R d j m q
   gi_wp2
   (try simp only[Exit.inBlock,Exit.then])
   exact bodyPost_end (v:= .tuple #[]) (results_none rfl _ _ _) rfl ⟨⟨_,rfl⟩,.inl ⟨pre,trivial,y.o⟩⟩
theorem z9h(n:Nat)(h:Int)(p b:Nat)(w:World):
  CallsIn Fence.wide n Tryz.prog 342 #[.int .u64 h,.int .i64 (p:Int),.int .i64 (b:Int)] w fun e w'=>e= .returned (.func (.func 350) #[] #[.pointer (some ⟨w.heap.size+1,0,none⟩),.pointer (some ⟨w.heap.size,0,none⟩),.pointer (some ⟨w.heap.size+2,0,none⟩)])/\
   w'=((w.alloc (.cells #[.int .u64 h] 23)).alloc (.cells #[.int .i64 (p:Int)] 3)).alloc (.cells #[.int .i64 (b:Int)] 3):=by
 refine callsIn_of_wp Tryz.func342 rfl trivial ?_ rfl;simp only[Tryz.ntmps342,List.size_toArray,χ,List.length_nil,Nat.reduceAdd,Nat.reduceSub,Array.replicate_succ,Array.replicate_zero,List.push_toArray,List.append_toArray,List.nil_append,List.cons_append]
 gi_wp2
 go_ret;exact⟨rfl,rfl⟩
theorem z2z(n:Nat)(v:1<=n)(j i d:Nat)(h:Int)(p b:Nat)(x:p<=16)(u:1<=b)(o:b<=1000000)(w:World)(h1:Boxed w j 3 (.int .i64 (p:Int)))(h2:Boxed w i 23 (.int .u64 h))(h3:Boxed w d 3 (.int .i64 (b:Int))):
  SeqStopsK Fence.wide n Tryz.prog 350 #[.pointer (some ⟨j,0,none⟩),.pointer (some ⟨i,0,none⟩),.pointer (some ⟨d,0,none⟩)] (y4V (b:=b)) (y2h j i d) (fun _=>True) (fun _=>True) p w:=fun l J q W m y _ s r=>
 z7K n v l j i d h p b x u o J q s W ((m.block j h1.lt).trans h1) ((m.block i h2.lt).trans h2) ((m.block d h3.lt).trans h3) r
theorem y3M{B:World}(h:y2h b1 b2 b3 A B)(k:y2h b1 b2 b3 B C):y2h b1 b2 b3 A C:=⟨y0F h.1 k.1,y0F h.2.1 k.2.1,y0F h.2.2 k.2.2⟩
theorem y3L(h1:b1<B)(h2:b2<B)(h3:b3<B)(W:World)(l:Nat)(o b:Obj)(h:B<=l)(d:W.heap[l]? =some o)(i:o.isCells=false)(j:o.isWalk=false):y2h b1 b2 b3 W (W.putObj l b):=
 ⟨y0E h1 W l o b h d i j,y0E h2 W l o b h d i j,y0E h3 W l o b h d i j⟩
end
end Go.Proofs.YtfiibpgoplcgkaaGreatDoor
