/- Walks. -/
import Derived.RangeFuncNested
import Derived.RangeFuncBound
import Derived.RangeFuncCalls
import Derived.RangeFuncLeaves
import Derived.RangeFuncBox
import Derived.Shelf.Abstract
import Derived.Shelf.RegionOpen
import Derived.OwnWalkIn
import Derived.TacticsInMore
import Derived.LoopNIn
import Derived.LoopIn
import Derived.Test.YteabhdclmodefaaGreatDoorG7CT
import Derived.Test.YteabhdclmodefaaGreatDoorG4CT
set_option linter.unusedVariables false
set_option linter.unusedSimpArgs false
set_option maxRecDepth 100000
set_option maxHeartbeats 1600000
namespace Go.Proofs.YteabhdclmodefaaGreatDoor
variable {W A C:World}{a B b1 b2 b3:Nat}
section
open Go.RowKit Go.Shelf
attribute [local go_sem] Oper.semAt_some
theorem z8M{W':World}(h:Ext W W'):W.grownBy W' none:=⟨h.os,h.tape,h.output,h.size,fun i b _=>h.block i b⟩
def KpB(b:Nat)(W W':World):Prop:=W'.heap[b]? =W.heap[b]?
abbrev y5I(x:Nat×Nat):Array Value:=#[.int .i64 (x.1:Int),.int .i64 (x.2:Int)]
theorem y0W{s:List UInt8}(h:isR s a=false)(f:Nat):q6d f s a=[]:=by
 cases f with
 |zero=>rfl
 |succ f=>unfold q6d q6K;rw[h];rfl
theorem z8E{s p:List UInt8}{b:Nat}(h:q6K s a=some (p,b)){f:Nat}(i:s.length<a+f): ∃d,q6d f s a=(a,b)::q6d d s b/\s.length<b+d:=by
 obtain⟨h1,h2,h3,_⟩:=z2d h
 cases f with
 |zero=>omega
 |succ f=>exact⟨f,by conv=>lhs;unfold q6d;rw[h],by omega⟩
theorem y0V(n:Nat)(hn:1<=n)(l bf F:Nat)(s:List UInt8)(a0:Nat)(hl:s.length<=4611686018427387903)(N:a0<=s.length)(J Jx:List (Nat×Nat)->World->Prop)(hJ: ∀d W W',J d W->Ext W W'->J d W')
  (hY: ∀d x W,J d W->d.length<(q0x s a0).length->YieldAt Fence.wide (n-1) Tryz.prog l (y5I x) W fun e W'=>
   (e= .returned (.bool true)/\J (d++[x]) W'/\KpB F W W')\/(e= .returned (.bool false)/\Jx (d++[x]) W'))
  (W:World)(d0:W.cell? ⟨bf,0,none⟩=some (.int .i64 (a0:Int)))(O:Boxed W F 9 (.string ⟨s.toArray⟩))(h0:J [] W):
  CallsIn Fence.wide n Tryz.prog 241 #[.func (.yield l) #[] #[],.pointer (some ⟨bf,0,none⟩),.pointer (some ⟨F,0,none⟩)] W fun e W'=>(∃v,e= .returned v)/\
   ((∃ys,ys=q0x s a0/\J ys W')\/(∃d,d<+:q0x s a0/\Jx d W')):=by
 have hG:=fun W (a:Nat) (h:a<=s.length)=>callsIn_wide (n:=n-1).2 (z1L s a W hl (by omega))
 refine callsIn_of_wp Tryz.func241 rfl trivial ?_ rfl;simp only[Tryz.ntmps241,List.size_toArray,χ,List.length_nil,Nat.reduceAdd,Nat.reduceSub,Array.replicate_succ,Array.replicate_zero,List.push_toArray,List.append_toArray,List.nil_append,List.cons_append]
 gi_wp2
 gi_loopw [4] (fun p wr=> ∃(d:List (Nat×Nat)) (a f:Nat),p= .int .i64 (a:Int)/\a<=s.length/\q0x s a0=d++q6d f s a/\s.length<a+f/\J d wr/\Boxed wr F 9 (.string ⟨s.toArray⟩))
  (fun p _=>s.length-(intOf p).toNat)
 case atStart=>
  exact⟨[],a0,s.length+1,rfl,N,rfl,by omega,h0,O⟩
 case round=>
  obtain⟨d,a,f,rfl,D,E,hf,m,Y⟩:=hrel;have hc:=Y.cell;have G:=hG wr a D;have HJ:=η hJ
  cases hg:q6K s a with
  | none=>
   have hi:isR s a=false:=by cases h:isR s a with|false=>rfl|true=>(unfold q6K at hg;rw[h] at hg;cases hg)
   rw[y0W hi,List.append_nil] at E;rw[q8x hi] at G;have U:=η E;have y:=η m;clear E m hg hi
   gi_wp2
   refine⟨trivial,G.mono ?_⟩;rintro e w1 ⟨rfl,i⟩;have j:=η i;clear i
   gi_wp2
   refine⟨fun _ h=>(by cases h),?_⟩
   gi_wp2
   refine bodyPost_ret (results_none rfl _ _ _) rfl ?_;exact⟨⟨_,rfl⟩,.inl ⟨d,U.o.symm,hJ _ _ _ y.o j.o⟩⟩
  | some r=>
   obtain⟨p,b⟩:=r;obtain⟨g1,g2,g3,g4,g5⟩:=z2d hg;obtain⟨f',Q,R⟩:=z8E hg hf;have S:z2e s a= .tuple #[.string ⟨p.toArray⟩,.int .i64 (b:Int),.bool true]:=by unfold z2e;rw[hg]
   rw[S] at G;rw[Q] at E;have q:d.length<(q0x s a0).length:=by rw[E];simp
   have c0:=η (fun W1 h=>hY d (a,b) W1 h q);have U:=η E;have y:=η m;have u:=η Y;have f0:a<b:=by omega
   have X:=η R;have V:=η D;have I:=η g3;clear E m hg S Q hf hc Y R g1 g2 g4 g5 hG hY O h0 d0;have hc:=u.o.cell
   gi_wp2
   refine⟨trivial,G.mono ?_⟩;rintro e w1 ⟨rfl,i⟩;have j:=η i;clear i hc;obtain⟨fn,tmps,assign,body,hy,hR⟩:=c0.o w1 (HJ.o _ _ _ y.o j.o)
   dsimp only[y5I] at hy
   have HR:=η hR;clear hR q G hJ hl N D g3
   gi_wp2
   refine HR.o.mono ?_;rintro e W3 (⟨rfl,b0,e0⟩|⟨rfl,M⟩)
   ·have Z:Boxed W3 F 9 (.string ⟨s.toArray⟩):=Eq.trans e0 ((j.o.block F u.o.lt).trans u.o)
    gi_wp2
    go_roundw
    case rel=>exact⟨d++[(a,b)],b,f',rfl,I.o,by rw[U.o];simp,X.o,b0,Z⟩
    case measure=>have:=V.o;have:=I.o;simp[intOf];omega
   ·gi_wp2
    refine bodyPost_ret (results_none rfl _ _ _) rfl ?_;exact⟨⟨_,rfl⟩,.inr ⟨d++[(a,b)],⟨_,by rw[U.o];simp;rfl⟩,M⟩⟩
end
section
open Go.RowKit Go.Shelf
attribute [local go_sem] Oper.semAt_some
theorem y2V(n:Nat)(s:List UInt8)(a:Nat)(w:World):
  CallsIn Fence.wide n Tryz.prog 198 #[.string ⟨s.toArray⟩,.int .i64 (a:Int)] w fun e w'=>e= .returned (.func (.func 241) #[] #[.pointer (some ⟨w.heap.size+1,0,none⟩),.pointer (some ⟨w.heap.size,0,none⟩)])/\
   w'=(w.alloc (.cells #[.string ⟨s.toArray⟩] 9)).alloc (.cells #[.int .i64 (a:Int)] 3):=by
 refine callsIn_of_wp Tryz.func198 rfl trivial ?_ rfl;simp only[Tryz.ntmps198,List.size_toArray,χ,List.length_nil,Nat.reduceAdd,Nat.reduceSub,Array.replicate_succ,Array.replicate_zero,List.push_toArray,List.append_toArray,List.nil_append,List.cons_append]
 gi_wp2
 go_ret;exact⟨rfl,rfl⟩
theorem z6Z(n:Nat)(E:1<=n)(i d:Nat)(s:List UInt8)(a0:Nat)(D:s.length<=4611686018427387903)(j:a0<=s.length)(w:World)(o:Boxed w i 3 (.int .i64 (a0:Int)))(q:Boxed w d 9 (.string ⟨s.toArray⟩)):
  SeqStopsK Fence.wide n Tryz.prog 241 #[.pointer (some ⟨i,0,none⟩),.pointer (some ⟨d,0,none⟩)] y5I (KpB d) (fun F=>F=q0x s a0) (fun b=>b<+:q0x s a0) (q0x s a0).length w:=fun l J u W m x _ y v=>
 y0V n E l i d s a0 D j J u (fun b A B h k=>x b A B none h (z8M k) (fun r e=>by cases e)) y W ((m.cell (p:=⟨i,0,none⟩) o.lt).trans o.cell) ((m.block d q.lt).trans q) v
theorem y0r{b:Nat}{B:World}(h:KpB b A B)(k:KpB b B C):KpB b A C:=Eq.trans k h
theorem y0q{b:Nat}(i:b<B)(W:World)(l:Nat)(o d:Obj)(h:B<=l)(_:W.heap[l]? =some o)(_:o.isCells=false)(_:o.isWalk=false):KpB b W (W.putObj l d):=
 World.putObj_heap_other (fun e=>by omega)
theorem z2V(s:List UInt8): ∀(f a:Nat),(q6d f s a).length<=f
 |0,_=>ι _
 | f+1,a=>by
  unfold q6d
  cases q6K s a with
  |none=>simp
  |some r=>have:=z2V s f r.2;simp;omega
theorem z8G(a:Nat)(l:List (Nat×Nat))(x:Nat×Nat):z1D a (l++[x])=x.2:=by unfold z1D;simp
theorem z1g{fn:Func}{p q:Tmp}{l m:TypeId}(h:fn.results=#[.cell p l,.cell q m])(tmps:Array Value)(P:Program)(w:World):
  (results fn tmps).run P w=
   ((asAddr (tmps.getD p undef)).run P w).andThen fun a w₁=>((loadVar l a).run P w₁).andThen fun v d=>((asAddr (tmps.getD q undef)).run P d).andThen fun b i=>((loadVar m b).run P i).andThen fun u j=> .ok (.tuple #[v,u]) j:=by
 simp only[results,h];simp[Sem.run_bind,Result.andThen]
theorem app2{w1:World}{n₀ d E b:Nat}{t O e:TypeId}{v l X ve':Value}{k m:Nat}{xs Z:List Value}{r:Obj}
  (Y:Boxed W B t v)(M:t≠e)(hE:Boxed W E O X)(u:E≠B)(hb:b<W.heap.size)(S:b≠B)(U:b≠E)(s:W.ownsRow d e 1 v k xs)(y:d<=W.heap.size)(b0:E<d)(c0:b<d)
  (G:n₀<=d)(Q:n₀<=B)(R:n₀<=E)(q:w1.ownsRow d e 1 l m Z)(i:(W.alloc r).grownBy w1 v.ownBlock):
  Boxed w1 B t v/\Boxed (w1.setCell ⟨B,0,none⟩ l) E O X/\Boxed ((w1.setCell ⟨B,0,none⟩ l).setCell ⟨E,0,none⟩ ve') B t l/\Boxed ((w1.setCell ⟨B,0,none⟩ l).setCell ⟨E,0,none⟩ ve') E O ve'/\
  ((w1.setCell ⟨B,0,none⟩ l).setCell ⟨E,0,none⟩ ve').ownsRow d e 1 l m Z/\KeepsOthers W ((w1.setCell ⟨B,0,none⟩ l).setCell ⟨E,0,none⟩ ve')/\Below n₀ W ((w1.setCell ⟨B,0,none⟩ l).setCell ⟨E,0,none⟩ ve')/\
  KpB b W ((w1.setCell ⟨B,0,none⟩ l).setCell ⟨E,0,none⟩ ve'):=by
 have x: ∀j,v.ownBlock=some j->d<=j:=fun j F=>(q0a s j F).1
 have J: ∀j,l.ownBlock=some j->d<=j:=fun j F=>(q0a q j F).1
 have D:Boxed w1 B t v:=(Y.alloc r).kept i (Y.not_row M s);have I:Boxed w1 E O X:=(hE.alloc r).kept i fun e=>by have:=x E e.symm;omega
 have d0:W.heap.size+1<=w1.heap.size:=by have:=i.size;rw[ρ] at this;exact this
 refine⟨D,I.other u l,(D.set l).other (Ne.symm u) ve',(I.other u l).set ve',?_,?_,?_,?_⟩
 ·exact q0i (q0i q _ (D.not_row M q).symm) _ fun e=>by have:=J _ e;simp at this;omega
 ·refine(((KeepsOthers.alloc W r).trans (KeepsOthers.of_grownBy i fun j o N F=>?_)).trans (KeepsOthers.setCell _ _ _)).trans (KeepsOthers.setCell _ _ _)
  rcases(s.alloc r).2 with⟨rfl,_⟩|⟨g,cap,a0,rfl,_,V,_⟩
  ·simp[Value.ownBlock] at N
  ·obtain rfl:g=j:=by simpa [Value.ownBlock] using N
   rw[V] at F;cases F;rfl
 ·exact((((Below.refl n₀ W).alloc (Ω G y) r).grown i (by simp;omega) fun j N=>Ω G (x j N)).setCell (p:=⟨B,0,none⟩) Q l).setCell (p:=⟨E,0,none⟩) R ve'
 ·have e1:w1.heap[b]? =W.heap[b]? :=(i.block b (by rw[ρ];omega) fun e=>by have:=x b e.symm;omega).trans ((q0B W r).block b hb)
  have e2:(w1.setCell ⟨B,0,none⟩ l).heap[b]? =w1.heap[b]? :=(grownBy_setCell' w1 B l).block b (by omega) fun e=>S (by cases e;rfl)
  have e3:((w1.setCell ⟨B,0,none⟩ l).setCell ⟨E,0,none⟩ ve').heap[b]? =(w1.setCell ⟨B,0,none⟩ l).heap[b]? :=(grownBy_setCell' _ E ve').block b (by rw[World.size_setCell];omega) fun e=>U (by cases e;rfl)
  exact e3.trans (e2.trans e1)
theorem Tryz.infoI :(Tryz.prog.info? 3).map (fun i=>(i.zero,i.size,i.bytes))=some (some (.int .i64 0),1,8):=by kernel_rfl
theorem y3S(s :List UInt8)(a:Nat)(w:World)(hl:s.length<=1048576)(ha:a<=s.length):
  Calls Tryz.prog 148 #[.string ⟨s.toArray⟩,.int .i64 (a:Int)] w fun e w'=> ∃v,e= .returned (.tuple #[v,.int .i64 (z1D a (q0x s a):Int)])/\
   w'.ownsRow w.heap.size 3 1 v (q0x s a).length ((q0x s a).map fun x=>Value.int .i64 (x.1:Int))/\Ext w w':=by
 have l0:decide ((s.length:Int)<(a:Int))=false:=by simp;omega
 refine(callsIn_wide (n:=3)).1 ?_;refine callsIn_of_wp_marks Tryz.func148 rfl trivial ?_ rfl;simp only[Tryz.ntmps148,List.size_toArray,χ,List.length_nil,Nat.reduceAdd,Nat.reduceSub,Array.replicate_succ,Array.replicate_zero,List.push_toArray,List.append_toArray,List.nil_append,List.cons_append]
 gi_wp2
 refine⟨trivial,(y2V _ s a _).mono ?_⟩;rintro e w' ⟨rfl,rfl⟩
 gi_wp2
 obtain⟨m,j⟩: ∃m,((((w.alloc (Obj.cells #[Value.slice none 0 0] 73)).alloc (Obj.cells #[Value.int IntKind.i64 (a:Int)] 3)).alloc (Obj.cells #[Value.string {data:=s.toArray}] 9)).alloc (Obj.cells #[Value.int IntKind.i64 (a:Int)] 3))=m:=⟨_,rfl⟩
 have o0:m.heap.size=w.heap.size+4:=by rw[<-j];simp
 have b0:Boxed m w.heap.size 73 (.slice none 0 0):=by rw[<-j];exact(((Boxed.new w _ _).alloc _).alloc _).alloc _
 have b1:Boxed m (w.heap.size+1) 3 (.int .i64 (a:Int)):=by
  rw[<-j];have:=Boxed.new (w.alloc (Obj.cells #[Value.slice none 0 0] 73)) 3 (.int .i64 (a:Int));rw[ρ] at this;exact(this.alloc _).alloc _
 have b2:Boxed m (w.heap.size+1+1) 9 (.string ⟨s.toArray⟩):=by
  rw[<-j];have:=Boxed.new ((w.alloc (Obj.cells #[Value.slice none 0 0] 73)).alloc (Obj.cells #[Value.int IntKind.i64 (a:Int)] 3)) 9 (.string ⟨s.toArray⟩);rw[ρ,ρ] at this;exact this.alloc _
 have b3:Boxed m (w.heap.size+1+1+1) 3 (.int .i64 (a:Int)):=by
  rw[<-j];have:=Boxed.new (((w.alloc (Obj.cells #[Value.slice none 0 0] 73)).alloc (Obj.cells #[Value.int IntKind.i64 (a:Int)] 3)).alloc (Obj.cells #[Value.string {data:=s.toArray}] 9)) 3 (.int .i64 (a:Int));rw[ρ,ρ,ρ] at this;exact this
 have e0:Ext w m:=by rw[<-j];exact(z0L w _ _ _).alloc _
 rw[j];clear j;have U:(q0x s a).length<=s.length+1:=z2V s _ _;have Q:Hd ((q0x s a).length<=1048577):=η (by omega);clear U;obtain⟨i0,hi,f0,g0,h0⟩:=info_parts Tryz.infoI;refine wpIn_rangeFunc_ownG (F:=Fence.wide) rfl (by omega) (gf:=241) (lb:=#[.pointer (some ⟨w.heap.size+1+1+1,0,none⟩),.pointer (some ⟨w.heap.size+1+1,0,none⟩)]) rfl trivial (enters_of Tryz.func241 (by kernel_rfl) rfl)
  (z6Z (3-1) (by omega) (w.heap.size+1+1+1) (w.heap.size+1+1) s a (by omega) ha m b3 b2) y0r (fun W l o o' h=>y0q (by omega) W l o o' h) (Below.refl _ _) (fun _=>rfl)
  (fun d W=>(∃v,Boxed W w.heap.size 73 v/\W.ownsRow m.heap.size 3 1 v d.length (d.map fun x=>Value.int .i64 (x.1:Int))/\True)/\Boxed W (w.heap.size+1) 3 (.int .i64 (z1D a d:Int))/\m.heap.size<=W.heap.size/\Below w.heap.size w W)
  (fun _ _ _=>False)
  (OwnFrom.and (Own.from (holdsRow_own m.heap.size w.heap.size 73 3 1 (fun d:List (Nat×Nat)=>d.length) (fun d=>d.map fun x=>Value.int .i64 (x.1:Int)) (fun _ _=>True)) _) (OwnFrom.and (Own.from (boxed_own (w.heap.size+1) 3 fun d:List (Nat×Nat)=> .int .i64 (z1D a d:Int)) _) (OwnFrom.and (fun _ _ _ _ hs hg _=>Ω hs hg.size) (ownFrom_below (ι _) (by omega)))))
  (fun _ _ _ _ _ hs _ _=>hs)
  ⟨⟨_,b0,World.ownsRow_nil _ _ _ _,trivial⟩,b1,ι _,e0⟩
  (fun x => {tmps:=#[.string ⟨s.toArray⟩,.int .i64 (a:Int),undef,undef,.pointer (some ⟨w.heap.size,0,none⟩),.pointer (some ⟨w.heap.size+1,0,none⟩),.int .i64 (x.1:Int),.int .i64 (x.2:Int),.int .i64 (a:Int),
       .bool (decide ((a:Int)<0)),.bool (decide ((a:Int)<0)),.int .i64 (a:Int),.string ⟨s.toArray⟩,.int .i64 (s.length:Int),.bool false,.bool (decide ((a:Int)<0)),.int .i64 (a:Int),.string ⟨s.toArray⟩,.int .i64 (a:Int),
       .func (.func 241) #[] #[.pointer (some ⟨w.heap.size+1+1+1,0,none⟩),.pointer (some ⟨w.heap.size+1+1,0,none⟩)],.int .i64 (x.1:Int),.int .i64 (x.2:Int),undef,undef,undef,undef,undef,undef,undef],defers:=[]}) ?assign ?body ?done ?stop
 case assign=>
  intro l x W K hK
  gi_wp2
  exact hK
 case body=>
  rintro l d x W ⟨⟨v,E,i,_⟩,I,u,R⟩ Z;have hc:=E.cell;have n0:d.length<=1048577:=by have:=Q.o;omega
  have M:w.heap.size+1+1<W.heap.size:=by omega
  clear Z
  gi_wp2_with (gi_at_builtin;refine wpListIn_append_own _ rfl _ _ 73 rfl m.heap.size 3 i0 (.int .i64 0) 1 8 Tryz.underlying73 hi f0 g0 h0 rfl (by decide) _ _ _ rfl (i.alloc _) ⟨W.heap.size,0,none⟩ 1 1 [.int .i64 (x.1:Int)] rfl rfl (cell_one_new _ _ _) (by simp[Value.oneCell']) (by unfold maxLen;omega) (by omega) (by simp;omega) ?_;intro v' w1 q y _;obtain⟨g',j0,rfl⟩:=ownsRow_succ q;obtain⟨O,J,d0,S,c0,N,V,a0⟩:=app2 (n₀:=w.heap.size) (ve':= .int .i64 (x.2:Int)) (b:=w.heap.size+1+1) E (by decide) I (by omega) M (by omega) (by omega) i u (by omega) (by omega) (by omega) (ι _) (by omega) q y;have k0:=O.cell;have m0:=O.frozen;have X:=J.cell;have Y:=J.frozen)
  exact⟨N.from _,a0,⟨⟨_,d0,by simpa using c0,trivial⟩,by rw[z8G];exact S,Ω u N.size,R.trans V⟩⟩
 case done=>
  rintro D ys W hD rfl ⟨⟨v,E,i,_⟩,I,u,R⟩ hK;have hc:=E.cell;have X:=I.cell;have hf:=E.frozen;have Y:=I.frozen;obtain⟨ao,cap,rfl⟩:=q0G i
  gi_wp2
  gi_region
  have e1:=E.set (.slice ao (q0x s a).length cap);have e2:=(I.other (B':=w.heap.size) (by omega) (.slice ao (q0x s a).length cap)).set (.int .i64 (z1D a (q0x s a):Int));have e3:=e1.other (B':=w.heap.size+1) (by omega) (.int .i64 (z1D a (q0x s a):Int));have e4:=q0i (q0i i (a:=⟨w.heap.size,0,none⟩) (.slice ao (q0x s a).length cap) (E.not_row (by decide) i).symm) (a:=⟨w.heap.size+1,0,none⟩) (.int .i64 (z1D a (q0x s a):Int)) (fun e=>by have:=(q0a i _ e).1;simp at this;omega);have e5:=((KeepsOthers.setCell W ⟨w.heap.size,0,none⟩ (.slice ao (q0x s a).length cap)).trans (KeepsOthers.setCell _ ⟨w.heap.size+1,0,none⟩ (.int .i64 (z1D a (q0x s a):Int)))).same D _ hK rfl;have e6:=(R.setCell (p:=⟨w.heap.size,0,none⟩) (ι _) (.slice ao (q0x s a).length cap)).setCell (p:=⟨w.heap.size+1,0,none⟩) (by simp) (.int .i64 (z1D a (q0x s a):Int));generalize (W.setCell {block:=w.heap.size,off:=0} (.slice ao (q0x s a).length cap)).setCell {block:=w.heap.size+1,off:=0} (.int .i64 (z1D a (q0x s a):Int))=W2 at*;have d2:Boxed W2.drew (w.heap.size+1) 3 (.int .i64 (z1D a (q0x s a):Int)):=e2;have d3:Boxed W2.drew w.heap.size 73 (.slice ao (q0x s a).length cap):=e3;have d4:W2.drew.ownsRow m.heap.size 3 1 (.slice ao (q0x s a).length cap) (q0x s a).length ((q0x s a).map fun x=>Value.int .i64 (x.1:Int)):=y1R e4;have G:W2.drew.heap[D]? =some (Obj.deferred (some [])):=e5;have d6:Below w.heap.size w W2.drew:=e6.drew;clear e1 e2 e3 e4 e5 e6;generalize W2.drew=W3 at*
  gi_wp2
  have e7:(W3.putObj D (.deferred none)).cell? ⟨w.heap.size,0,none⟩=some (.slice ao (q0x s a).length cap):=cell_kept d3.cell (grownBy_putObj' _ D (.deferred none)) (fun r e=>by cases e;exact⟨_,G,rfl⟩);have e8:(W3.putObj D (.deferred none)).cell? ⟨w.heap.size+1,0,none⟩=some (.int .i64 (z1D a (q0x s a):Int)):=cell_kept d2.cell (grownBy_putObj' _ D (.deferred none)) (fun r e=>by cases e;exact⟨_,G,rfl⟩);refine⟨by simp,.inl ⟨_,_,rfl,run_takeDeferred G,?_⟩⟩;refine⟨.tuple #[.slice ao (q0x s a).length cap,.int .i64 (z1D a (q0x s a):Int)],?_,_,rfl,q1H (ownsRow_putObj d4 _ G rfl) (by omega),d6.trans (belowK_b (w:=w) (ι _) W3 D _ _ (by omega) G rfl rfl)⟩;rw[z1g rfl]
  go_simp
 case stop=>
  rintro D c d W _ _ h _;exact h.elim
end
section
open Go.RowKit Go.Shelf
attribute [local go_sem] Oper.semAt_some
abbrev Bit(b:Nat):={x:Int//0<=x/\x<(b:Int)}
abbrev y5H{b:Nat}(x:Bit b):Array Value:=#[.int .i64 x.1]
def y3U(b1 b2 b3:Nat)(W W':World):Prop:=KpB b1 W W'/\KpB b2 W W'/\KpB b3 W W'
theorem z8D(n:Nat)(hn:1<=n)(l G F E:Nat)(h:Int)(p b:Nat)(hp:p<=16)(hb:1<=b)(Z:b<=1000000)(J Jx:List (Bit b)->World->Prop)
  (X: ∀d x W,J d W->d.length<p->YieldAt Fence.wide (n-1) Tryz.prog l (y5H x) W fun e W'=>
   (e= .returned (.bool true)/\J (d++[x]) W'/\y3U G F E W W')\/(e= .returned (.bool false)/\Jx (d++[x]) W'))
  (W:World)(y:Boxed W G 3 (.int .i64 (p:Int)))(u:Boxed W F 41 (.int .u64 h))(s:Boxed W E 3 (.int .i64 (b:Int)))(S:J [] W):
  CallsIn Fence.wide n Tryz.prog 291 #[.func (.yield l) #[] #[],.pointer (some ⟨G,0,none⟩),.pointer (some ⟨F,0,none⟩),.pointer (some ⟨E,0,none⟩)] W fun e W'=>(∃v,e= .returned v)/\
   ((∃ys,True/\J ys W')\/(∃d,True/\Jx d W')):=by
 have U:=fun W (i:Nat) (hi:i<=1000000)=>callsIn_wide (n:=n-1).2 (z9K W h i b hi hb Z)
 have g0:¬((64:Int)<(p:Int)):=by omega
 refine callsIn_of_wp Tryz.func291 rfl trivial ?_ rfl;simp only[Tryz.ntmps291,List.size_toArray,χ,List.length_nil,Nat.reduceAdd,Nat.reduceSub,Array.replicate_succ,Array.replicate_zero,List.push_toArray,List.append_toArray,List.nil_append,List.cons_append]
 gi_wp2
 gi_loopw [5] (fun i wr=> ∃(d:List (Bit b)),i= .int .i64 (d.length:Int)/\d.length<=p/\J d wr/\Boxed wr G 3 (.int .i64 (p:Int))/\Boxed wr F 41 (.int .u64 h)/\Boxed wr E 3 (.int .i64 (b:Int)))
  (fun i _=>p-(intOf i).toNat)
 case atStart=>exact⟨[],rfl,υ _,S,y,u,s⟩
 case round=>
  obtain⟨d,rfl,i0,r,j,m,q⟩:=hrel;have d0:=j.cell;have e0:=m.cell;have f0:=q.cell;by_cases M:d.length<p
  ·have hd:decide ((d.length:Int)<(p:Int))=true:=by simp;omega
   have Q:=U wr d.length (by omega);have N:=q9N h d.length b (by omega);obtain⟨x,hx⟩: ∃x:Bit b,x.1=q6s h d.length b:=⟨⟨_,N⟩,rfl⟩
   rw[<-hx] at Q;have Y:=η (X d x wr r M);have D:=η r;have O:=η (And.intro j (And.intro m q));clear hx r U X y u s S N j m q
   gi_wp2
   refine⟨trivial,Q.mono ?_⟩;rintro e w1 ⟨rfl,rfl⟩;clear Q;obtain⟨fn,tmps,assign,body,hy,hR⟩:=Y.o
   dsimp only[y5H] at hy
   have HR:=η hR;clear hR
   gi_wp2
   refine HR.o.mono ?_;rintro e R (⟨rfl,V,a0,b0,c0⟩|⟨rfl,I⟩)
   ·have j:Boxed R G 3 (.int .i64 (p:Int)):=Eq.trans a0 O.o.1
    have m:Boxed R F 41 (.int .u64 h):=Eq.trans b0 O.o.2.1;have q:Boxed R E 3 (.int .i64 (b:Int)):=Eq.trans c0 O.o.2.2
    gi_wp2
    go_roundw
    case rel=>exact⟨d++[x],by rw[θ];go_num,by rw[θ];exact M,V,j,m,q⟩
    case measure=>simp[intOf];omega
   ·gi_wp2
    refine bodyPost_ret (results_none rfl _ _ _) rfl ?_;exact⟨⟨_,rfl⟩,.inr ⟨d++[x],trivial,I⟩⟩
  ·have hd:decide ((d.length:Int)<(p:Int))=false:=by simp;omega
   have D:=η r;clear U X y u s S j m q r
   gi_wp2
   (try simp only[Exit.inBlock,Exit.then])
   exact bodyPost_end (v:= .tuple #[]) (results_none rfl _ _ _) rfl ⟨⟨_,rfl⟩,.inl ⟨d,trivial,D.o⟩⟩
theorem y0X(n:Nat)(h:Int)(p b:Nat)(w:World):
  CallsIn Fence.wide n Tryz.prog 283 #[.int .u64 h,.int .i64 (p:Int),.int .i64 (b:Int)] w fun e w'=>e= .returned (.func (.func 291) #[] #[.pointer (some ⟨w.heap.size+1,0,none⟩),.pointer (some ⟨w.heap.size,0,none⟩),.pointer (some ⟨w.heap.size+2,0,none⟩)])/\
   w'=((w.alloc (.cells #[.int .u64 h] 41)).alloc (.cells #[.int .i64 (p:Int)] 3)).alloc (.cells #[.int .i64 (b:Int)] 3):=by
 refine callsIn_of_wp Tryz.func283 rfl trivial ?_ rfl;simp only[Tryz.ntmps283,List.size_toArray,χ,List.length_nil,Nat.reduceAdd,Nat.reduceSub,Array.replicate_succ,Array.replicate_zero,List.push_toArray,List.append_toArray,List.nil_append,List.cons_append]
 gi_wp2
 go_ret;exact⟨rfl,rfl⟩
theorem z3v(n:Nat)(v:1<=n)(j i d:Nat)(h:Int)(p b:Nat)(x:p<=16)(u:1<=b)(o:b<=1000000)(w:World)(h1:Boxed w j 3 (.int .i64 (p:Int)))(h2:Boxed w i 41 (.int .u64 h))(h3:Boxed w d 3 (.int .i64 (b:Int))):
  SeqStopsK Fence.wide n Tryz.prog 291 #[.pointer (some ⟨j,0,none⟩),.pointer (some ⟨i,0,none⟩),.pointer (some ⟨d,0,none⟩)] (y5H (b:=b)) (y3U j i d) (fun _=>True) (fun _=>True) p w:=fun l J q W m y _ s r=>
 z8D n v l j i d h p b x u o J q s W ((m.block j h1.lt).trans h1) ((m.block i h2.lt).trans h2) ((m.block d h3.lt).trans h3) r
theorem y3v{B:World}(h:y3U b1 b2 b3 A B)(k:y3U b1 b2 b3 B C):y3U b1 b2 b3 A C:=⟨y0r h.1 k.1,y0r h.2.1 k.2.1,y0r h.2.2 k.2.2⟩
theorem y3u(h1:b1<B)(h2:b2<B)(h3:b3<B)(W:World)(l:Nat)(o b:Obj)(h:B<=l)(k1:W.heap[l]? =some o)(d:o.isCells=false)(i:o.isWalk=false):y3U b1 b2 b3 W (W.putObj l b):=
 ⟨y0q h1 W l o b h k1 d i,y0q h2 W l o b h k1 d i,y0q h3 W l o b h k1 d i⟩
end
section
open Go.RowKit
theorem y1u(s:List UInt8)(n:Nat)(w:World)(G:n<200)(F:s.length<=1048576)(i:q9t s (q3I n)=true):
  Calls Tryz.prog 94 #[.string ⟨s.toArray⟩,.int .i64 (n:Int)] w fun e w'=> ∃v,e= .returned (.tuple #[v,.int .i64 (z1D 12 (q0x s 12):Int),.bool true])/\
   w'.ownsRow w.heap.size 3 1 v (q0x s 12).length ((q0x s 12).map fun x=>Value.int .i64 (x.1:Int))/\Ext w w':=by
 have l:=q3Y n;have y:=η (fun W=>z4x n W G);have d:12<=s.length:=by
  unfold q9t at i;simp only[Ξ,Φ] at i;omega
 generalize q3I n=H at*;have u:=η (fun W=>z4D s H W (by omega) (by omega));rw[i] at u;have E:=η (fun W=>y3S s 12 W F d);clear i;have m:(H==[])=false:=by cases H with|nil=>cases l|cons=>rfl
 have I:¬H=[]:=by simpa using m
 go_enter Tryz.func94,Tryz.ntmps94;go_wp2_with fail;refine(y.o _).mono ?_;rintro e w1 ⟨rfl,b⟩;have r:=η b;clear b;go_wp2_with fail;refine(u.o _).mono ?_;rintro e J ⟨rfl,rfl⟩;go_wp2_with fail;refine(E.o _).mono ?_;rintro e M ⟨v,rfl,q,b⟩;have D:=η (q1H q r.o.size);have j:=η (r.o.trans b);obtain⟨ao,cap,rfl⟩:=q0G q;clear q b;go_wp2_with fail;go_ret3;exact⟨_,rfl,D.o,j.o⟩
end
end Go.Proofs.YteabhdclmodefaaGreatDoor
