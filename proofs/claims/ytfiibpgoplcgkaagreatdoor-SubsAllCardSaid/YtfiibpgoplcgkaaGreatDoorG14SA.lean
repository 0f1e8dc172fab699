/- Walks. -/
import Derived.Test.YtfiibpgoplcgkaaGreatDoorG12SA
import Derived.Test.YtfiibpgoplcgkaaGreatDoorG13SA
set_option linter.unusedVariables false
set_option linter.unusedSimpArgs false
set_option maxRecDepth 100000
set_option maxHeartbeats 6400000
namespace Go.Proofs.YtfiibpgoplcgkaaGreatDoor
variable {B m n cap:Nat}{t e:TypeId}{v:Value}{X W' w:World}{ao:Option Addr}{L:List (En×Nat)}
section
open Go.RowKit Go.Shelf
attribute [local go_sem] Oper.semAt_some
theorem y0d(n:Nat)(s:List UInt8)(a:Nat)(w:World):
  CallsIn Fence.wide n Tryz.prog 277 #[.string ⟨s.toArray⟩,.int .i64 (a:Int)] w fun e w'=>e= .returned (.func (.func 322) #[] #[.pointer (some ⟨w.heap.size+1,0,none⟩),.pointer (some ⟨w.heap.size,0,none⟩)])/\
   w'=(w.alloc (.cells #[.string ⟨s.toArray⟩] 9)).alloc (.cells #[.int .i64 (a:Int)] 3):=by
 refine callsIn_of_wp Tryz.func277 rfl trivial ?_ rfl;simp only[Tryz.ntmps277,List.size_toArray,χ,List.length_nil,Nat.reduceAdd,Nat.reduceSub,Array.replicate_succ,Array.replicate_zero,List.push_toArray,List.append_toArray,List.nil_append,List.cons_append]
 gi_wp2
 go_ret;exact⟨rfl,rfl⟩
theorem z4p(n:Nat)(D:1<=n)(b bs:Nat)(s:List UInt8)(a0:Nat)(C:s.length<=4611686018427387903)(d:a0<=s.length)(w:World)(j:Boxed w b 3 (.int .i64 (a0:Int)))(o:Boxed w bs 9 (.string ⟨s.toArray⟩)):
  SeqStopsK Fence.wide n Tryz.prog 322 #[.pointer (some ⟨b,0,none⟩),.pointer (some ⟨bs,0,none⟩)] y3H (KpB bs) (fun E=>E=q0m s a0) (fun pre=>pre<+:q0m s a0) (q0m s a0).length w:=fun l J q W i x _ y u=>
 z8h n D l b bs s a0 C d J q (fun pre A B h k=>x pre A B none h (z6V k) (fun r e=>by cases e)) y W ((i.cell (p:=⟨b,0,none⟩) j.lt).trans j.cell) ((i.block bs o.lt).trans o) u
theorem y3M{b:Nat}{A B C:World}(h:KpB b A B)(k:KpB b B C):KpB b A C:=Eq.trans k h
theorem y3L{b:Nat}(i:b<B)(W:World)(l:Nat)(o d:Obj)(h:B<=l)(_:W.heap[l]? =some o)(_:o.isCells=false)(_:o.isWalk=false):KpB b W (W.putObj l d):=
 World.putObj_heap_other (fun e=>by omega)
theorem z0p(s:List UInt8): ∀(f a:Nat),(q4S f s a).length<=f
 |0,_=>ι _
 | f+1,a=>by
  unfold q4S
  cases q5P s a with
  |none=>simp
  |some r=>have:=z0p s f r.2;simp;omega
theorem z6S(a:Nat)(l:List (Nat×Nat))(x:Nat×Nat):q9e a (l++[x])=x.2:=by unfold q9e;simp
theorem z0E{fn:Func}{p q:Tmp}{l o:TypeId}(h:fn.results=#[.cell p l,.cell q o])(tmps:Array Value)(P:Program)(w:World):
  (results fn tmps).run P w=
   ((asAddr (tmps.getD p undef)).run P w).andThen fun a w₁=>((loadVar l a).run P w₁).andThen fun v d=>((asAddr (tmps.getD q undef)).run P d).andThen fun b i=>((loadVar o b).run P i).andThen fun u j=> .ok (.tuple #[v,u]) j:=by
 simp only[results,h];simp[Sem.run_bind,Result.andThen]
theorem y3q{W w1:World}{n₀ d E b:Nat}{N:TypeId}{l V ve':Value}{k:Nat}{xs Z:List Value}{r:Obj}
  (Y:Boxed W B t v)(J:t≠e)(hE:Boxed W E N V)(u:E≠B)(hb:b<W.heap.size)(R:b≠B)(S:b≠E)(s:W.ownsRow d e 1 v k xs)(y:d<=W.heap.size)(b0:E<d)(c0:b<d)
  (F:n₀<=d)(O:n₀<=B)(Q:n₀<=E)(q:w1.ownsRow d e 1 l m Z)(i:(W.alloc r).grownBy w1 v.ownBlock):
  Boxed w1 B t v/\Boxed (w1.setCell ⟨B,0,none⟩ l) E N V/\Boxed ((w1.setCell ⟨B,0,none⟩ l).setCell ⟨E,0,none⟩ ve') B t l/\Boxed ((w1.setCell ⟨B,0,none⟩ l).setCell ⟨E,0,none⟩ ve') E N ve'/\
  ((w1.setCell ⟨B,0,none⟩ l).setCell ⟨E,0,none⟩ ve').ownsRow d e 1 l m Z/\KeepsOthers W ((w1.setCell ⟨B,0,none⟩ l).setCell ⟨E,0,none⟩ ve')/\Below n₀ W ((w1.setCell ⟨B,0,none⟩ l).setCell ⟨E,0,none⟩ ve')/\
  KpB b W ((w1.setCell ⟨B,0,none⟩ l).setCell ⟨E,0,none⟩ ve'):=by
 have x: ∀j,v.ownBlock=some j->d<=j:=fun j D=>(q0l s j D).1
 have I: ∀j,l.ownBlock=some j->d<=j:=fun j D=>(q0l q j D).1
 have C:Boxed w1 B t v:=(Y.alloc r).kept i (Y.not_row J s);have G:Boxed w1 E N V:=(hE.alloc r).kept i fun e=>by have:=x E e.symm;omega
 have d0:W.heap.size+1<=w1.heap.size:=by have:=i.size;rw[ρ] at this;exact this
 refine⟨C,G.other u l,(C.set l).other (Ne.symm u) ve',(G.other u l).set ve',?_,?_,?_,?_⟩
 ·exact q1D (q1D q _ (C.not_row J q).symm) _ fun e=>by have:=I _ e;simp at this;omega
 ·refine(((KeepsOthers.alloc W r).trans (KeepsOthers.of_grownBy i fun j o M D=>?_)).trans (KeepsOthers.setCell _ _ _)).trans (KeepsOthers.setCell _ _ _)
  rcases(s.alloc r).2 with⟨rfl,_⟩|⟨g,cap,a0,rfl,_,U,_⟩
  ·simp[Value.ownBlock] at M
  ·obtain rfl:g=j:=by simpa [Value.ownBlock] using M
   rw[U] at D;cases D;rfl
 ·exact((((Below.refl n₀ W).alloc (Ω F y) r).grown i (by simp;omega) fun j M=>Ω F (x j M)).setCell (p:=⟨B,0,none⟩) O l).setCell (p:=⟨E,0,none⟩) Q ve'
 ·have e1:w1.heap[b]? =W.heap[b]? :=(i.block b (by rw[ρ];omega) fun e=>by have:=x b e.symm;omega).trans ((q0B W r).block b hb)
  have e2:(w1.setCell ⟨B,0,none⟩ l).heap[b]? =w1.heap[b]? :=(grownBy_setCell' w1 B l).block b (by omega) fun e=>R (by cases e;rfl)
  have e3:((w1.setCell ⟨B,0,none⟩ l).setCell ⟨E,0,none⟩ ve').heap[b]? =(w1.setCell ⟨B,0,none⟩ l).heap[b]? :=(grownBy_setCell' _ E ve').block b (by rw[World.size_setCell];omega) fun e=>S (by cases e;rfl)
  exact e3.trans (e2.trans e1)
theorem Tryz.infoI :(Tryz.prog.info? 3).map (fun i=>(i.zero,i.size,i.bytes))=some (some (.int .i64 0),1,8):=by kernel_rfl
theorem y1f(s :List UInt8)(a:Nat)(w:World)(hl:s.length<=1048576)(ha:a<=s.length):
  Calls Tryz.prog 222 #[.string ⟨s.toArray⟩,.int .i64 (a:Int)] w fun e w'=> ∃v,e= .returned (.tuple #[v,.int .i64 (q9e a (q0m s a):Int)])/\
   w'.ownsRow w.heap.size 3 1 v (q0m s a).length ((q0m s a).map fun x=>Value.int .i64 (x.1:Int))/\Ext w w':=by
 have l0:decide ((s.length:Int)<(a:Int))=false:=by simp;omega
 refine(callsIn_wide (n:=3)).1 ?_;refine callsIn_of_wp_marks Tryz.func222 rfl trivial ?_ rfl;simp only[Tryz.ntmps222,List.size_toArray,χ,List.length_nil,Nat.reduceAdd,Nat.reduceSub,Array.replicate_succ,Array.replicate_zero,List.push_toArray,List.append_toArray,List.nil_append,List.cons_append]
 gi_wp2
 refine⟨trivial,(y0d _ s a _).mono ?_⟩;rintro e w' ⟨rfl,rfl⟩
 gi_wp2
 obtain⟨j,i⟩: ∃j,((((w.alloc (Obj.cells #[Value.slice none 0 0] 37)).alloc (Obj.cells #[Value.int IntKind.i64 (a:Int)] 3)).alloc (Obj.cells #[Value.string {data:=s.toArray}] 9)).alloc (Obj.cells #[Value.int IntKind.i64 (a:Int)] 3))=j:=⟨_,rfl⟩
 have o0:j.heap.size=w.heap.size+4:=by rw[<-i];simp
 have b0:Boxed j w.heap.size 37 (.slice none 0 0):=by rw[<-i];exact(((Boxed.new w _ _).alloc _).alloc _).alloc _
 have b1:Boxed j (w.heap.size+1) 3 (.int .i64 (a:Int)):=by
  rw[<-i];have:=Boxed.new (w.alloc (Obj.cells #[Value.slice none 0 0] 37)) 3 (.int .i64 (a:Int));rw[ρ] at this;exact(this.alloc _).alloc _
 have b2:Boxed j (w.heap.size+1+1) 9 (.string ⟨s.toArray⟩):=by
  rw[<-i];have:=Boxed.new ((w.alloc (Obj.cells #[Value.slice none 0 0] 37)).alloc (Obj.cells #[Value.int IntKind.i64 (a:Int)] 3)) 9 (.string ⟨s.toArray⟩);rw[ρ,ρ] at this;exact this.alloc _
 have b3:Boxed j (w.heap.size+1+1+1) 3 (.int .i64 (a:Int)):=by
  rw[<-i];have:=Boxed.new (((w.alloc (Obj.cells #[Value.slice none 0 0] 37)).alloc (Obj.cells #[Value.int IntKind.i64 (a:Int)] 3)).alloc (Obj.cells #[Value.string {data:=s.toArray}] 9)) 3 (.int .i64 (a:Int));rw[ρ,ρ,ρ] at this;exact this
 have e0:Ext w j:=by rw[<-i];exact(q7g w _ _ _).alloc _
 rw[i];clear i;have S:(q0m s a).length<=s.length+1:=z0p s _ _;have O:Hd ((q0m s a).length<=1048577):=η (by omega);clear S;obtain⟨i0,hi,f0,g0,h0⟩:=info_parts Tryz.infoI;refine wpIn_rangeFunc_ownG (F:=Fence.wide) rfl (by omega) (gf:=322) (lb:=#[.pointer (some ⟨w.heap.size+1+1+1,0,none⟩),.pointer (some ⟨w.heap.size+1+1,0,none⟩)]) rfl trivial (enters_of Tryz.func322 (by kernel_rfl) rfl)
  (z4p (3-1) (by omega) (w.heap.size+1+1+1) (w.heap.size+1+1) s a (by omega) ha j b3 b2) y3M (fun W l o o' h=>y3L (by omega) W l o o' h) (Below.refl _ _) (fun _=>rfl)
  (fun pre W=>(∃v,Boxed W w.heap.size 37 v/\W.ownsRow j.heap.size 3 1 v pre.length (pre.map fun x=>Value.int .i64 (x.1:Int))/\True)/\Boxed W (w.heap.size+1) 3 (.int .i64 (q9e a pre:Int))/\j.heap.size<=W.heap.size/\Below w.heap.size w W)
  (fun _ _ _=>False)
  (OwnFrom.and (Own.from (holdsRow_own j.heap.size w.heap.size 37 3 1 (fun pre:List (Nat×Nat)=>pre.length) (fun pre=>pre.map fun x=>Value.int .i64 (x.1:Int)) (fun _ _=>True)) _) (OwnFrom.and (Own.from (boxed_own (w.heap.size+1) 3 fun pre:List (Nat×Nat)=> .int .i64 (q9e a pre:Int)) _) (OwnFrom.and (fun _ _ _ _ hs hg _=>Ω hs hg.size) (ownFrom_below (ι _) (by omega)))))
  (fun _ _ _ _ _ hs _ _=>hs)
  ⟨⟨_,b0,World.ownsRow_nil _ _ _ _,trivial⟩,b1,ι _,e0⟩
  (fun x => {tmps:=#[.string ⟨s.toArray⟩,.int .i64 (a:Int),undef,undef,.pointer (some ⟨w.heap.size,0,none⟩),.pointer (some ⟨w.heap.size+1,0,none⟩),.int .i64 (x.1:Int),.int .i64 (x.2:Int),.int .i64 (a:Int),
       .bool (decide ((a:Int)<0)),.bool (decide ((a:Int)<0)),.int .i64 (a:Int),.string ⟨s.toArray⟩,.int .i64 (s.length:Int),.bool false,.bool (decide ((a:Int)<0)),.int .i64 (a:Int),.string ⟨s.toArray⟩,.int .i64 (a:Int),
       .func (.func 322) #[] #[.pointer (some ⟨w.heap.size+1+1+1,0,none⟩),.pointer (some ⟨w.heap.size+1+1,0,none⟩)],.int .i64 (x.1:Int),.int .i64 (x.2:Int),undef,undef,undef,undef,undef,undef,undef],defers:=[]}) ?assign ?body ?done ?stop
 case assign=>
  intro l x W K hK
  gi_wp2
  exact hK
 case body=>
  rintro l pre x W ⟨⟨v,C,d,_⟩,G,u,Q⟩ Z;have hc:=C.cell;have n0:pre.length<=1048577:=by have:=O.o;omega
  have J:w.heap.size+1+1<W.heap.size:=by omega
  clear Z
  gi_wp2_with (gi_at_builtin;refine wpListIn_append_own _ rfl _ _ 37 rfl j.heap.size 3 i0 (.int .i64 0) 1 8 Tryz.underlying37 hi f0 g0 h0 rfl (by decide) _ _ _ rfl (d.alloc _) ⟨W.heap.size,0,none⟩ 1 1 [.int .i64 (x.1:Int)] rfl rfl (cell_one_new _ _ _) (by simp[Value.oneCell']) (by unfold maxLen;omega) (by omega) (by simp;omega) ?_;intro v' w1 q y _;obtain⟨g',j0,rfl⟩:=ownsRow_succ q;obtain⟨N,I,d0,R,c0,M,U,a0⟩:=y3q (n₀:=w.heap.size) (ve':= .int .i64 (x.2:Int)) (b:=w.heap.size+1+1) C (by decide) G (by omega) J (by omega) (by omega) d u (by omega) (by omega) (by omega) (ι _) (by omega) q y;have k0:=N.cell;have m0:=N.frozen;have V:=I.cell;have Y:=I.frozen)
  exact⟨M.from _,a0,⟨⟨_,d0,by simpa using c0,trivial⟩,by rw[z6S];exact R,Ω u M.size,Q.trans U⟩⟩
 case done=>
  rintro D ys W hD rfl ⟨⟨v,C,d,_⟩,G,u,Q⟩ hK;have hc:=C.cell;have V:=G.cell;have hf:=C.frozen;have Y:=G.frozen;obtain⟨ao,cap,rfl⟩:=q0G d
  gi_wp2
  gi_region
  have e1:=C.set (.slice ao (q0m s a).length cap);have e2:=(G.other (B':=w.heap.size) (by omega) (.slice ao (q0m s a).length cap)).set (.int .i64 (q9e a (q0m s a):Int));have e3:=e1.other (B':=w.heap.size+1) (by omega) (.int .i64 (q9e a (q0m s a):Int));have e4:=q1D (q1D d (a:=⟨w.heap.size,0,none⟩) (.slice ao (q0m s a).length cap) (C.not_row (by decide) d).symm) (a:=⟨w.heap.size+1,0,none⟩) (.int .i64 (q9e a (q0m s a):Int)) (fun e=>by have:=(q0l d _ e).1;simp at this;omega);have e5:=((KeepsOthers.setCell W ⟨w.heap.size,0,none⟩ (.slice ao (q0m s a).length cap)).trans (KeepsOthers.setCell _ ⟨w.heap.size+1,0,none⟩ (.int .i64 (q9e a (q0m s a):Int)))).same D _ hK rfl;have e6:=(Q.setCell (p:=⟨w.heap.size,0,none⟩) (ι _) (.slice ao (q0m s a).length cap)).setCell (p:=⟨w.heap.size+1,0,none⟩) (by simp) (.int .i64 (q9e a (q0m s a):Int));generalize (W.setCell {block:=w.heap.size,off:=0} (.slice ao (q0m s a).length cap)).setCell {block:=w.heap.size+1,off:=0} (.int .i64 (q9e a (q0m s a):Int))=W2 at*;have d2:Boxed W2.drew (w.heap.size+1) 3 (.int .i64 (q9e a (q0m s a):Int)):=e2;have d3:Boxed W2.drew w.heap.size 37 (.slice ao (q0m s a).length cap):=e3;have d4:W2.drew.ownsRow j.heap.size 3 1 (.slice ao (q0m s a).length cap) (q0m s a).length ((q0m s a).map fun x=>Value.int .i64 (x.1:Int)):=z9c e4;have E:W2.drew.heap[D]? =some (Obj.deferred (some [])):=e5;have d6:Below w.heap.size w W2.drew:=e6.drew;clear e1 e2 e3 e4 e5 e6;generalize W2.drew=W3 at*
  gi_wp2
  have e7:(W3.putObj D (.deferred none)).cell? ⟨w.heap.size,0,none⟩=some (.slice ao (q0m s a).length cap):=cell_kept d3.cell (grownBy_putObj' _ D (.deferred none)) (fun r e=>by cases e;exact⟨_,E,rfl⟩);have e8:(W3.putObj D (.deferred none)).cell? ⟨w.heap.size+1,0,none⟩=some (.int .i64 (q9e a (q0m s a):Int)):=cell_kept d2.cell (grownBy_putObj' _ D (.deferred none)) (fun r e=>by cases e;exact⟨_,E,rfl⟩);refine⟨by simp,.inl ⟨_,_,rfl,run_takeDeferred E,?_⟩⟩;refine⟨.tuple #[.slice ao (q0m s a).length cap,.int .i64 (q9e a (q0m s a):Int)],?_,_,rfl,q1G (ownsRow_putObj d4 _ E rfl) (by omega),d6.trans (belowK_b (w:=w) (ι _) W3 D _ _ (by omega) E rfl rfl)⟩;rw[z0E rfl]
  go_simp
 case stop=>
  rintro D c pre W _ _ h _;exact h.elim
end
section
open Go.RowKit
theorem z4I(s:List UInt8)(n:Nat)(w:World)(G:n<200)(F:s.length<=1048576)(i:z0Y s (q1Y n)=true):
  Calls Tryz.prog 163 #[.string ⟨s.toArray⟩,.int .i64 (n:Int)] w fun e w'=> ∃v,e= .returned (.tuple #[v,.int .i64 (q9e 12 (q0m s 12):Int),.bool true])/\
   w'.ownsRow w.heap.size 3 1 v (q0m s 12).length ((q0m s 12).map fun x=>Value.int .i64 (x.1:Int))/\Ext w w':=by
 have l:=q1b n;have C:=η (fun W=>q9S n W G);have d:12<=s.length:=by
  unfold z0Y at i;simp only[Ξ,Φ] at i;omega
 generalize q1Y n=H at*;have y:=η (fun W=>q5S s H W (by omega) (by omega));rw[i] at y;have E:=η (fun W=>y1f s 12 W F d);clear i;have q:(H==[])=false:=by cases H with|nil=>cases l|cons=>rfl
 have I:¬H=[]:=by simpa using q
 go_enter Tryz.func163,Tryz.ntmps163;go_wp2_with fail;refine(C.o _).mono ?_;rintro e w1 ⟨rfl,b⟩;have u:=η b;clear b;go_wp2_with fail;refine(y.o _).mono ?_;rintro e J ⟨rfl,rfl⟩;go_wp2_with fail;refine(E.o _).mono ?_;rintro e M ⟨v,rfl,r,b⟩;have D:=η (q1G r u.o.size);have j:=η (u.o.trans b);obtain⟨ao,cap,rfl⟩:=q0G r;clear r b;go_wp2_with fail;go_ret3;exact⟨_,rfl,D.o,j.o⟩
def q6x(s:List UInt8):Value:=match z0X s with
 |none=> .tuple #[enV en0,.bool false]
 |some e=> .tuple #[enV e,.bool true]
theorem q0x{fn:Func}{p u:Tmp}{ty:TypeId}(h:fn.results=#[.cell p ty,.tmp u])(tmps:Array Value)(P:Program)(w:World):
  (results fn tmps).run P w=
   ((asAddr (tmps.getD p undef)).run P w).andThen fun a w₁=>((loadVar ty a).run P w₁).andThen fun v b=> .ok (.tuple #[v,tmps.getD u undef]) b:=by
 simp only[results,h];simp[Sem.run_bind,Result.andThen]
theorem q6M{cs:Array Value}(h:Ext (X.alloc (.cells cs t)) W'):Blk W' X.heap.size t cs:=(Blk.new X t cs).ext h
theorem z1t{cs:Array Value}(h:Ext (X.alloc (.cells cs t)).drew W'):Blk W' X.heap.size t cs:=(show Blk (X.alloc (.cells cs t)).drew X.heap.size t cs from Blk.new X t cs).ext h
theorem q9m(s : List UInt8)(w:World)(hl:s.length<=4611686018427387903):Calls Tryz.prog 281 #[.string ⟨s.toArray⟩] w fun r w'=>r= .returned (q6x s)/\Ext w w':=by
 have U:=Blk.new w 165 #[.int .u64 0,.int .i64 0,.int .i64 0];by_cases D:s.length=24
 case neg=>
  have HM:Hd (q6x s= .tuple #[.agg #[.int .u64 0,.int .i64 0,.int .i64 0],.bool false]):=η (by unfold q6x z0X;rw[κ (fun h=>D h.1)];rfl);have hn:((s.length:Int) !=24)=true:=by simp;omega
  go_enter Tryz.func281,Tryz.ntmps281;go_wp2_with fail
  ((try simp only[Exit.inBlock,Exit.then]);refine bodyPost_ret (v:= .tuple #[.agg #[_,_,_],_]) (by rw[results_cell_tmp rfl];go_simp;exact⟨⟨rfl,rfl,rfl⟩,rfl⟩) rfl ?_)
  rw[HM.o];exact⟨rfl,q0B _ _⟩
 obtain⟨X,M⟩: ∃X,s.take 8=X:=⟨_,rfl⟩
 obtain⟨Y,N⟩: ∃Y,(s.drop 8).take 8=Y:=⟨_,rfl⟩
 obtain⟨Z,O⟩: ∃Z,s.drop 16=Z:=⟨_,rfl⟩
 have lX:X.length=8:=by rw[<-M];simp;omega
 have lY:Y.length=8:=by rw[<-N];simp;omega
 have lZ:Z.length=8:=by rw[<-O];simp;omega
 have sX:=q4P s 8 8 rfl (by omega);have sY:=q3V s 8 16 8 16 rfl rfl (by omega) (by omega) (X:=Y) (by rw[<-N];exact q5j s 8 8);have sZ:=q3M s 16 16 rfl (by omega);rw[M] at sX;rw[O] at sZ;have uX:(q1O (X.take 8):Int)=(q1O X:Int):=by rw[Δ (by omega)]
 have uY:(q1O (Y.take 8):Int)=(q1O Y:Int):=by rw[Δ (by omega)]
 have uZ:(q1O (Z.take 8):Int)=(q1O Z:Int):=by rw[Δ (by omega)]
 have bX:=q2O X;have bY:=q2O Y;have bZ:=q2O Z;rw[lX] at bX;rw[lY] at bY;rw[lZ] at bZ;have F:z0X s=if q1O Y<=9223372036854775807/\q1O Z<=9223372036854775807 then some ((q1O X:Int),(q1O Y:Int),(q1O Z:Int)) else none:=by
  unfold z0X;rw[M,N,O];by_cases hc:q1O Y<=9223372036854775807/\q1O Z<=9223372036854775807
  ·rw[ξ ⟨D,hc⟩,ξ hc]
  ·rw[κ (fun h=>hc h.2),κ hc]
 obtain⟨x,hx⟩: ∃x:Int,(q1O X:Int)=x:=⟨_,rfl⟩
 obtain⟨y,hy⟩: ∃y:Int,IntKind.i64.wrap (q1O Y:Int)=y:=⟨_,rfl⟩
 obtain⟨z,hz⟩: ∃z:Int,IntKind.i64.wrap (q1O Z:Int)=z:=⟨_,rfl⟩
 have I:=hy;have J:=hz;rw[ν] at I J;have b0:(q1O Y<=9223372036854775807/\y=(q1O Y:Int)/\0<=y)\/(9223372036854775807<q1O Y/\y<0):=by
  rcases Nat.lt_or_ge 9223372036854775807 (q1O Y) with h|h
  ·right;omega
  ·left;omega
 have d0:(q1O Z<=9223372036854775807/\z=(q1O Z:Int)/\0<=z)\/(9223372036854775807<q1O Z/\z<0):=by
  rcases Nat.lt_or_ge 9223372036854775807 (q1O Z) with h|h
  ·right;omega
  ·left;omega
 have HV:Hd (q6x s=if 0<=y/\0<=z then .tuple #[.agg #[.int .u64 x,.int .i64 y,.int .i64 z],.bool true] else .tuple #[.agg #[.int .u64 0,.int .i64 0,.int .i64 0],.bool false]):=η (by
  unfold q6x;rw[F];by_cases hc:q1O Y<=9223372036854775807/\q1O Z<=9223372036854775807
  ·rw[ξ hc,ξ (by omega)]
   rw[hx,show(q1O Y:Int)=y by omega,show(q1O Z:Int)=z by omega]
   rfl
  ·rw[κ hc,κ (by omega)]
   rfl)
 rw[hx] at uX;have UX:=η uX;generalize (q1O Y:Int)=uy at*;generalize (q1O Z:Int)=uz at*;have R:Hd (∀W,Ext (w.alloc (.cells #[.int .u64 0,.int .i64 0,.int .i64 0] 165)) W->Ext w W):=η fun W h=>(q0B w _).trans h
 obtain⟨w0,a0⟩: ∃w0,w.alloc (.cells #[.int .u64 0,.int .i64 0,.int .i64 0] 165)=w0:=⟨_,rfl⟩
 have g0:((s.length:Int) !=24)=false:=by simp;omega
 have UY:=η uY;have UZ:=η uZ;have LX:X.length<=9223372036854775807:=by omega
 have LY:Y.length<=9223372036854775807:=by omega
 have LZ:Z.length<=9223372036854775807:=by omega
 clear uX uY uZ M N O lX lY lZ bX bY bZ F hx I J b0 d0 a0 U;go_enter Tryz.func281,Tryz.ntmps281;go_wp2_with fail;have i:=η (Ext.refl (w.alloc (.cells #[.int .u64 0,.int .i64 0,.int .i64 0] 165)))
 go_region_law
  (go_simp; (go_at_call 131;refine(q9l _ _ (by assumption)).mono ?_;rintro e Q ⟨rfl,d⟩;(first|rw[UX.o]|rw[UY.o]|rw[UZ.o]);
             (first
             |(have hc:=Ext.trans i.o d;(first|(replace b:=b.ext d)|skip))
             |(have hc:=Ext.trans i.o.drew d;(first|(replace b:=b.ext d)|skip))
             |(have hc:=Ext.trans (i.o.alloc _) d;have b:=q6M d;have hq:=i.o.size)
             |(have hc:=Ext.trans (i.o.alloc _).drew d;have b:=z1t d;have hq:=i.o.size)
             |(have hc:=Ext.trans (i.o.drew.alloc _) d;have b:=q6M d;have hq:=i.o.size));
             replace i:=η hc;have l:=q6M hc;have r0:_=some (Value.int .u64 0):=l.cell 0;have r1:_=some (Value.int .i64 0):=l.cell 1;have r2:_=some (Value.int .i64 0):=l.cell 2;have y0:=l.free 0;have y1:=l.free 1;have y2:=l.free 2;have hs:=hc.size;rw[ρ] at hs;
             (try rw[ρ] at hq);(try (first|rw[ρ] at b|skip;have k0:_=some (Value.int .u64 0):=b.cell 0;have k1:_=some (Value.int .i64 0):=b.cell 1;have k2:_=some (Value.int .i64 0):=b.cell 2;have z0:=b.free 0;have z1:=b.free 1;have z2:=b.free 2));clear d hc))
 all_goals
  have j:Hd (q6x s=if 0<=y/\0<=z then .tuple #[.agg #[.int .u64 x,.int .i64 y,.int .i64 z],.bool true] else .tuple #[.agg #[.int .u64 0,.int .i64 0,.int .i64 0],.bool false]):=HV;have S:=η (R.o _ i.o);have C:=l.ext (q0B Q (.cells #[.int .u64 x,.int .i64 y,.int .i64 z] 165));have h0:(Q.alloc (.cells #[.int .u64 x,.int .i64 y,.int .i64 z] 165)).cell? ⟨w.heap.size,0,none⟩=some (Value.int .u64 0):=C.cell 0;have i0:(Q.alloc (.cells #[.int .u64 x,.int .i64 y,.int .i64 z] 165)).cell? ⟨w.heap.size,1,none⟩=some (Value.int .i64 0):=C.cell 1;have j0:(Q.alloc (.cells #[.int .u64 x,.int .i64 y,.int .i64 z] 165)).cell? ⟨w.heap.size,2,none⟩=some (Value.int .i64 0):=C.cell 2;have l0:=C.free 0;have m0:=C.free 1;have n0:=C.free 2;by_cases u:0<=y/\0<=z
  ·obtain⟨e0,f0⟩:=u
   have E:decide (y<0)=false:=by simp;omega
   have V:decide (z<0)=false:=by simp;omega
   go_wp2_with fail
   (try simp only[Exit.inBlock,Exit.then])
   refine bodyPost_ret (v:= .tuple #[.agg #[.int .u64 x,.int .i64 y,.int .i64 z],.bool true]) (by rw[results_cell_tmp rfl];go_simp) rfl ?_;rw[j.o,ξ ⟨e0,f0⟩];refine⟨rfl,?_⟩
   repeat (first|refine Below.setCell ?_ (by first|exact ι _|(simp;done)|(simp;omega)) _|refine Ext.alloc ?_ _|refine Ext.drew ?_)
   exact S.o
  ·have q:y<0\/(0<=y/\z<0):=by omega
   rcases q with G|⟨G,c0⟩
   ·have E:decide (y<0)=true:=by simpa using G
    go_wp2_with fail
    (try simp only[Exit.inBlock,Exit.then])
    refine bodyPost_ret (v:= .tuple #[.agg #[.int .u64 0,.int .i64 0,.int .i64 0],.bool false]) (by rw[results_cell_tmp rfl];go_simp) rfl ?_;rw[j.o,κ u];refine⟨rfl,?_⟩
    repeat (first|refine Below.setCell ?_ (by first|exact ι _|(simp;done)|(simp;omega)) _|refine Ext.alloc ?_ _|refine Ext.drew ?_)
    exact S.o
   ·have E:decide (y<0)=false:=by simp;omega
    have V:decide (z<0)=true:=by simpa using c0
    go_wp2_with fail
    (try simp only[Exit.inBlock,Exit.then])
    refine bodyPost_ret (v:= .tuple #[.agg #[.int .u64 0,.int .i64 0,.int .i64 0],.bool false]) (by rw[results_cell_tmp rfl];go_simp) rfl ?_;rw[j.o,κ u];refine⟨rfl,?_⟩
    repeat (first|refine Below.setCell ?_ (by first|exact ι _|(simp;done)|(simp;omega)) _|refine Ext.alloc ?_ _|refine Ext.drew ?_)
    exact S.o
theorem Tryz.infoE :(Tryz.prog.info? 165).map (fun i=>(i.zero,i.size,i.bytes))=some (some (.agg #[.int .u64 0,.int .i64 0,.int .i64 0]),3,24):=by kernel_rfl
theorem y1d(n:Nat)(w:World)(d:n<=1000000):Calls Tryz.prog 324 #[.int .i64 (n:Int)] w fun e w'=>e= .returned (.int .i64 (12+24*(n:Int)))/\w=w':=by
 have b:decide ((89478484:Int)<(n:Int))=false:=by simp;omega
 go_enter Tryz.func324,Tryz.ntmps324;go_wp2_with fail;go_ret;exact⟨rn (by omega),rfl⟩
theorem y3X(n:Nat)(w:World)(d:n<=1000000):Calls Tryz.prog 280 #[.int .i64 (n:Int)] w fun e w'=>e= .returned (.int .i64 (8+24*(n:Int)))/\w=w':=by
 have b:=η (fun W=>y1d n W d);have i:((12+24*(n:Int))==0)=false:=by simp;omega
 go_enter Tryz.func280,Tryz.ntmps280;go_wp2_with fail;refine(b.o _).mono ?_;rintro e w1 ⟨rfl,rfl⟩;go_wp2_with fail;go_ret;exact⟨rn (by omega),rfl⟩
def y2o :Value->Nat| .string b=>b.size|_=>0
def y3p(w:World)(r:Option (List En))(e:Ending)(w':World):Prop:=
 match r with
 |none=>e= .returned (.tuple #[.slice none 0 0,.int .i64 90])/\Ext w w'
 |some l=> ∃v,e= .returned (.tuple #[v,.int .i64 0])/\w'.ownsRow w.heap.size 165 3 v l.length (ecs l)/\Ext w w'
theorem q6U : ∀(f g:Nat) (s:List UInt8),s.length<f->s.length<g->q2W f s=q2W g s
 |0,_,_,h,_=>by omega
 |_,0,_,_,h=>by omega
 | f + 1,g+1,s,h1,h2=>by
  unfold q2W;by_cases b:s=[]
  ·rw[ξ b,ξ b]
  ·rw [κ b,κ b]
   have d:(s.drop 24).length<s.length:=by
    have:0<s.length:=List.length_pos_iff.2 b;rw[List.length_drop];omega
   cases z0X (s.take 24) with
   |none=>rfl
   |some e=>simp only;rw[q6U f g (s.drop 24) (by omega) (by omega)]
theorem y2r(s:List UInt8)(w:World)(hl:s.length<=1048576):Calls Tryz.prog 238 #[.string ⟨s.toArray⟩] w (y3p w (q8q s)):=by
 have HO:=η (fun W=>open_c s W (by omega));by_cases d:q2L s=true
 case neg=>
  have k0:q2L s=false:=by simpa using d
  have HN:Hd (q8q s=none):=η (by unfold q8q;rw[κ (fun h=>d h.1)]);have hT:q1z s=[]:=by unfold q1z;rw[κ d]
  rw[k0,hT] at HO;clear d k0 hT;go_enter Tryz.func238,Tryz.ntmps238;go_wp2_with fail;refine(HO.o _).mono ?_;rintro e w1 ⟨rfl,b⟩;have U:=η b;clear b;go_wp2_with fail;go_ret2;rw[HN.o];exact⟨rfl,U.o⟩
 rw[d] at HO;have h4:4<=s.length:=by unfold q2L at d;simp only[Ξ,Φ] at d;exact d.1
 obtain⟨T,hT⟩: ∃T,q1z s=T:=⟨_,rfl⟩
 have I:s.take (s.length-4)=T:=by rw[<-hT];unfold q1z;rw[ξ d]
 have x0:T.length=s.length-4:=by rw[<-I,Θ];omega
 have e0:s.take 4=T.take 4\/T.length<4:=by
  rcases Nat.lt_or_ge T.length 4 with h|h
  ·exact .inr h
  ·left;rw[<-I,List.take_take,Nat.min_eq_left (by omega)]
 rw[hT] at HO;have q:q8q s=if 8<=T.length/\s.take 4=z2w/\(T.drop 8).length=q1O ((T.drop 4).take 4)*24 then(match q2W (s.length+1) (T.drop 8) with|none=>none|some l=>if q4V l then some l else none) else none:=by
  unfold q8q;rw[I];by_cases hc:8<=T.length/\s.take 4=z2w/\(T.drop 8).length=q1O ((T.drop 4).take 4)*24
  ·rw[ξ hc,ξ ⟨d,by omega,hc.2.1,hc.2.2⟩]
   cases q2W (s.length+1) (T.drop 8) with
   |none=>rfl
   |some l=>rfl
  ·rw[κ hc,κ (fun h=>hc ⟨by omega,h.2.2.1,h.2.2.2⟩)]
 have J0:T.length<=1048576:=by omega
 have K0:T.length<=s.length:=by omega
 clear x0;by_cases h8:8<=T.length
 case neg=>
  have HN:Hd (q8q s=none):=η (by rw[q,κ (fun h=>h8 h.1)]);have hd:decide ((T.length:Int)<8)=true:=by simp;omega
  clear q hT I e0 h8 d;go_enter Tryz.func238,Tryz.ntmps238;go_wp2_with fail;refine(HO.o _).mono ?_;rintro e w1 ⟨rfl,b⟩;have U:=η b;clear b;go_wp2_with fail;go_ret2;rw[HN.o];exact⟨rfl,U.o⟩
 have L0:decide ((T.length:Int)<8)=false:=by simp;omega
 have Q:s.take 4=T.take 4:=by
  rcases e0 with h|h
  ·exact h
  ·omega
 rw[Q] at q;have sF:=q4P T 4 4 rfl (by omega);obtain⟨A,hA⟩: ∃A,T.take 4=A:=⟨_,rfl⟩
 rw[hA] at sF q;by_cases b0:A=z2w
 case neg=>
  have HN:Hd (q8q s=none):=η (by rw[q,κ (fun h=>b0 h.2.1)]);have r0:(A==[112,116,97,98])=false:=by simpa [z2w] using b0
  have j0:(A !=[112,116,97,98])=true:=by simpa [z2w] using b0
  clear q hT I e0 h8 d Q hA;go_enter Tryz.func238,Tryz.ntmps238;go_wp2_with fail;refine(HO.o _).mono ?_;rintro e w1 ⟨rfl,b⟩;have U:=η b;clear b;go_wp2_with fail;go_ret2;rw[HN.o];exact⟨rfl,U.o⟩
 subst b0;obtain⟨X,hX⟩: ∃X,(T.drop 4).take 4=X:=⟨_,rfl⟩
 have lX:X.length=4:=by rw[<-hX];simp;omega
 have sX:=q3V T 4 8 4 8 rfl rfl (by omega) h8 (X:=X) (by rw[<-hX];exact q5j T 4 4);have sR:=q3M T 8 8 rfl h8;obtain⟨i,d0⟩: ∃i,T.drop 8=i:=⟨_,rfl⟩
 have p0:i.length+8=T.length:=by rw[<-d0,List.length_drop];omega
 rw[hX,d0] at q;rw[d0] at sR;have hG:=fun W=>q9l X W (by omega)
 rw[Δ (by omega)] at hG;have bX:=q2O X;rw[lX] at bX;obtain⟨m,hm⟩: ∃m:Nat,q1O X=m:=⟨_,rfl⟩
 rw[hm] at hG bX q;have HG:=η hG;have M0:m<4294967296:=bX;have m0:=η q;have H0:i.length<=1048576:=by omega
 have N0:IntKind.u64.wrap (i.length:Int)=(i.length:Int):=by rw[IntKind.wrap_u64];omega
 have O0:IntKind.u64.wrap ((m:Int)*24)=(m:Int)*24:=by rw[IntKind.wrap_u64];omega
 have q0:i.length<s.length+1:=by omega
 have o0:=h8;clear q hG bX hT I e0 d Q hA hX d0 lX p0 h8;have F0:(z2w==[112,116,97,98])=true:=by decide
 have A0:(z2w !=[112,116,97,98])=false:=by decide
 have P0: ∀w,(Instr.slice 9 (.string ⟨T.toArray⟩) none (some (.int .i64 4)) none).run Tryz.prog w= .ok (.string ⟨#[112,116,97,98]⟩) w:=sF;clear sF;by_cases F:i.length=m*24
 case neg=>
  have HN:Hd (q8q s=none):=η (by rw[m0.o,κ (fun h=>F h.2.2)]);have r0:((i.length:Int)==(m:Int)*24)=false:=by simp;omega
  have j0:((i.length:Int) !=(m:Int)*24)=true:=by simp;omega
  go_enter Tryz.func238,Tryz.ntmps238;go_wp2_with fail;refine(HO.o _).mono ?_;rintro e w1 ⟨rfl,b⟩;have U:=η b;clear b;go_wp2_with fail;refine(HG.o _).mono ?_;rintro e w2 ⟨rfl,b⟩;have V:=η (U.o.trans b);clear b;go_wp2_with fail;go_ret2;rw[HN.o];exact⟨rfl,V.o⟩
 case pos =>
  have HE:Hd (q8q s=match q2W (s.length+1) i with|none=>none|some l=>if q4V l then some l else none):=η (by
   rw[m0.o,ξ ⟨o0,rfl,F⟩])
  have u0:Hd (q2W (s.length+1) i=q2W (i.length+1) i):=η (q6U _ _ _ q0 (Nat.lt_succ_self _));have r0:((i.length:Int)==(m:Int)*24)=true:=by simp;omega
  have j0:((i.length:Int) !=(m:Int)*24)=false:=by simp;omega
  have v0:=η F;clear F o0 q0;go_enter Tryz.func238,Tryz.ntmps238;go_wp2_with fail;refine(HO.o _).mono ?_;rintro e w1 ⟨rfl,b⟩;have U:=η b;clear b;go_wp2_with fail;refine(HG.o _).mono ?_;rintro e w2 ⟨rfl,b⟩;have V:=η (U.o.trans b);clear b;go_wp2_with fail;have D0:=η (V.o.size)
  go_loopw [7,8] (fun r v W=> ∃(R:List UInt8) (L:List En) (va:Value),r= .string ⟨R.toArray⟩/\v=va/\W.ownsRow w.heap.size 165 3 va L.length (ecs L)/\Ext w W/\q2W (s.length+1) i=(q2W (R.length+1) R).map (L++·)/\R.length % 24=0/\R.length+24*L.length=i.length) (fun r _ _=>y2o r)
  case atStart=>exact⟨i,[],.slice none 0 0,rfl,rfl,World.ownsRow_nil _ _ _ _,V.o,by rw[u0.o];cases q2W (i.length+1) i<;>simp,by rw[v0.o];omega,by simp⟩
  case round=>
   obtain⟨R,L,va,rfl,rfl,u,b,D,l0,G⟩:=hrel;obtain⟨Q0,vc,rfl⟩:=q0G u;have g0:=η u;have Y:=η b;have E0:=η D;have z0:=η G;have G0:L.length<=1048576:=by omega
   have B0:R.length<=1048576:=by omega
   by_cases hR:R=[]
   ·subst hR
    have i0:q2W (s.length+1) i=some L:=by
     rw[D];show(q2W 1 []).map (L++·)=some L;have:q2W 1 []=some []:=rfl;rw[this];simp
    have HS:=η (fun (W:World) (k:Ext wr W)=>by
     obtain⟨ao,cap,e1,e2⟩:=Ens.of_own (Own.of_row (q0O u k))
     cases e1
     exact z9j W e2)
    have Z:Hd (q8q s=if q4V L then some L else none):=η (by rw[HE.o,i0]);clear D i0 l0 G u b;go_wp2_with fail;refine(HS.o _ (Ext.refl _)).mono ?_;rintro e w3 ⟨rfl,b⟩;have C:=η b;clear b
    cases hq:q4V L with
    | true=>
     rw[hq] at Z;go_wp2_with fail;go_ret2;rw[Z.o];exact⟨_,rfl,q0O g0.o C.o,Y.o.trans C.o⟩
    | false=>
     rw[hq] at Z;go_wp2_with fail;go_ret2;rw[Z.o];exact⟨rfl,Y.o.trans C.o⟩
   ·have h0:24<=R.length:=by
     have:0<R.length:=List.length_pos_iff.2 hR;omega
    have I0:(R==[])=false:=by simpa using hR
    have C0:(R !=[])=true:=by simpa using hR
    have s1:=q4P R 24 24 rfl h0;have s2:=q3M R 24 24 rfl h0;have j:q2W (R.length+1) R=match z0X (R.take 24) with|none=>none|some e=>(q2W ((R.drop 24).length+1) (R.drop 24)).map (e::·):=by
     conv=>lhs;unfold q2W
     rw[κ hR]
     cases z0X (R.take 24) with
     |none=>rfl
     |some e=>simp only;rw[q6U R.length ((R.drop 24).length+1) (R.drop 24) (by rw[List.length_drop];omega) (Nat.lt_succ_self _)]
    have hD:(R.drop 24).length=R.length-24:=by rw[List.length_drop]
    obtain⟨E,hE⟩: ∃E,R.take 24=E:=⟨_,rfl⟩
    obtain⟨S,c0⟩: ∃S,R.drop 24=S:=⟨_,rfl⟩
    have lE:E.length=24:=by rw[<-hE,Θ];omega
    rw[hE] at s1;rw[c0] at s2 hD;rw[hE,c0] at j;have a0:=η (fun W=>q9m E W (by omega))
    cases hge:z0X E with
    | none=>
     have M:q6x E= .tuple #[.agg #[.int .u64 0,.int .i64 0,.int .i64 0],.bool false]:=by unfold q6x;rw[hge];rfl
     rw[M] at a0;have HN:Hd (q8q s=none):=η (by rw[HE.o,D,j,hge];rfl);clear D j M hge hE c0 hR lE u b l0 G hD;go_wp2_with fail;refine(a0.o _).mono ?_;rintro e w3 ⟨rfl,b⟩;have C:=η (Y.o.trans b);clear b;go_wp2_with fail;go_ret2;rw[HN.o];exact⟨rfl,C.o.alloc _⟩
    | some e=>
     obtain⟨x,y,z⟩:=e;have M:q6x E= .tuple #[.agg #[.int .u64 x,.int .i64 y,.int .i64 z],.bool true]:=by unfold q6x;rw[hge];rfl
     rw[M] at a0
     have t0:Hd (q2W (s.length+1) i=(q2W (S.length+1) S).map ((L++[(x,y,z)])++·)):=η (by
      rw[D,j,hge];simp only
      cases q2W (S.length+1) S<;>simp)
     have J:Hd (S.length % 24=0/\S.length+24*(L.length+1)=i.length/\S.length<R.length):=η (by omega);clear D j M hge hE c0 hR lE u b l0 G hD;go_wp2_with fail;refine(a0.o _).mono ?_;rintro e w3 ⟨rfl,b⟩;have C:=η (Y.o.trans b);have n0:=η (q0O g0.o b);have f0:=η C.o.size;clear b
     go_wp2_with (at_builtin;refine q0R rfl _ _ 187 rfl w.heap.size 165 _ 3 24 Tryz.underlying187 Tryz.infoE (by decide) (by decide) _ L.length (ecs L) rfl (q0O (q0O n0.o (q0B _ _)) (q0B _ _)) _ 1 1 (ec (x,y,z)) rfl rfl (fun h=>by cases h) (by have h:=Rd.lit (w3.alloc (Obj.cells #[.int .u64 x,.int .i64 y,.int .i64 z] 165)) #[.int .u64 x,.int .i64 y,.int .i64 z] 165;have e:(w3.alloc (Obj.cells #[.int .u64 x,.int .i64 y,.int .i64 z] 165)).heap.size=w3.heap.size+1:=Array.size_push _;rw[e] at h;exact h) (by unfold ec;simp[Value.oneCell']) (by unfold maxLen;omega) (by omega) (by have:=f0.o;simp;omega) ?_;intro v2 w5 O N y0;obtain⟨a2,k2,rfl⟩:=q0G O;have w0:=η O;have s0:=η (q1d ((C.o.alloc _).alloc _) (Own.of_row (q0O (q0O n0.o (q0B _ _)) (q0B _ _))) N (by have:=f0.o;simp;omega));clear O N y0)
     go_roundw
     case rel=>exact⟨S,L++[(x,y,z)],_,rfl,rfl,by rw[θ,z3Y];exact w0.o,s0.o,t0.o,J.o.1,by rw[θ];exact J.o.2.1⟩
     case measure=>exact J.o.2.2
def md0 :En×Nat:=(en0,0)
def mc(m:En×Nat):List Value:=[.int .u64 m.1.1,.int .i64 m.1.2.1,.int .i64 m.1.2.2,.int .i64 (m.2:Int)]
def mcs(L:List (En×Nat)):List Value:=L.flatMap mc
theorem z3p(L:List (En×Nat))(e:En×Nat):mcs (L++[e])=mcs L++mc e:=by unfold mcs;simp
theorem z3o(e:En×Nat)(L:List (En×Nat)):mcs (e::L)=mc e++mcs L:=rfl
theorem z1J : ∀(L:List (En×Nat)) (i j:Nat),i<L.length->j<4->(mcs L)[i*4+j]? =(mc (L.getD i md0))[j]?
 |[],i,j,h,_=>by simp at h
 | k::L,0,j,_,hj=>by
  rw[z3o,List.getElem?_append_left (by simp[mc];omega)];simp
 | k::L,i+1,j,h,hj=>by
  rw[z3o,List.getElem?_append_right (by simp[mc];omega),show(i+1)*4+j-(mc k).length=i*4+j from by simp[mc];omega,z1J L i j (by simpa using h) hj];simp
structure Mds(w:World)(ao:Option Addr)(n cap:Nat)(L:List (En×Nat)):Prop where
 len:L.length=n
 fits:n<=cap
 bound:cap<=9223372036854775807
 nil:ao=none->cap=0
 rd:Rd w ao (mcs L)
theorem Mds.ext{w':World}(h:Mds w ao n cap L)(k:Ext w w'):Mds w' ao n cap L:=⟨h.len,h.fits,h.bound,h.nil,h.rd.ext k⟩
theorem Mds.at(h:Mds w ao n cap L){i:Nat}(y:i<n):
  ∃b off,ao=some ⟨b,off,none⟩/\w.cell? ⟨b,off+i*4,none⟩=some (.int .u64 (L.getD i md0).1.1)/\w.cell? ⟨b,off+i*4+1,none⟩=some (.int .i64 (L.getD i md0).1.2.1)/\w.cell? ⟨b,off+i*4+2,none⟩=some (.int .i64 (L.getD i md0).1.2.2)/\w.cell? ⟨b,off+i*4+3,none⟩=some (.int .i64 ((L.getD i md0).2:Int)):=by
 have C:=h.len;have k0:=z1J L i 0 (by omega) (by decide);have k1:=z1J L i 1 (by omega) (by decide);have u:=z1J L i 2 (by omega) (by decide);have x:=z1J L i 3 (by omega) (by decide);obtain⟨b,off,rfl,o⟩:=h.rd _ _ k0;obtain⟨_,_,d,q⟩:=h.rd _ _ k1
 cases d;obtain⟨_,_,j,r⟩:=h.rd _ _ u
 cases j;obtain⟨_,_,l,s⟩:=h.rd _ _ x
 cases l;exact⟨b,off,rfl,o,q,r,s⟩
theorem Mds.of_own(h:Own w B e 4 v L.length (mcs L)): ∃ao cap,v= .slice ao L.length cap/\Mds w ao L.length cap L:=by
 obtain⟨ao,cap,rfl,b,d,i,j⟩:=h.rd;exact⟨ao,cap,rfl,rfl,b,d,i,j⟩
theorem Tryz.infoM :(Tryz.prog.info? 390).map (fun i=>(i.zero,i.size,i.bytes))=some (some (.agg #[.int .u64 0,.int .i64 0,.int .i64 0,.int .i64 0]),4,32):=by kernel_rfl
theorem q6l(m:Nat): ∀(i:Nat) (l:List En),(q4U m i l).length<=l.length
 |_,[]=>by unfold q4U;simp
 | i,e::r=>by
  have:=q6l m (i+1) r;unfold q4U
  split<;>simp<;>omega
theorem y2Q{L:List En}(w:World)(U:Ens w ao n cap L)(hn:n<=1000000):Calls Tryz.prog 261 #[.slice ao n cap] w fun r w'=> ∃v,r= .returned v/\w'.ownsRow w.heap.size 390 4 v (q2p L).length (mcs (q2p L))/\Ext w w':=by
 have Hx:=η U;have b1:=U.fits;have b2:=U.bound;have s:=η U.len;clear U;go_enter Tryz.func261,Tryz.ntmps261;go_wp2_with fail
 go_loopw [3,8] (fun v i W=> ∃(k:Nat) (M:List (En×Nat)),k<=n/\i= .int .i64 (k:Int)/\W.ownsRow w.heap.size 390 4 v M.length (mcs M)/\M++q4U n k (L.drop k)=q2p L/\Ext w W) (fun _ i _=>n-(intOf i).toNat)
 case atStart=>exact⟨0,[],υ _,rfl,World.ownsRow_nil _ _ _ _,by rw[List.nil_append,List.drop_zero];unfold q2p;rw[s.o],Ext.refl _⟩
 case round=>
  obtain⟨k,M,hk,rfl,q,u,Q⟩:=hrel;have l:=η q;have E:=η Q;obtain⟨va,vc,rfl⟩:=q0G q;have F:=η (Q:Ext w wr).size;by_cases x:k<n
  ·have hd:decide ((k:Int)<(n:Int))=true:=by simp;omega
   obtain⟨b,off,rfl,c0,c1,c2⟩:=(Hx.o.ext Q).at x;have V:L.drop k=L.getD k en0::L.drop (k+1):=by
    rw[List.drop_eq_getElem_cons (by rw[s.o];exact x)];simp[List.getD,γ (show k<L.length by rw[s.o];exact x)]
   rw[V] at u;have G:=congrArg List.length u;have a0:=q6l L.length 0 L;have R:(q2p L).length<=n:=by unfold q2p;rw[<-s.o];exact a0
   rw[θ] at G;have b0:M.length<=n:=by omega
   generalize L.getD k en0=z at*;have u0:=q0D c0;have u1:=q0D c1;have u2:=q0D c2;have d0:IntKind.i64.wrap ((n:Int)-1)=(n:Int)-1:=by rw[ν];omega
   unfold q4U at u;obtain⟨y,C,D⟩:=z;have e0:IntKind.i64.wrap (Int.tmod (k:Int) 8)=((k % 8:Nat):Int):=by
    have:Int.tmod (k:Int) 8=((k % 8:Nat):Int):=by rw[Int.tmod_eq_emod_of_nonneg (by omega)];omega
    rw[this,ν];omega
   by_cases hm:k % 8=0
   ·rw[ξ (.inl hm)] at u
    have Y:(((k % 8:Nat):Int)==0)=true:=by simp;omega
    have J:=η u;clear u q Q V G
    go_wp2_with (at_builtin;refine q0R rfl (.tmp 23) (.tmp 27) 316 rfl w.heap.size 390 _ 4 32 Tryz.underlying316 Tryz.infoM (by decide) (by decide) _ M.length (mcs M) rfl (q0O (q0O l.o (q0B _ _)) (q0B _ _)) _ 1 1 (mc ((y,C,D),k)) rfl rfl (fun h=>by cases h) (by have h:=Rd.lit (wr.alloc (Obj.cells #[.int .u64 y,.int .i64 C,.int .i64 D] 165)) #[.int .u64 y,.int .i64 C,.int .i64 D,.int .i64 (k:Int)] 390;have e:(wr.alloc (Obj.cells #[.int .u64 y,.int .i64 C,.int .i64 D] 165)).heap.size=wr.heap.size+1:=Array.size_push _;rw[e] at h;exact h) (by unfold mc;simp[Value.oneCell']) (by unfold maxLen;omega) (by omega) (by have:=F.o;simp;omega) ?_;intro v2 w5 j d O;obtain⟨a2,k2,rfl⟩:=q0G j;have N:=η j;have I:=η (q1d ((E.o.alloc _).alloc _) (Own.of_row (q0O (q0O l.o (q0B _ _)) (q0B _ _))) d (by have:=F.o;simp;omega));clear j d O)
    go_roundw
    case rel=>exact⟨k+1,M++[((y,C,D),k)],x,by go_num,by rw[θ,z3p];exact N.o,by rw[List.append_assoc];exact J.o,I.o⟩
    case measure=>simp[intOf];omega
   ·have Y:(((k % 8:Nat):Int)==0)=false:=by simp;omega
    by_cases R:k+1=n
    ·rw[ξ (.inr R)] at u
     have Z:((k:Int)==(n:Int)-1)=true:=by simp;omega
     have J:=η u;clear u q Q V G
     go_wp2_with (at_builtin;refine q0R rfl (.tmp 23) (.tmp 27) 316 rfl w.heap.size 390 _ 4 32 Tryz.underlying316 Tryz.infoM (by decide) (by decide) _ M.length (mcs M) rfl (q0O (q0O l.o (q0B _ _)) (q0B _ _)) _ 1 1 (mc ((y,C,D),k)) rfl rfl (fun h=>by cases h) (by have h:=Rd.lit (wr.alloc (Obj.cells #[.int .u64 y,.int .i64 C,.int .i64 D] 165)) #[.int .u64 y,.int .i64 C,.int .i64 D,.int .i64 (k:Int)] 390;have e:(wr.alloc (Obj.cells #[.int .u64 y,.int .i64 C,.int .i64 D] 165)).heap.size=wr.heap.size+1:=Array.size_push _;rw[e] at h;exact h) (by unfold mc;simp[Value.oneCell']) (by unfold maxLen;omega) (by omega) (by have:=F.o;simp;omega) ?_;intro v2 w5 j d O;obtain⟨a2,k2,rfl⟩:=q0G j;have N:=η j;have I:=η (q1d ((E.o.alloc _).alloc _) (Own.of_row (q0O (q0O l.o (q0B _ _)) (q0B _ _))) d (by have:=F.o;simp;omega));clear j d O)
     go_roundw
     case rel=>exact⟨k+1,M++[((y,C,D),k)],x,by go_num,by rw[θ,z3p];exact N.o,by rw[List.append_assoc];exact J.o,I.o⟩
     case measure=>simp[intOf];omega
    ·rw[κ (fun h=>h.elim hm R)] at u
     have Z:((k:Int)==(n:Int)-1)=false:=by simp;omega
     have J:=η u;clear u q Q V G;go_wp2_with fail
     go_roundw
     case rel=>exact⟨k+1,M,x,by go_num,q0O l.o (q0B _ _),J.o,E.o.alloc _⟩
     case measure=>simp[intOf];omega
  ·have hd:decide ((k:Int)<(n:Int))=false:=by simp;omega
   have S:M=q2p L:=by
    rw[List.drop_of_length_le (by rw[s.o];omega)] at u;unfold q4U at u
    simpa using u
   have J:=η S;clear q Q u S;go_wp2_with fail;go_ret;exact⟨_,rfl,by rw[<-J.o];exact l.o,E.o⟩
theorem z9Q{M:List (En×Nat)}(x:En)(w:World)(Y:Mds w ao n cap M)(hn:m<=1000000)(hm: ∀y∈M,y.2<m):Calls Tryz.prog 279 #[.slice ao n cap,.int .i64 (m:Int),enV x] w fun r w'=>r= .returned (.tuple #[.int .i64 ((q0w m x 0 M).1:Int),.int .i64 ((q0w m x 0 M).2:Int)])/\Ext w w':=by
 have Hx:=η Y;have b1:=Y.fits;have b2:=Y.bound;have u:=η Y.len;have HM:=η hm;clear Y hm;obtain⟨d,j,s⟩:=x;have J:=Blk.new w 165 #[.int .u64 d,.int .i64 j,.int .i64 s];have Q:=η (q0B w (.cells #[.int .u64 d,.int .i64 j,.int .i64 s] 165));have e0:=η (show(w.alloc (.cells #[.int .u64 d,.int .i64 j,.int .i64 s] 165)).cell? ⟨w.heap.size,0,none⟩=some (.int .u64 d) from J.cell 0);have e1:=η (show(w.alloc (.cells #[.int .u64 d,.int .i64 j,.int .i64 s] 165)).cell? ⟨w.heap.size,1,none⟩=some (.int .i64 j) from J.cell 1);have e2:=η (show(w.alloc (.cells #[.int .u64 d,.int .i64 j,.int .i64 s] 165)).cell? ⟨w.heap.size,2,none⟩=some (.int .i64 s) from J.cell 2);clear J;have HF:Hd (∀W,Ext (w.alloc (.cells #[.int .u64 d,.int .i64 j,.int .i64 s] 165)) W->W.cell? ⟨w.heap.size,0,none⟩=some (.int .u64 d)/\W.cell? ⟨w.heap.size,1,none⟩=some (.int .i64 j)/\W.cell? ⟨w.heap.size,2,none⟩=some (.int .i64 s)):=η fun W k=>⟨q0A k e0.o,q0A k e1.o,q0A k e2.o⟩
 clear e0 e1 e2;have hmx:¬((m:Int)<0):=by omega
 show Calls Tryz.prog 279 #[.slice ao n cap,.int .i64 (m:Int),.agg #[.int .u64 d,.int .i64 j,.int .i64 s]] w _;go_enter Tryz.func279,Tryz.ntmps279;go_wp2_with fail
 go_step3
 go_wp2_with fail
 go_step3
 go_wp2_with fail;generalize w.alloc (.cells #[.int .u64 d,.int .i64 j,.int .i64 s] 165)=w1 at*;generalize w.heap.size=p at*
 go_loopw [6,7,16] (fun l h i W=> ∃(k C:Nat),k<=n/\i= .int .i64 (k:Int)/\l= .int .i64 (C:Int)/\h= .int .i64 (m:Int)/\C<=m+1/\q0w m (d,j,s) C (M.drop k)=q0w m (d,j,s) 0 M/\Ext w1 W) (fun _ _ i _=>n-(intOf i).toNat)
 case atStart=>exact⟨0,0,υ _,rfl,rfl,rfl,by omega,by rw[List.drop_zero],Ext.refl _⟩
 case round =>
  obtain⟨k,C,hk,rfl,rfl,rfl,l0,G,D⟩:=hrel;have O:=η D;by_cases E:k<n
  ·have hd:decide ((k:Int)<(n:Int))=true:=by simp;omega
   obtain⟨b,off,rfl,c0,c1,c2,c3⟩:=(Hx.o.ext (Q.o.trans D)).at E;have hL:M.drop k=M.getD k md0::M.drop (k+1):=by
    rw[List.drop_eq_getElem_cons (by rw[u.o];exact E)];simp[List.getD,γ (show k<M.length by rw[u.o];exact E)]
   have a0:(M.getD k md0).2<m:=HM.o _ (by rw[List.getD,γ (show k<M.length by rw[u.o];exact E)];simp);rw[hL] at G;generalize M.getD k md0=z at*;obtain⟨z,a⟩:=z;obtain⟨d0,d1,d2⟩:=HF.o _ D;obtain⟨R,hR⟩: ∃R,q0w m (d,j,s) 0 M=R:=⟨_,rfl⟩
   rw[hR] at G;unfold q0w at G;have I:=η (fun W=>z1F z (d,j,s) W);obtain⟨q,hq⟩: ∃q,q0n z (d,j,s)=q:=⟨_,rfl⟩
   rw[hq] at G I;obtain⟨z1,z2,z3⟩:=z;unfold enV ec at I;simp only at c0 c1 c2 c3;have u0:=q0D c0;have u1:=q0D c1;have u2:=q0D c2;have u3:=q0D c3;have F:=q0B wr (.cells #[.int .u64 z1,.int .i64 z2,.int .i64 z3,.int .i64 (a:Int)] 390);have v0:=q0A F d0;have v1:=q0A F d1;have v2:=q0A F d2;have U:=η F;clear F;simp only at a0;have h0:¬((a:Int)<0):=by omega
   have i0:¬((m:Int)<(a:Int)):=by omega
   have j0:¬((m:Int)-1<(a:Int)):=by omega
   have k0:IntKind.i64.wrap ((a:Int)+1)=(a:Int)+1:=by rw[ν];omega
   have b0:min a (m-1)+1=a+1:=by omega
   have f0:min a m=a:=by omega
   rw[b0,f0,<-hR] at G;clear hR;have g0:IntKind.i64.wrap ((m:Int)-1)=(m:Int)-1:=by rw[ν];omega
   have S:=η G;clear G hL D hq
   cases q with
   | true=>
    rw[ξ rfl] at S;go_wp2_with fail;refine(I.o _).mono ?_;rintro e w5 ⟨rfl,D⟩;have N:=η (O.o.trans (U.o.trans D));clear D;go_wp2_with fail
    go_roundw
    case rel=>exact⟨k+1,a+1,E,by go_num,by go_num,rfl,by omega,S.o,N.o⟩
    case measure=>simp[intOf];omega
   | false=>
    have Z:Hd (q0w m (d,j,s) 0 M=(C,max C a)):=η (by rw[<-S.o,κ (by decide)]);go_wp2_with fail;refine(I.o _).mono ?_;rintro e w5 ⟨rfl,D⟩;have N:=η (Q.o.trans (O.o.trans (U.o.trans D)));clear D;go_wp2_with fail
    all_goals
     go_ret2;refine⟨?_,N.o⟩;rw[Z.o];show _=Ending.returned (.tuple #[.int .i64 (C:Int),.int .i64 ((max C a:Nat):Int)])
     first
      |(rw[Nat.max_eq_right (by omega)];rfl)
      |(rw[Nat.max_eq_left (by omega)];rfl)
  ·have hd:decide ((k:Int)<(n:Int))=false:=by simp;omega
   have V:q0w m (d,j,s) 0 M=(C,max C m):=by
    rw[List.drop_of_length_le (by rw[u.o];omega)] at G;rw[<-G];rfl
   have S:=η V;clear G V D;go_wp2_with fail
   all_goals
    go_ret2;refine⟨?_,Q.o.trans O.o⟩;rw[S.o];show _=Ending.returned (.tuple #[.int .i64 (C:Int),.int .i64 ((max C m:Nat):Int)])
    first
     |(rw[Nat.max_eq_right (by omega)];rfl)
     |(rw[Nat.max_eq_left (by omega)];rfl)
end
end Go.Proofs.YtfiibpgoplcgkaaGreatDoor
