/- Walks. -/
import Derived.Test.YtjjfiejoeelndaaGreatDoorG11Bp
import Derived.Test.YtjjfiejoeelndaaGreatDoorG4Bp
import Derived.Test.YtjjfiejoeelndaaGreatDoorG12Bp
set_option linter.unusedVariables false
set_option linter.unusedSimpArgs false
set_option maxRecDepth 100000
set_option maxHeartbeats 1600000
namespace Go.Proofs.YtjjfiejoeelndaaGreatDoor
section
open Go.RowKit Go.Shelf
attribute [local go_sem] Oper.semAt_some
theorem y1L (n:Nat) (s:List UInt8) (a:Nat) (w:World):
  CallsIn Fence.wide n Tryz.prog 197 #[.string ⟨s.toArray⟩,.int .i64 (a:Int)] w fun e w'=>e= .returned (.func (.func 230) #[] #[.pointer (some ⟨w.heap.size+1,0,none⟩),.pointer (some ⟨w.heap.size,0,none⟩)])∧
   w'=(w.alloc (.cells #[.string ⟨s.toArray⟩] 9)).alloc (.cells #[.int .i64 (a:Int)] 3):=by
 refine callsIn_of_wp Tryz.func197 rfl trivial ?_ rfl;simp only[Tryz.ntmps197,List.size_toArray,List.length_cons,List.length_nil,Nat.reduceAdd,Nat.reduceSub,Array.replicate_succ,Array.replicate_zero,List.push_toArray,List.append_toArray,List.nil_append,List.cons_append]
 gi_wp2
 go_ret;exact ⟨rfl,rfl⟩
theorem z5d (n:Nat) (hn:1≤n) (bf bs:Nat) (s:List UInt8) (a0:Nat) (hl:s.length≤4611686018427387903) (ha0:a0≤s.length) (w:World) (hf:Boxed w bf 3 (.int .i64 (a0:Int))) (hs:Boxed w bs 9 (.string ⟨s.toArray⟩)):
  SeqStopsK Fence.wide n Tryz.prog 230 #[.pointer (some ⟨bf,0,none⟩),.pointer (some ⟨bs,0,none⟩)] y4N (KpB bs) (fun ys=>ys=q0r s a0) (fun pre=>pre<+:q0r s a0) (q0r s a0).length w:=fun l J Jx W hW hJ _ hY h0=>
 z9l n hn l bf bs s a0 hl ha0 J Jx (fun pre A B h k=>hJ pre A B none h (z7k k) (fun r e=>by cases e)) hY W ((hW.cell (p:=⟨bf,0,none⟩) hf.lt).trans hf.cell) ((hW.block bs hs.lt).trans hs) h0
theorem y0A {b:Nat} {A B C:World} (h:KpB b A B) (k:KpB b B C):KpB b A C:=Eq.trans k h
theorem y0S {b B:Nat} (hb:b<B) (W:World) (l:Nat) (o o':Obj) (h:B≤l) (_:W.heap[l]? =some o) (_:o.isCells=false) (_:o.isWalk=false):KpB b W (W.putObj l o'):=
 World.putObj_heap_other (fun e=>by omega)
theorem z1Y (s:List UInt8): ∀(f a:Nat),(q6J f s a).length≤f
 |0,_=>Nat.le_refl _
 | f+1,a=>by
  unfold q6J
  cases q5z s a with
  |none=>simp
  |some r=>have:=z1Y s f r.2;simp;omega
theorem z7n (a:Nat) (l:List (Nat×Nat)) (x:Nat×Nat):z0a a (l++[x])=x.2:=by unfold z0a;simp
theorem z0j {fn:Func} {p q:Tmp} {tp tq:TypeId} (h:fn.results=#[.cell p tp,.cell q tq]) (tmps:Array Value) (P:Program) (w:World):
  (results fn tmps).run P w=
   ((asAddr (tmps.getD p undef)).run P w).andThen fun a w₁=>((loadVar tp a).run P w₁).andThen fun v w₂=>((asAddr (tmps.getD q undef)).run P w₂).andThen fun b w₃=>((loadVar tq b).run P w₃).andThen fun u w₄=> .ok (.tuple #[v,u]) w₄:=by
 simp only[results,h];simp[Sem.run_bind,Result.andThen]
theorem y4f {W w1:World} {n₀ n₁ B E b:Nat} {t te e:TypeId} {v v' ve ve':Value} {k m:Nat} {xs ys:List Value} {tmp:Obj}
  (hv:Boxed W B t v) (hte:t≠e) (hE:Boxed W E te ve) (hBE:E≠B) (hb:b<W.heap.size) (hbB:b≠B) (hbE:b≠E) (hrow:W.ownsRow n₁ e 1 v k xs) (hn₁:n₁≤W.heap.size) (hEn:E<n₁) (hbn:b<n₁)
  (h01:n₀≤n₁) (h0B:n₀≤B) (h0E:n₀≤E) (hown':w1.ownsRow n₁ e 1 v' m ys) (hgrow:(W.alloc tmp).grownBy w1 v.ownBlock):
  Boxed w1 B t v∧Boxed (w1.setCell ⟨B,0,none⟩ v') E te ve∧Boxed ((w1.setCell ⟨B,0,none⟩ v').setCell ⟨E,0,none⟩ ve') B t v'∧Boxed ((w1.setCell ⟨B,0,none⟩ v').setCell ⟨E,0,none⟩ ve') E te ve'∧
  ((w1.setCell ⟨B,0,none⟩ v').setCell ⟨E,0,none⟩ ve').ownsRow n₁ e 1 v' m ys∧KeepsOthers W ((w1.setCell ⟨B,0,none⟩ v').setCell ⟨E,0,none⟩ ve')∧Below n₀ W ((w1.setCell ⟨B,0,none⟩ v').setCell ⟨E,0,none⟩ ve')∧
  KpB b W ((w1.setCell ⟨B,0,none⟩ v').setCell ⟨E,0,none⟩ ve'):=by
 have hne: ∀j,v.ownBlock=some j→n₁≤j:=fun j hj=>(q0e hrow j hj).1
 have hne': ∀j,v'.ownBlock=some j→n₁≤j:=fun j hj=>(q0e hown' j hj).1
 have hv1:Boxed w1 B t v:=(hv.alloc tmp).kept hgrow (hv.not_row hte hrow);have hE1:Boxed w1 E te ve:=(hE.alloc tmp).kept hgrow fun e=>by have:=hne E e.symm;omega
 have hsz:W.heap.size+1≤w1.heap.size:=by have:=hgrow.size;rw[World.size_alloc] at this;exact this
 refine ⟨hv1,hE1.other hBE v',(hv1.set v').other (Ne.symm hBE) ve',(hE1.other hBE v').set ve',?_,?_,?_,?_⟩
 ·exact q1D (q1D hown' _ (hv1.not_row hte hown').symm) _ fun e=>by have:=hne' _ e;simp at this;omega
 ·refine (((KeepsOthers.alloc W tmp).trans (KeepsOthers.of_grownBy hgrow fun j o ej hj=>?_)).trans (KeepsOthers.setCell _ _ _)).trans (KeepsOthers.setCell _ _ _)
  rcases (hrow.alloc tmp).2 with ⟨rfl,_⟩|⟨g,cap,cur,rfl,_,hgb,_⟩
  ·simp[Value.ownBlock] at ej
  ·obtain rfl:g=j:=by simpa [Value.ownBlock] using ej
   rw[hgb] at hj;cases hj;rfl
 ·exact ((((Below.refl n₀ W).alloc (Nat.le_trans h01 hn₁) tmp).grown hgrow (by simp;omega) fun j ej=>Nat.le_trans h01 (hne j ej)).setCell (p:=⟨B,0,none⟩) h0B v').setCell (p:=⟨E,0,none⟩) h0E ve'
 ·have e1:w1.heap[b]? =W.heap[b]? :=(hgrow.block b (by rw[World.size_alloc];omega) fun e=>by have:=hne b e.symm;omega).trans ((q0D W tmp).block b hb)
  have e2:(w1.setCell ⟨B,0,none⟩ v').heap[b]? =w1.heap[b]? :=(grownBy_setCell' w1 B v').block b (by omega) fun e=>hbB (by cases e;rfl)
  have e3:((w1.setCell ⟨B,0,none⟩ v').setCell ⟨E,0,none⟩ ve').heap[b]? =(w1.setCell ⟨B,0,none⟩ v').heap[b]? :=(grownBy_setCell' _ E ve').block b (by rw[World.size_setCell];omega) fun e=>hbE (by cases e;rfl)
  exact e3.trans (e2.trans e1)
theorem Tryz.infoI :(Tryz.prog.info? 3).map (fun i=>(i.zero,i.size,i.bytes))=some (some (.int .i64 0),1,8):=by kernel_rfl
theorem y1k (s :List UInt8) (a:Nat) (w:World) (hl:s.length≤1048576) (ha:a≤s.length):
  Calls Tryz.prog 153 #[.string ⟨s.toArray⟩,.int .i64 (a:Int)] w fun e w'=> ∃v,e= .returned (.tuple #[v,.int .i64 (z0a a (q0r s a):Int)])∧
   w'.ownsRow w.heap.size 3 1 v (q0r s a).length ((q0r s a).map fun x=>Value.int .i64 (x.1:Int))∧Ext w w':=by
 have hd1:decide ((s.length:Int)<(a:Int))=false:=by simp;omega
 refine (callsIn_wide (n:=3)).1 ?_;refine callsIn_of_wp_marks Tryz.func153 rfl trivial ?_ rfl;simp only[Tryz.ntmps153,List.size_toArray,List.length_cons,List.length_nil,Nat.reduceAdd,Nat.reduceSub,Array.replicate_succ,Array.replicate_zero,List.push_toArray,List.append_toArray,List.nil_append,List.cons_append]
 gi_wp2
 refine ⟨trivial,(y1L _ s a _).mono ?_⟩;rintro e w' ⟨rfl,rfl⟩
 gi_wp2
 obtain ⟨W1,hW1⟩: ∃W1,((((w.alloc (Obj.cells #[Value.slice none 0 0] 55)).alloc (Obj.cells #[Value.int IntKind.i64 (a:Int)] 3)).alloc (Obj.cells #[Value.string {data:=s.toArray}] 9)).alloc (Obj.cells #[Value.int IntKind.i64 (a:Int)] 3))=W1:=⟨_,rfl⟩
 have hsz:W1.heap.size=w.heap.size+4:=by rw[←hW1];simp
 have b0:Boxed W1 w.heap.size 55 (.slice none 0 0):=by rw[←hW1];exact (((Boxed.new w _ _).alloc _).alloc _).alloc _
 have b1:Boxed W1 (w.heap.size+1) 3 (.int .i64 (a:Int)):=by
  rw[←hW1];have:=Boxed.new (w.alloc (Obj.cells #[Value.slice none 0 0] 55)) 3 (.int .i64 (a:Int));rw[World.size_alloc] at this;exact (this.alloc _).alloc _
 have b2:Boxed W1 (w.heap.size+1+1) 9 (.string ⟨s.toArray⟩):=by
  rw[←hW1];have:=Boxed.new ((w.alloc (Obj.cells #[Value.slice none 0 0] 55)).alloc (Obj.cells #[Value.int IntKind.i64 (a:Int)] 3)) 9 (.string ⟨s.toArray⟩);rw[World.size_alloc,World.size_alloc] at this;exact this.alloc _
 have b3:Boxed W1 (w.heap.size+1+1+1) 3 (.int .i64 (a:Int)):=by
  rw[←hW1];have:=Boxed.new (((w.alloc (Obj.cells #[Value.slice none 0 0] 55)).alloc (Obj.cells #[Value.int IntKind.i64 (a:Int)] 3)).alloc (Obj.cells #[Value.string {data:=s.toArray}] 9)) 3 (.int .i64 (a:Int));rw[World.size_alloc,World.size_alloc,World.size_alloc] at this;exact this
 have hx1:Ext w W1:=by rw[←hW1];exact (z0C w _ _ _).alloc _
 rw[hW1];clear hW1;have hNl:(q0r s a).length≤s.length+1:=z1Y s _ _;have HNl:Hid ((q0r s a).length≤1048577):=Lib.hid (by omega);clear hNl;obtain ⟨i0,hi,hz0,hz1,hz2⟩:=info_parts Tryz.infoI;refine wpIn_rangeFunc_ownG (F:=Fence.wide) rfl (by omega) (gf:=230) (lb:=#[.pointer (some ⟨w.heap.size+1+1+1,0,none⟩),.pointer (some ⟨w.heap.size+1+1,0,none⟩)]) rfl trivial (enters_of Tryz.func230 (by kernel_rfl) rfl)
  (z5d (3-1) (by omega) (w.heap.size+1+1+1) (w.heap.size+1+1) s a (by omega) ha W1 b3 b2) y0A (fun W l o o' h=>y0S (by omega) W l o o' h) (Below.refl _ _) (fun _=>rfl)
  (fun pre W=>(∃v,Boxed W w.heap.size 55 v∧W.ownsRow W1.heap.size 3 1 v pre.length (pre.map fun x=>Value.int .i64 (x.1:Int))∧True)∧Boxed W (w.heap.size+1) 3 (.int .i64 (z0a a pre:Int))∧W1.heap.size≤W.heap.size∧Below w.heap.size w W)
  (fun _ _ _=>False)
  (OwnFrom.and (Own.from (holdsRow_own W1.heap.size w.heap.size 55 3 1 (fun pre:List (Nat×Nat)=>pre.length) (fun pre=>pre.map fun x=>Value.int .i64 (x.1:Int)) (fun _ _=>True)) _) (OwnFrom.and (Own.from (boxed_own (w.heap.size+1) 3 fun pre:List (Nat×Nat)=> .int .i64 (z0a a pre:Int)) _) (OwnFrom.and (fun _ _ _ _ hs hg _=>Nat.le_trans hs hg.size) (ownFrom_below (Nat.le_refl _) (by omega)))))
  (fun _ _ _ _ _ hs _ _=>hs)
  ⟨⟨_,b0,World.ownsRow_nil _ _ _ _,trivial⟩,b1,Nat.le_refl _,hx1⟩
  (fun x => {tmps:=#[.string ⟨s.toArray⟩,.int .i64 (a:Int),undef,undef,.pointer (some ⟨w.heap.size,0,none⟩),.pointer (some ⟨w.heap.size+1,0,none⟩),.int .i64 (x.1:Int),.int .i64 (x.2:Int),.int .i64 (a:Int),
       .bool (decide ((a:Int)<0)),.bool (decide ((a:Int)<0)),.int .i64 (a:Int),.string ⟨s.toArray⟩,.int .i64 (s.length:Int),.bool false,.bool (decide ((a:Int)<0)),.int .i64 (a:Int),.string ⟨s.toArray⟩,.int .i64 (a:Int),
       .func (.func 230) #[] #[.pointer (some ⟨w.heap.size+1+1+1,0,none⟩),.pointer (some ⟨w.heap.size+1+1,0,none⟩)],.int .i64 (x.1:Int),.int .i64 (x.2:Int),undef,undef,undef,undef,undef,undef,undef],defers:=[]}) ?assign ?body ?done ?stop
 case assign=>
  intro l x W K hK
  gi_wp2
  exact hK
 case body=>
  rintro l pre x W ⟨⟨v,hv,hrow,_⟩,hE,hBs,hB⟩ hlt;have hc:=hv.cell;have hpl:pre.length≤1048577:=by have:=HNl.out;omega
  have hbs2:w.heap.size+1+1<W.heap.size:=by omega
  clear hlt
  gi_wp2_with (gi_at_builtin;refine wpListIn_append_own _ rfl _ _ 55 rfl W1.heap.size 3 i0 (.int .i64 0) 1 8 Tryz.underlying55 hi hz0 hz1 hz2 rfl (by decide) _ _ _ rfl (hrow.alloc _) ⟨W.heap.size,0,none⟩ 1 1 [.int .i64 (x.1:Int)] rfl rfl (cell_one_new _ _ _) (by simp[Value.oneCell']) (by unfold maxLen;omega) (by omega) (by simp;omega) ?_;intro v' w1 hown' hgrow _;obtain ⟨g',cap',rfl⟩:=ownsRow_succ hown';obtain ⟨hv1,hE2,hv3,hE3,hr3,hk3,hb3,hp3⟩:=y4f (n₀:=w.heap.size) (ve':= .int .i64 (x.2:Int)) (b:=w.heap.size+1+1) hv (by decide) hE (by omega) hbs2 (by omega) (by omega) hrow hBs (by omega) (by omega) (by omega) (Nat.le_refl _) (by omega) hown' hgrow;have hc1:=hv1.cell;have hf1:=hv1.frozen;have hc2:=hE2.cell;have hf2:=hE2.frozen)
  exact ⟨hk3.from _,hp3,⟨⟨_,hv3,by simpa using hr3,trivial⟩,by rw[z7n];exact hE3,Nat.le_trans hBs hk3.size,hB.trans hb3⟩⟩
 case done=>
  rintro D ys W hD rfl ⟨⟨v,hv,hrow,_⟩,hE,hBs,hB⟩ hK;have hc:=hv.cell;have hc2:=hE.cell;have hf:=hv.frozen;have hf2:=hE.frozen;obtain ⟨ao,cap,rfl⟩:=q0G hrow
  gi_wp2
  gi_region
  have e1:=hv.set (.slice ao (q0r s a).length cap);have e2:=(hE.other (B':=w.heap.size) (by omega) (.slice ao (q0r s a).length cap)).set (.int .i64 (z0a a (q0r s a):Int));have e3:=e1.other (B':=w.heap.size+1) (by omega) (.int .i64 (z0a a (q0r s a):Int));have e4:=q1D (q1D hrow (a:=⟨w.heap.size,0,none⟩) (.slice ao (q0r s a).length cap) (hv.not_row (by decide) hrow).symm) (a:=⟨w.heap.size+1,0,none⟩) (.int .i64 (z0a a (q0r s a):Int)) (fun e=>by have:=(q0e hrow _ e).1;simp at this;omega);have e5:=((KeepsOthers.setCell W ⟨w.heap.size,0,none⟩ (.slice ao (q0r s a).length cap)).trans (KeepsOthers.setCell _ ⟨w.heap.size+1,0,none⟩ (.int .i64 (z0a a (q0r s a):Int)))).same D _ hK rfl;have e6:=(hB.setCell (p:=⟨w.heap.size,0,none⟩) (Nat.le_refl _) (.slice ao (q0r s a).length cap)).setCell (p:=⟨w.heap.size+1,0,none⟩) (by simp) (.int .i64 (z0a a (q0r s a):Int));generalize (W.setCell {block:=w.heap.size,off:=0} (.slice ao (q0r s a).length cap)).setCell {block:=w.heap.size+1,off:=0} (.int .i64 (z0a a (q0r s a):Int))=W2 at*
  have d2:Boxed W2.drew (w.heap.size+1) 3 (.int .i64 (z0a a (q0r s a):Int)):=e2;have d3:Boxed W2.drew w.heap.size 55 (.slice ao (q0r s a).length cap):=e3;have d4:W2.drew.ownsRow W1.heap.size 3 1 (.slice ao (q0r s a).length cap) (q0r s a).length ((q0r s a).map fun x=>Value.int .i64 (x.1:Int)):=z9M e4;have d5:W2.drew.heap[D]? =some (Obj.deferred (some [])):=e5;have d6:Below w.heap.size w W2.drew:=e6.drew;clear e1 e2 e3 e4 e5 e6;generalize W2.drew=W3 at*
  gi_wp2
  have e7:(W3.putObj D (.deferred none)).cell? ⟨w.heap.size,0,none⟩=some (.slice ao (q0r s a).length cap):=cell_kept d3.cell (grownBy_putObj' _ D (.deferred none)) (fun r e=>by cases e;exact ⟨_,d5,rfl⟩);have e8:(W3.putObj D (.deferred none)).cell? ⟨w.heap.size+1,0,none⟩=some (.int .i64 (z0a a (q0r s a):Int)):=cell_kept d2.cell (grownBy_putObj' _ D (.deferred none)) (fun r e=>by cases e;exact ⟨_,d5,rfl⟩);refine ⟨by simp,.inl ⟨_,_,rfl,run_takeDeferred d5,?_⟩⟩;refine ⟨.tuple #[.slice ao (q0r s a).length cap,.int .i64 (z0a a (q0r s a):Int)],?_,_,rfl,q0z (ownsRow_putObj d4 _ d5 rfl) (by omega),d6.trans (belowK_b (w:=w) (Nat.le_refl _) W3 D _ _ (by omega) d5 rfl rfl)⟩;rw[z0j rfl]
  go_simp
 case stop=>
  rintro D c pre W _ _ h _;exact h.elim
end
section
open Go.RowKit Go.Shelf
attribute [local go_sem] Oper.semAt_some
abbrev Bit (b:Nat):={x:Int//0≤x∧x<(b:Int)}
abbrev y3z {b:Nat} (x:Bit b):Array Value:=#[.int .i64 x.1]
def y2b (b1 b2 b3:Nat) (W W':World):Prop:=KpB b1 W W'∧KpB b2 W W'∧KpB b3 W W'
theorem z8T (n:Nat) (hn:1≤n) (l bp bh bb:Nat) (h:Int) (p b:Nat) (hp:p≤16) (hb:1≤b) (hb9:b≤1000000) (J Jx:List (Bit b)→World→Prop)
  (hY: ∀pre x W,J pre W→pre.length<p→YieldAt Fence.wide (n-1) Tryz.prog l (y3z x) W fun e W'=>
   (e= .returned (.bool true)∧J (pre++[x]) W'∧y2b bp bh bb W W')∨(e= .returned (.bool false)∧Jx (pre++[x]) W'))
  (W:World) (hbp:Boxed W bp 3 (.int .i64 (p:Int))) (hbh:Boxed W bh 23 (.int .u64 h)) (hbb:Boxed W bb 3 (.int .i64 (b:Int))) (h0:J [] W):
  CallsIn Fence.wide n Tryz.prog 271 #[.func (.yield l) #[] #[],.pointer (some ⟨bp,0,none⟩),.pointer (some ⟨bh,0,none⟩),.pointer (some ⟨bb,0,none⟩)] W fun e W'=>(∃v,e= .returned v)∧
   ((∃ys,True∧J ys W')∨(∃pre,True∧Jx pre W')):=by
 have hG:=fun W (i:Nat) (hi:i≤1000000)=>callsIn_wide (n:=n-1).2 (z7Y W h i b hi hb hb9)
 have hp1:¬((64:Int)<(p:Int)):=by omega
 refine callsIn_of_wp Tryz.func271 rfl trivial ?_ rfl;simp only[Tryz.ntmps271,List.size_toArray,List.length_cons,List.length_nil,Nat.reduceAdd,Nat.reduceSub,Array.replicate_succ,Array.replicate_zero,List.push_toArray,List.append_toArray,List.nil_append,List.cons_append]
 gi_wp2
 gi_loopw [5] (fun i wr=> ∃(pre:List (Bit b)),i= .int .i64 (pre.length:Int)∧pre.length≤p∧J pre wr∧Boxed wr bp 3 (.int .i64 (p:Int))∧Boxed wr bh 23 (.int .u64 h)∧Boxed wr bb 3 (.int .i64 (b:Int)))
  (fun i _=>p-(intOf i).toNat)
 case atStart=>exact ⟨[],rfl,Nat.zero_le _,h0,hbp,hbh,hbb⟩
 case round=>
  obtain ⟨pre,rfl,hpl,hJs,hB1,hB2,hB3⟩:=hrel;have hc1:=hB1.cell;have hc2:=hB2.cell;have hc3:=hB3.cell;by_cases hlt:pre.length<p
  ·have hd:decide ((pre.length:Int)<(p:Int))=true:=by simp;omega
   have HG:=hG wr pre.length (by omega);have hpr:=q9Q h pre.length b (by omega);obtain ⟨x,hx⟩: ∃x:Bit b,x.1=q6I h pre.length b:=⟨⟨_,hpr⟩,rfl⟩
   rw[←hx] at HG;have hYW:=Lib.hid (hY pre x wr hJs hlt);have HJs:=Lib.hid hJs;have HB:=Lib.hid (And.intro hB1 (And.intro hB2 hB3));clear hx hJs hG hY hbp hbh hbb h0 hpr hB1 hB2 hB3
   gi_wp2
   refine ⟨trivial,HG.mono ?_⟩;rintro e w1 ⟨rfl,rfl⟩;clear HG;obtain ⟨fn,tmps,assign,body,hy,hR⟩:=hYW.out
   dsimp only[y3z] at hy
   have HR:=Lib.hid hR;clear hR
   gi_wp2
   refine HR.out.mono ?_;rintro e W3 (⟨rfl,hJ3,hk1,hk2,hk3⟩|⟨rfl,hJx3⟩)
   ·have hB1:Boxed W3 bp 3 (.int .i64 (p:Int)):=Eq.trans hk1 HB.out.1
    have hB2:Boxed W3 bh 23 (.int .u64 h):=Eq.trans hk2 HB.out.2.1;have hB3:Boxed W3 bb 3 (.int .i64 (b:Int)):=Eq.trans hk3 HB.out.2.2
    gi_wp2
    go_roundw
    case rel=>exact ⟨pre++[x],by rw[List.length_append];go_num,by rw[List.length_append];exact hlt,hJ3,hB1,hB2,hB3⟩
    case measure=>simp[intOf];omega
   ·gi_wp2
    refine bodyPost_ret (results_none rfl _ _ _) rfl ?_;exact ⟨⟨_,rfl⟩,.inr ⟨pre++[x],trivial,hJx3⟩⟩
  ·have hd:decide ((pre.length:Int)<(p:Int))=false:=by simp;omega
   have HJs:=Lib.hid hJs;clear hG hY hbp hbh hbb h0 hB1 hB2 hB3 hJs
   gi_wp2
   (try simp only[Exit.inBlock,Exit.then])
   exact bodyPost_end (v:= .tuple #[]) (results_none rfl _ _ _) rfl ⟨⟨_,rfl⟩,.inl ⟨pre,trivial,HJs.out⟩⟩
theorem z9K (n:Nat) (h:Int) (p b:Nat) (w:World):
  CallsIn Fence.wide n Tryz.prog 262 #[.int .u64 h,.int .i64 (p:Int),.int .i64 (b:Int)] w fun e w'=>e= .returned (.func (.func 271) #[] #[.pointer (some ⟨w.heap.size+1,0,none⟩),.pointer (some ⟨w.heap.size,0,none⟩),.pointer (some ⟨w.heap.size+2,0,none⟩)])∧
   w'=((w.alloc (.cells #[.int .u64 h] 23)).alloc (.cells #[.int .i64 (p:Int)] 3)).alloc (.cells #[.int .i64 (b:Int)] 3):=by
 refine callsIn_of_wp Tryz.func262 rfl trivial ?_ rfl;simp only[Tryz.ntmps262,List.size_toArray,List.length_cons,List.length_nil,Nat.reduceAdd,Nat.reduceSub,Array.replicate_succ,Array.replicate_zero,List.push_toArray,List.append_toArray,List.nil_append,List.cons_append]
 gi_wp2
 go_ret;exact ⟨rfl,rfl⟩
theorem z3E (n:Nat) (hn:1≤n) (bp bh bb:Nat) (h:Int) (p b:Nat) (hp:p≤16) (hb:1≤b) (hb9:b≤1000000) (w:World) (h1:Boxed w bp 3 (.int .i64 (p:Int))) (h2:Boxed w bh 23 (.int .u64 h)) (h3:Boxed w bb 3 (.int .i64 (b:Int))):
  SeqStopsK Fence.wide n Tryz.prog 271 #[.pointer (some ⟨bp,0,none⟩),.pointer (some ⟨bh,0,none⟩),.pointer (some ⟨bb,0,none⟩)] (y3z (b:=b)) (y2b bp bh bb) (fun _=>True) (fun _=>True) p w:=fun l J Jx W hW hJ _ hY h0=>
 z8T n hn l bp bh bb h p b hp hb hb9 J Jx hY W ((hW.block bp h1.lt).trans h1) ((hW.block bh h2.lt).trans h2) ((hW.block bb h3.lt).trans h3) h0
theorem y3G {b1 b2 b3:Nat} {A B C:World} (h:y2b b1 b2 b3 A B) (k:y2b b1 b2 b3 B C):y2b b1 b2 b3 A C:=⟨y0A h.1 k.1,y0A h.2.1 k.2.1,y0A h.2.2 k.2.2⟩
theorem y3i {b1 b2 b3 B:Nat} (h1:b1<B) (h2:b2<B) (h3:b3<B) (W:World) (l:Nat) (o o':Obj) (h:B≤l) (k1:W.heap[l]? =some o) (k2:o.isCells=false) (k3:o.isWalk=false):y2b b1 b2 b3 W (W.putObj l o'):=
 ⟨y0S h1 W l o o' h k1 k2 k3,y0S h2 W l o o' h k1 k2 k3,y0S h3 W l o o' h k1 k2 k3⟩
end
section
open Go.RowKit
theorem y0w (s:List UInt8) (n:Nat) (w:World) (hn:n<200) (hl:s.length≤1048576) (hp:z8v s (q2x n)=true):
  Calls Tryz.prog 98 #[.string ⟨s.toArray⟩,.int .i64 (n:Int)] w fun e w'=> ∃v,e= .returned (.tuple #[v,.int .i64 (z0a 12 (q0r s 12):Int),.bool true])∧
   w'.ownsRow w.heap.size 3 1 v (q0r s 12).length ((q0r s 12).map fun x=>Value.int .i64 (x.1:Int))∧Ext w w':=by
 have hHl:=q3Q n;have HC:=Lib.hid (fun W=>z4l n W hn);have hs12:12≤s.length:=by
  unfold z8v at hp;simp only[Bool.and_eq_true,decide_eq_true_eq] at hp;omega
 generalize q2x n=H at*;have HP:=Lib.hid (fun W=>z3Q s H W (by omega) (by omega));rw[hp] at HP;have HW:=Lib.hid (fun W=>y1k s 12 W hl hs12);clear hp;have hne:(H==[])=false:=by cases H with|nil=>cases hHl|cons=>rfl
 have hnz:¬H=[]:=by simpa using hne
 go_enter Tryz.func98,Tryz.ntmps98;go_wp2_with fail;refine (HC.out _).mono ?_;rintro e w1 ⟨rfl,hb⟩;have HB:=Lib.hid hb;clear hb;go_wp2_with fail;refine (HP.out _).mono ?_;rintro e w2 ⟨rfl,rfl⟩;go_wp2_with fail;refine (HW.out _).mono ?_;rintro e w3 ⟨v,rfl,hr,hb⟩;have HR:=Lib.hid (q0z hr HB.out.size);have HB3:=Lib.hid (HB.out.trans hb);obtain ⟨ao,cap,rfl⟩:=q0G hr;clear hr hb;go_wp2_with fail;go_ret3;exact ⟨_,rfl,HR.out,HB3.out⟩
end
end Go.Proofs.YtjjfiejoeelndaaGreatDoor
