/- Walks. -/
import Derived.Test.YthdekbmdkpcooaaGreatDoorG11CT
import Derived.Test.YthdekbmdkpcooaaGreatDoorG10CT
import Derived.Test.YthdekbmdkpcooaaGreatDoorG12CT
set_option linter.unusedVariables false
set_option linter.unusedSimpArgs false
set_option maxRecDepth 100000
set_option maxHeartbeats 6400000
namespace Go.Proofs.YthdekbmdkpcooaaGreatDoor
theorem η13 {p:Prop} (h:p):Go.RowKit.Hid p:=Lib.hid h
section
open Go.RowKit Go.Shelf
attribute [local go_sem] Oper.semAt_some
theorem z9r (n:Nat) (s:List UInt8) (a:Nat) (w:World):
  CallsIn Fence.wide n Tryz.prog 191 #[.string ⟨s.toArray⟩,.int .i64 (a:Int)] w fun e w'=>e= .returned (.func (.func 229) #[] #[.pointer (some ⟨w.heap.size+1,0,none⟩),.pointer (some ⟨w.heap.size,0,none⟩)])∧
   w'=(w.alloc (.cells #[.string ⟨s.toArray⟩] 9)).alloc (.cells #[.int .i64 (a:Int)] 3):=by
 refine callsIn_of_wp Tryz.func191 rfl trivial ?_ rfl;simp only[Tryz.ntmps191,List.size_toArray,List.length_cons,List.length_nil,Nat.reduceAdd,Nat.reduceSub,Array.replicate_succ,Array.replicate_zero,List.push_toArray,List.append_toArray,List.nil_append,List.cons_append]
 gi_wp2
 go_ret;exact ⟨rfl,rfl⟩
theorem z3x (n:Nat) (hn:1≤n) (bf bs:Nat) (s:List UInt8) (a0:Nat) (hl:s.length≤4611686018427387903) (ha0:a0≤s.length) (w:World) (hf:Boxed w bf 3 (.int .i64 (a0:Int))) (hs:Boxed w bs 9 (.string ⟨s.toArray⟩)):
  SeqStopsK Fence.wide n Tryz.prog 229 #[.pointer (some ⟨bf,0,none⟩),.pointer (some ⟨bs,0,none⟩)] y1n (KpB bs) (fun ys=>ys=q0k s a0) (fun pre=>pre<+:q0k s a0) (q0k s a0).length w:=fun l J Jx W hW hJ _ hY h0=>
 z7P n hn l bf bs s a0 hl ha0 J Jx (fun pre A B h k=>hJ pre A B none h (z6T k) (fun r e=>by cases e)) hY W ((hW.cell (p:=⟨bf,0,none⟩) hf.lt).trans hf.cell) ((hW.block bs hs.lt).trans hs) h0
theorem y1Q {b:Nat} {A B C:World} (h:KpB b A B) (k:KpB b B C):KpB b A C:=Eq.trans k h
theorem y1j {b B:Nat} (hb:b<B) (W:World) (l:Nat) (o o':Obj) (h:B≤l) (_:W.heap[l]? =some o) (_:o.isCells=false) (_:o.isWalk=false):KpB b W (W.putObj l o'):=
 World.putObj_heap_other (fun e=>by omega)
theorem z0g (s:List UInt8): ∀(f a:Nat),(q5P f s a).length≤f
 |0,_=>Nat.le_refl _
 | f+1,a=>by
  unfold q5P
  cases q4z s a with
  |none=>simp
  |some r=>have:=z0g s f r.2;simp;omega
theorem z4O (a:Nat) (l:List (Nat×Nat)) (x:Nat×Nat):q9M a (l++[x])=x.2:=by unfold q9M;simp
theorem q8l {fn:Func} {p q:Tmp} {tp tq:TypeId} (h:fn.results=#[.cell p tp,.cell q tq]) (tmps:Array Value) (P:Program) (w:World):
  (results fn tmps).run P w=
   ((asAddr (tmps.getD p undef)).run P w).andThen fun a w₁=>((loadVar tp a).run P w₁).andThen fun v w₂=>((asAddr (tmps.getD q undef)).run P w₂).andThen fun b w₃=>((loadVar tq b).run P w₃).andThen fun u w₄=> .ok (.tuple #[v,u]) w₄:=by
 simp only[results,h];simp[Sem.run_bind,Result.andThen]
theorem y2K {W w1:World} {n₀ n₁ B E b:Nat} {t te e:TypeId} {v v' ve ve':Value} {k m:Nat} {xs ys:List Value} {tmp:Obj}
  (hv:Boxed W B t v) (hte:t≠e) (hE:Boxed W E te ve) (hBE:E≠B) (hb:b<W.heap.size) (hbB:b≠B) (hbE:b≠E) (hrow:W.ownsRow n₁ e 1 v k xs) (hn₁:n₁≤W.heap.size) (hEn:E<n₁) (hbn:b<n₁)
  (h01:n₀≤n₁) (h0B:n₀≤B) (h0E:n₀≤E) (hown':w1.ownsRow n₁ e 1 v' m ys) (hgrow:(W.alloc tmp).grownBy w1 v.ownBlock):
  Boxed w1 B t v∧Boxed (w1.setCell ⟨B,0,none⟩ v') E te ve∧Boxed ((w1.setCell ⟨B,0,none⟩ v').setCell ⟨E,0,none⟩ ve') B t v'∧Boxed ((w1.setCell ⟨B,0,none⟩ v').setCell ⟨E,0,none⟩ ve') E te ve'∧
  ((w1.setCell ⟨B,0,none⟩ v').setCell ⟨E,0,none⟩ ve').ownsRow n₁ e 1 v' m ys∧KeepsOthers W ((w1.setCell ⟨B,0,none⟩ v').setCell ⟨E,0,none⟩ ve')∧Below n₀ W ((w1.setCell ⟨B,0,none⟩ v').setCell ⟨E,0,none⟩ ve')∧
  KpB b W ((w1.setCell ⟨B,0,none⟩ v').setCell ⟨E,0,none⟩ ve'):=by
 have hne: ∀j,v.ownBlock=some j→n₁≤j:=fun j hj=>(q0c hrow j hj).1
 have hne': ∀j,v'.ownBlock=some j→n₁≤j:=fun j hj=>(q0c hown' j hj).1
 have hv1:Boxed w1 B t v:=(hv.alloc tmp).kept hgrow (hv.not_row hte hrow);have hE1:Boxed w1 E te ve:=(hE.alloc tmp).kept hgrow fun e=>by have:=hne E e.symm;omega
 have hsz:W.heap.size+1≤w1.heap.size:=by have:=hgrow.size;rw[World.size_alloc] at this;exact this
 refine ⟨hv1,hE1.other hBE v',(hv1.set v').other (Ne.symm hBE) ve',(hE1.other hBE v').set ve',?_,?_,?_,?_⟩
 ·exact q0s (q0s hown' _ (hv1.not_row hte hown').symm) _ fun e=>by have:=hne' _ e;simp at this;omega
 ·refine (((KeepsOthers.alloc W tmp).trans (KeepsOthers.of_grownBy hgrow fun j o ej hj=>?_)).trans (KeepsOthers.setCell _ _ _)).trans (KeepsOthers.setCell _ _ _)
  rcases (hrow.alloc tmp).2 with ⟨rfl,_⟩|⟨g,cap,cur,rfl,_,hgb,_⟩
  ·simp[Value.ownBlock] at ej
  ·obtain rfl:g=j:=by simpa [Value.ownBlock] using ej
   rw[hgb] at hj;cases hj;rfl
 ·exact ((((Below.refl n₀ W).alloc (Nat.le_trans h01 hn₁) tmp).grown hgrow (by simp;omega) fun j ej=>Nat.le_trans h01 (hne j ej)).setCell (p:=⟨B,0,none⟩) h0B v').setCell (p:=⟨E,0,none⟩) h0E ve'
 ·have e1:w1.heap[b]? =W.heap[b]? :=(hgrow.block b (by rw[World.size_alloc];omega) fun e=>by have:=hne b e.symm;omega).trans ((q0B W tmp).block b hb)
  have e2:(w1.setCell ⟨B,0,none⟩ v').heap[b]? =w1.heap[b]? :=(grownBy_setCell' w1 B v').block b (by omega) fun e=>hbB (by cases e;rfl)
  have e3:((w1.setCell ⟨B,0,none⟩ v').setCell ⟨E,0,none⟩ ve').heap[b]? =(w1.setCell ⟨B,0,none⟩ v').heap[b]? :=(grownBy_setCell' _ E ve').block b (by rw[World.size_setCell];omega) fun e=>hbE (by cases e;rfl)
  exact e3.trans (e2.trans e1)
theorem Tryz.infoI :(Tryz.prog.info? 3).map (fun i=>(i.zero,i.size,i.bytes))=some (some (.int .i64 0),1,8):=by kernel_rfl
theorem z9V (s :List UInt8) (a:Nat) (w:World) (hl:s.length≤1048576) (ha:a≤s.length):
  Calls Tryz.prog 140 #[.string ⟨s.toArray⟩,.int .i64 (a:Int)] w fun e w'=> ∃v,e= .returned (.tuple #[v,.int .i64 (q9M a (q0k s a):Int)])∧
   w'.ownsRow w.heap.size 3 1 v (q0k s a).length ((q0k s a).map fun x=>Value.int .i64 (x.1:Int))∧Ext w w':=by
 have hd1:decide ((s.length:Int)<(a:Int))=false:=by simp;omega
 refine (callsIn_wide (n:=3)).1 ?_;refine callsIn_of_wp_marks Tryz.func140 rfl trivial ?_ rfl;simp only[Tryz.ntmps140,List.size_toArray,List.length_cons,List.length_nil,Nat.reduceAdd,Nat.reduceSub,Array.replicate_succ,Array.replicate_zero,List.push_toArray,List.append_toArray,List.nil_append,List.cons_append]
 gi_wp2
 refine ⟨trivial,(z9r _ s a _).mono ?_⟩;rintro e w' ⟨rfl,rfl⟩
 gi_wp2
 obtain ⟨W1,hW1⟩: ∃W1,((((w.alloc (Obj.cells #[Value.slice none 0 0] 36)).alloc (Obj.cells #[Value.int IntKind.i64 (a:Int)] 3)).alloc (Obj.cells #[Value.string {data:=s.toArray}] 9)).alloc (Obj.cells #[Value.int IntKind.i64 (a:Int)] 3))=W1:=⟨_,rfl⟩
 have hsz:W1.heap.size=w.heap.size+4:=by rw[←hW1];simp
 have b0:Boxed W1 w.heap.size 36 (.slice none 0 0):=by rw[←hW1];exact (((Boxed.new w _ _).alloc _).alloc _).alloc _
 have b1:Boxed W1 (w.heap.size+1) 3 (.int .i64 (a:Int)):=by
  rw[←hW1];have:=Boxed.new (w.alloc (Obj.cells #[Value.slice none 0 0] 36)) 3 (.int .i64 (a:Int));rw[World.size_alloc] at this;exact (this.alloc _).alloc _
 have b2:Boxed W1 (w.heap.size+1+1) 9 (.string ⟨s.toArray⟩):=by
  rw[←hW1];have:=Boxed.new ((w.alloc (Obj.cells #[Value.slice none 0 0] 36)).alloc (Obj.cells #[Value.int IntKind.i64 (a:Int)] 3)) 9 (.string ⟨s.toArray⟩);rw[World.size_alloc,World.size_alloc] at this;exact this.alloc _
 have b3:Boxed W1 (w.heap.size+1+1+1) 3 (.int .i64 (a:Int)):=by
  rw[←hW1];have:=Boxed.new (((w.alloc (Obj.cells #[Value.slice none 0 0] 36)).alloc (Obj.cells #[Value.int IntKind.i64 (a:Int)] 3)).alloc (Obj.cells #[Value.string {data:=s.toArray}] 9)) 3 (.int .i64 (a:Int));rw[World.size_alloc,World.size_alloc,World.size_alloc] at this;exact this
 have hx1:Ext w W1:=by rw[←hW1];exact (q9b w _ _ _).alloc _
 rw[hW1];clear hW1;have hNl:(q0k s a).length≤s.length+1:=z0g s _ _;have HNl:Hid ((q0k s a).length≤1048577):=η13 (by omega);clear hNl;obtain ⟨i0,hi,hz0,hz1,hz2⟩:=info_parts Tryz.infoI;refine wpIn_rangeFunc_ownG (F:=Fence.wide) rfl (by omega) (gf:=229) (lb:=#[.pointer (some ⟨w.heap.size+1+1+1,0,none⟩),.pointer (some ⟨w.heap.size+1+1,0,none⟩)]) rfl trivial (enters_of Tryz.func229 (by kernel_rfl) rfl)
  (z3x (3-1) (by omega) (w.heap.size+1+1+1) (w.heap.size+1+1) s a (by omega) ha W1 b3 b2) y1Q (fun W l o o' h=>y1j (by omega) W l o o' h) (Below.refl _ _) (fun _=>rfl)
  (fun pre W=>(∃v,Boxed W w.heap.size 36 v∧W.ownsRow W1.heap.size 3 1 v pre.length (pre.map fun x=>Value.int .i64 (x.1:Int))∧True)∧Boxed W (w.heap.size+1) 3 (.int .i64 (q9M a pre:Int))∧W1.heap.size≤W.heap.size∧Below w.heap.size w W)
  (fun _ _ _=>False)
  (OwnFrom.and (Own.from (holdsRow_own W1.heap.size w.heap.size 36 3 1 (fun pre:List (Nat×Nat)=>pre.length) (fun pre=>pre.map fun x=>Value.int .i64 (x.1:Int)) (fun _ _=>True)) _) (OwnFrom.and (Own.from (boxed_own (w.heap.size+1) 3 fun pre:List (Nat×Nat)=> .int .i64 (q9M a pre:Int)) _) (OwnFrom.and (fun _ _ _ _ hs hg _=>Nat.le_trans hs hg.size) (ownFrom_below (Nat.le_refl _) (by omega)))))
  (fun _ _ _ _ _ hs _ _=>hs)
  ⟨⟨_,b0,World.ownsRow_nil _ _ _ _,trivial⟩,b1,Nat.le_refl _,hx1⟩
  (fun x => {tmps:=#[.string ⟨s.toArray⟩,.int .i64 (a:Int),undef,undef,.pointer (some ⟨w.heap.size,0,none⟩),.pointer (some ⟨w.heap.size+1,0,none⟩),.int .i64 (x.1:Int),.int .i64 (x.2:Int),.int .i64 (a:Int),
       .bool (decide ((a:Int)<0)),.bool (decide ((a:Int)<0)),.int .i64 (a:Int),.string ⟨s.toArray⟩,.int .i64 (s.length:Int),.bool false,.bool (decide ((a:Int)<0)),.int .i64 (a:Int),.string ⟨s.toArray⟩,.int .i64 (a:Int),
       .func (.func 229) #[] #[.pointer (some ⟨w.heap.size+1+1+1,0,none⟩),.pointer (some ⟨w.heap.size+1+1,0,none⟩)],.int .i64 (x.1:Int),.int .i64 (x.2:Int),undef,undef,undef,undef,undef,undef,undef],defers:=[]}) ?assign ?body ?done ?stop
 case assign=>
  intro l x W K hK
  gi_wp2
  exact hK
 case body=>
  rintro l pre x W ⟨⟨v,hv,hrow,_⟩,hE,hBs,hB⟩ hlt;have hc:=hv.cell;have hpl:pre.length≤1048577:=by have:=HNl.out;omega
  have hbs2:w.heap.size+1+1<W.heap.size:=by omega
  clear hlt
  gi_wp2_with (gi_at_builtin;refine wpListIn_append_own _ rfl _ _ 36 rfl W1.heap.size 3 i0 (.int .i64 0) 1 8 Tryz.underlying36 hi hz0 hz1 hz2 rfl (by decide) _ _ _ rfl (hrow.alloc _) ⟨W.heap.size,0,none⟩ 1 1 [.int .i64 (x.1:Int)] rfl rfl (cell_one_new _ _ _) (by simp[Value.oneCell']) (by unfold maxLen;omega) (by omega) (by simp;omega) ?_;intro v' w1 hown' hgrow _;obtain ⟨g',cap',rfl⟩:=ownsRow_succ hown';obtain ⟨hv1,hE2,hv3,hE3,hr3,hk3,hb3,hp3⟩:=y2K (n₀:=w.heap.size) (ve':= .int .i64 (x.2:Int)) (b:=w.heap.size+1+1) hv (by decide) hE (by omega) hbs2 (by omega) (by omega) hrow hBs (by omega) (by omega) (by omega) (Nat.le_refl _) (by omega) hown' hgrow;have hc1:=hv1.cell;have hf1:=hv1.frozen;have hc2:=hE2.cell;have hf2:=hE2.frozen)
  exact ⟨hk3.from _,hp3,⟨⟨_,hv3,by simpa using hr3,trivial⟩,by rw[z4O];exact hE3,Nat.le_trans hBs hk3.size,hB.trans hb3⟩⟩
 case done=>
  rintro D ys W hD rfl ⟨⟨v,hv,hrow,_⟩,hE,hBs,hB⟩ hK;have hc:=hv.cell;have hc2:=hE.cell;have hf:=hv.frozen;have hf2:=hE.frozen;obtain ⟨ao,cap,rfl⟩:=q0J hrow
  gi_wp2
  gi_region
  have e1:=hv.set (.slice ao (q0k s a).length cap);have e2:=(hE.other (B':=w.heap.size) (by omega) (.slice ao (q0k s a).length cap)).set (.int .i64 (q9M a (q0k s a):Int));have e3:=e1.other (B':=w.heap.size+1) (by omega) (.int .i64 (q9M a (q0k s a):Int));have e4:=q0s (q0s hrow (a:=⟨w.heap.size,0,none⟩) (.slice ao (q0k s a).length cap) (hv.not_row (by decide) hrow).symm) (a:=⟨w.heap.size+1,0,none⟩) (.int .i64 (q9M a (q0k s a):Int)) (fun e=>by have:=(q0c hrow _ e).1;simp at this;omega);have e5:=((KeepsOthers.setCell W ⟨w.heap.size,0,none⟩ (.slice ao (q0k s a).length cap)).trans (KeepsOthers.setCell _ ⟨w.heap.size+1,0,none⟩ (.int .i64 (q9M a (q0k s a):Int)))).same D _ hK rfl;have e6:=(hB.setCell (p:=⟨w.heap.size,0,none⟩) (Nat.le_refl _) (.slice ao (q0k s a).length cap)).setCell (p:=⟨w.heap.size+1,0,none⟩) (by simp) (.int .i64 (q9M a (q0k s a):Int));generalize (W.setCell {block:=w.heap.size,off:=0} (.slice ao (q0k s a).length cap)).setCell {block:=w.heap.size+1,off:=0} (.int .i64 (q9M a (q0k s a):Int))=W2 at*
  have d2:Boxed W2.drew (w.heap.size+1) 3 (.int .i64 (q9M a (q0k s a):Int)):=e2;have d3:Boxed W2.drew w.heap.size 36 (.slice ao (q0k s a).length cap):=e3;have d4:W2.drew.ownsRow W1.heap.size 3 1 (.slice ao (q0k s a).length cap) (q0k s a).length ((q0k s a).map fun x=>Value.int .i64 (x.1:Int)):=z7a e4;have d5:W2.drew.heap[D]? =some (Obj.deferred (some [])):=e5;have d6:Below w.heap.size w W2.drew:=e6.drew;clear e1 e2 e3 e4 e5 e6;generalize W2.drew=W3 at*
  gi_wp2
  have e7:(W3.putObj D (.deferred none)).cell? ⟨w.heap.size,0,none⟩=some (.slice ao (q0k s a).length cap):=cell_kept d3.cell (grownBy_putObj' _ D (.deferred none)) (fun r e=>by cases e;exact ⟨_,d5,rfl⟩);have e8:(W3.putObj D (.deferred none)).cell? ⟨w.heap.size+1,0,none⟩=some (.int .i64 (q9M a (q0k s a):Int)):=cell_kept d2.cell (grownBy_putObj' _ D (.deferred none)) (fun r e=>by cases e;exact ⟨_,d5,rfl⟩);refine ⟨by simp,.inl ⟨_,_,rfl,run_takeDeferred d5,?_⟩⟩;refine ⟨.tuple #[.slice ao (q0k s a).length cap,.int .i64 (q9M a (q0k s a):Int)],?_,_,rfl,q0v (ownsRow_putObj d4 _ d5 rfl) (by omega),d6.trans (belowK_b (w:=w) (Nat.le_refl _) W3 D _ _ (by omega) d5 rfl rfl)⟩;rw[q8l rfl]
  go_simp
 case stop=>
  rintro D c pre W _ _ h _;exact h.elim
end
section
open Go.RowKit
def q6E (s:List UInt8):Value:=match q9Q s with
 |none=> .tuple #[enV en0,.bool false]
 |some e=> .tuple #[enV e,.bool true]
theorem q0D {fn:Func} {p u:Tmp} {ty:TypeId} (h:fn.results=#[.cell p ty,.tmp u]) (tmps:Array Value) (P:Program) (w:World):
  (results fn tmps).run P w=
   ((asAddr (tmps.getD p undef)).run P w).andThen fun a w₁=>((loadVar ty a).run P w₁).andThen fun v w₂=> .ok (.tuple #[v,tmps.getD u undef]) w₂:=by
 simp only[results,h];simp[Sem.run_bind,Result.andThen]
theorem q5m {X W':World} {cs:Array Value} {t:TypeId} (h:Ext (X.alloc (.cells cs t)) W'):Blk W' X.heap.size t cs:=(Blk.new X t cs).ext h
theorem z1S {X W':World} {cs:Array Value} {t:TypeId} (h:Ext (X.alloc (.cells cs t)).drew W'):Blk W' X.heap.size t cs:=(show Blk (X.alloc (.cells cs t)).drew X.heap.size t cs from Blk.new X t cs).ext h
theorem q9K (s : List UInt8) (w:World) (hl:s.length≤4611686018427387903):Calls Tryz.prog 216 #[.string ⟨s.toArray⟩] w fun r w'=>r= .returned (q6E s)∧Ext w w':=by
 have hb0:=Blk.new w 106 #[.int .u64 0,.int .i64 0,.int .i64 0];by_cases h24:s.length=24
 case neg=>
  have HM:Hid (q6E s= .tuple #[.agg #[.int .u64 0,.int .i64 0,.int .i64 0],.bool false]):=η13 (by unfold q6E q9Q;rw[if_neg (fun h=>h24 h.1)];rfl);have hn:((s.length:Int) !=24)=true:=by simp;omega
  go_enter Tryz.func216,Tryz.ntmps216;go_wp2_with fail
  ((try simp only[Exit.inBlock,Exit.then]);refine bodyPost_ret (v:= .tuple #[.agg #[_,_,_],_]) (by rw[results_cell_tmp rfl];go_simp;exact ⟨⟨rfl,rfl,rfl⟩,rfl⟩) rfl ?_)
  rw[HM.out];exact ⟨rfl,q0B _ _⟩
 obtain ⟨X,hX⟩: ∃X,s.take 8=X:=⟨_,rfl⟩
 obtain ⟨Y,hY⟩: ∃Y,(s.drop 8).take 8=Y:=⟨_,rfl⟩
 obtain ⟨Z,hZ⟩: ∃Z,s.drop 16=Z:=⟨_,rfl⟩
 have lX:X.length=8:=by rw[←hX];simp;omega
 have lY:Y.length=8:=by rw[←hY];simp;omega
 have lZ:Z.length=8:=by rw[←hZ];simp;omega
 have sX:=q4a s 8 8 rfl (by omega);have sY:=q2X s 8 16 8 16 rfl rfl (by omega) (by omega) (X:=Y) (by rw[←hY];exact q5A s 8 8);have sZ:=q2q s 16 16 rfl (by omega);rw[hX] at sX;rw[hZ] at sZ;have uX:(q1F (X.take 8):Int)=(q1F X:Int):=by rw[List.take_of_length_le (by omega)]
 have uY:(q1F (Y.take 8):Int)=(q1F Y:Int):=by rw[List.take_of_length_le (by omega)]
 have uZ:(q1F (Z.take 8):Int)=(q1F Z:Int):=by rw[List.take_of_length_le (by omega)]
 have bX:=q1p X;have bY:=q1p Y;have bZ:=q1p Z;rw[lX] at bX;rw[lY] at bY;rw[lZ] at bZ;have hgE:q9Q s=if q1F Y≤9223372036854775807∧q1F Z≤9223372036854775807 then some ((q1F X:Int),(q1F Y:Int),(q1F Z:Int)) else none:=by
  unfold q9Q;rw[hX,hY,hZ];by_cases hc:q1F Y≤9223372036854775807∧q1F Z≤9223372036854775807
  ·rw[if_pos ⟨h24,hc⟩,if_pos hc]
  ·rw[if_neg (fun h=>hc h.2),if_neg hc]
 obtain ⟨x,hx⟩: ∃x:Int,(q1F X:Int)=x:=⟨_,rfl⟩
 obtain ⟨y,hy⟩: ∃y:Int,IntKind.i64.wrap (q1F Y:Int)=y:=⟨_,rfl⟩
 obtain ⟨z,hz⟩: ∃z:Int,IntKind.i64.wrap (q1F Z:Int)=z:=⟨_,rfl⟩
 have hy2:=hy;have hz2:=hz;rw[IntKind.wrap_i64] at hy2 hz2;have hyc:(q1F Y≤9223372036854775807∧y=(q1F Y:Int)∧0≤y)∨(9223372036854775807<q1F Y∧y<0):=by
  rcases Nat.lt_or_ge 9223372036854775807 (q1F Y) with h|h
  ·right;omega
  ·left;omega
 have hzc:(q1F Z≤9223372036854775807∧z=(q1F Z:Int)∧0≤z)∨(9223372036854775807<q1F Z∧z<0):=by
  rcases Nat.lt_or_ge 9223372036854775807 (q1F Z) with h|h
  ·right;omega
  ·left;omega
 have HV:Hid (q6E s=if 0≤y∧0≤z then .tuple #[.agg #[.int .u64 x,.int .i64 y,.int .i64 z],.bool true] else .tuple #[.agg #[.int .u64 0,.int .i64 0,.int .i64 0],.bool false]):=η13 (by
  unfold q6E;rw[hgE];by_cases hc:q1F Y≤9223372036854775807∧q1F Z≤9223372036854775807
  ·rw[if_pos hc,if_pos (by omega)]
   rw[hx,show (q1F Y:Int)=y by omega,show (q1F Z:Int)=z by omega]
   rfl
  ·rw[if_neg hc,if_neg (by omega)]
   rfl)
 rw[hx] at uX;have UX:=η13 uX;generalize (q1F Y:Int)=uy at*;generalize (q1F Z:Int)=uz at*;have HW0:Hid (∀W,Ext (w.alloc (.cells #[.int .u64 0,.int .i64 0,.int .i64 0] 106)) W→Ext w W):=η13 fun W h=>(q0B w _).trans h
 obtain ⟨w0,hw0⟩: ∃w0,w.alloc (.cells #[.int .u64 0,.int .i64 0,.int .i64 0] 106)=w0:=⟨_,rfl⟩
 have h24':((s.length:Int) !=24)=false:=by simp;omega
 have UY:=η13 uY;have UZ:=η13 uZ;have LX:X.length≤9223372036854775807:=by omega
 have LY:Y.length≤9223372036854775807:=by omega
 have LZ:Z.length≤9223372036854775807:=by omega
 clear uX uY uZ hX hY hZ lX lY lZ bX bY bZ hgE hx hy2 hz2 hyc hzc hw0 hb0;go_enter Tryz.func216,Tryz.ntmps216;go_wp2_with fail;have HC:=η13 (Ext.refl (w.alloc (.cells #[.int .u64 0,.int .i64 0,.int .i64 0] 106)))
 go_region_law
  (go_simp; (go_at_call 141;refine (q8S _ _ (by assumption)).mono ?_;rintro e wa ⟨rfl,hb⟩;(first|rw[UX.out]|rw[UY.out]|rw[UZ.out]);
             (first
             |(have hc:=Ext.trans HC.out hb;(first|(replace bk:=bk.ext hb)|skip))
             |(have hc:=Ext.trans HC.out.drew hb;(first|(replace bk:=bk.ext hb)|skip))
             |(have hc:=Ext.trans (HC.out.alloc _) hb;have bk:=q5m hb;have hq:=HC.out.size)
             |(have hc:=Ext.trans (HC.out.alloc _).drew hb;have bk:=z1S hb;have hq:=HC.out.size)
             |(have hc:=Ext.trans (HC.out.drew.alloc _) hb;have bk:=q5m hb;have hq:=HC.out.size));
             replace HC:=η13 hc;have bR:=q5m hc;have r0:_=some (Value.int .u64 0):=bR.cell 0;have r1:_=some (Value.int .i64 0):=bR.cell 1;have r2:_=some (Value.int .i64 0):=bR.cell 2;have y0:=bR.free 0;have y1:=bR.free 1;have y2:=bR.free 2;have hs:=hc.size;rw[World.size_alloc] at hs;
             (try rw[World.size_alloc] at hq);(try (first|rw[World.size_alloc] at bk|skip;have k0:_=some (Value.int .u64 0):=bk.cell 0;have k1:_=some (Value.int .i64 0):=bk.cell 1;have k2:_=some (Value.int .i64 0):=bk.cell 2;have z0:=bk.free 0;have z1:=bk.free 1;have z2:=bk.free 2));clear hb hc))
 all_goals
  have HV2:Hid (q6E s=if 0≤y∧0≤z then .tuple #[.agg #[.int .u64 x,.int .i64 y,.int .i64 z],.bool true] else .tuple #[.agg #[.int .u64 0,.int .i64 0,.int .i64 0],.bool false]):=HV;have HX:=η13 (HW0.out _ HC.out);have bA:=bR.ext (q0B wa (.cells #[.int .u64 x,.int .i64 y,.int .i64 z] 106));have ca0:(wa.alloc (.cells #[.int .u64 x,.int .i64 y,.int .i64 z] 106)).cell? ⟨w.heap.size,0,none⟩=some (Value.int .u64 0):=bA.cell 0;have ca1:(wa.alloc (.cells #[.int .u64 x,.int .i64 y,.int .i64 z] 106)).cell? ⟨w.heap.size,1,none⟩=some (Value.int .i64 0):=bA.cell 1;have ca2:(wa.alloc (.cells #[.int .u64 x,.int .i64 y,.int .i64 z] 106)).cell? ⟨w.heap.size,2,none⟩=some (Value.int .i64 0):=bA.cell 2;have ya0:=bA.free 0;have ya1:=bA.free 1;have ya2:=bA.free 2;by_cases hyz:0≤y∧0≤z
  ·obtain ⟨y0',z0'⟩:=hyz
   have hd1:decide (y<0)=false:=by simp;omega
   have hd2:decide (z<0)=false:=by simp;omega
   go_wp2_with fail
   (try simp only[Exit.inBlock,Exit.then])
   refine bodyPost_ret (v:= .tuple #[.agg #[.int .u64 x,.int .i64 y,.int .i64 z],.bool true]) (by rw[results_cell_tmp rfl];go_simp) rfl ?_;rw[HV2.out,if_pos ⟨y0',z0'⟩];refine ⟨rfl,?_⟩
   repeat (first|refine Below.setCell ?_ (by first|exact Nat.le_refl _|(simp;done)|(simp;omega)) _|refine Ext.alloc ?_ _|refine Ext.drew ?_)
   exact HX.out
  ·have hcase:y<0∨(0≤y∧z<0):=by omega
   rcases hcase with hy0|⟨hy0,hz0⟩
   ·have hd1:decide (y<0)=true:=by simpa using hy0
    go_wp2_with fail
    (try simp only[Exit.inBlock,Exit.then])
    refine bodyPost_ret (v:= .tuple #[.agg #[.int .u64 0,.int .i64 0,.int .i64 0],.bool false]) (by rw[results_cell_tmp rfl];go_simp) rfl ?_;rw[HV2.out,if_neg hyz];refine ⟨rfl,?_⟩
    repeat (first|refine Below.setCell ?_ (by first|exact Nat.le_refl _|(simp;done)|(simp;omega)) _|refine Ext.alloc ?_ _|refine Ext.drew ?_)
    exact HX.out
   ·have hd1:decide (y<0)=false:=by simp;omega
    have hd2:decide (z<0)=true:=by simpa using hz0
    go_wp2_with fail
    (try simp only[Exit.inBlock,Exit.then])
    refine bodyPost_ret (v:= .tuple #[.agg #[.int .u64 0,.int .i64 0,.int .i64 0],.bool false]) (by rw[results_cell_tmp rfl];go_simp) rfl ?_;rw[HV2.out,if_neg hyz];refine ⟨rfl,?_⟩
    repeat (first|refine Below.setCell ?_ (by first|exact Nat.le_refl _|(simp;done)|(simp;omega)) _|refine Ext.alloc ?_ _|refine Ext.drew ?_)
    exact HX.out
end
section
open Go.RowKit
theorem Tryz.infoE :(Tryz.prog.info? 106).map (fun i=>(i.zero,i.size,i.bytes))=some (some (.agg #[.int .u64 0,.int .i64 0,.int .i64 0]),3,24):=by kernel_rfl
theorem z9j (n:Nat) (w:World) (hn:n≤1000000):Calls Tryz.prog 248 #[.int .i64 (n:Int)] w fun e w'=>e= .returned (.int .i64 (12+24*(n:Int)))∧w=w':=by
 have hd:decide ((89478484:Int)<(n:Int))=false:=by simp;omega
 go_enter Tryz.func248,Tryz.ntmps248;go_wp2_with fail;go_ret;exact ⟨rn (by omega),rfl⟩
theorem y1k (n:Nat) (w:World) (hn:n≤1000000):Calls Tryz.prog 215 #[.int .i64 (n:Int)] w fun e w'=>e= .returned (.int .i64 (8+24*(n:Int)))∧w=w':=by
 have HS:=η13 (fun W=>z9j n W hn);have hz:((12+24*(n:Int))==0)=false:=by simp;omega
 go_enter Tryz.func215,Tryz.ntmps215;go_wp2_with fail;refine (HS.out _).mono ?_;rintro e w1 ⟨rfl,rfl⟩;go_wp2_with fail;go_ret;exact ⟨rn (by omega),rfl⟩
def y0s :Value→Nat| .string b=>b.size|_=>0
def y2C (w:World) (r:Option (List En)) (e:Ending) (w':World):Prop:=
 match r with
 |none=>e= .returned (.tuple #[.slice none 0 0,.int .i64 90])∧Ext w w'
 |some l=> ∃v,e= .returned (.tuple #[v,.int .i64 0])∧w'.ownsRow w.heap.size 106 3 v l.length (ecs l)∧Ext w w'
theorem q5o : ∀(f g:Nat) (s:List UInt8),s.length<f→s.length<g→q1x f s=q1x g s
 |0,_,_,h,_=>by omega
 |_,0,_,_,h=>by omega
 | f + 1,g+1,s,h1,h2=>by
  unfold q1x;by_cases hs:s=[]
  ·rw[if_pos hs,if_pos hs]
  ·rw [if_neg hs,if_neg hs]
   have hl:(s.drop 24).length<s.length:=by
    have:0<s.length:=List.length_pos_iff.2 hs;rw[List.length_drop];omega
   cases q9Q (s.take 24) with
   |none=>rfl
   |some e=>simp only;rw[q5o f g (s.drop 24) (by omega) (by omega)]
theorem y0p (s:List UInt8) (w:World) (hl:s.length≤1048576):Calls Tryz.prog 210 #[.string ⟨s.toArray⟩] w (y2C w (q8G s)):=by
 have HO:=η13 (fun W=>z2L s W (by omega));by_cases hob:q1q s=true
 case neg=>
  have hob':q1q s=false:=by simpa using hob
  have HN:Hid (q8G s=none):=η13 (by unfold q8G;rw[if_neg (fun h=>hob h.1)]);have hT:q1j s=[]:=by unfold q1j;rw[if_neg hob]
  rw[hob',hT] at HO;clear hob hob' hT;go_enter Tryz.func210,Tryz.ntmps210;go_wp2_with fail;refine (HO.out _).mono ?_;rintro e w1 ⟨rfl,hb⟩;have HB:=η13 hb;clear hb;go_wp2_with fail;go_ret2;rw[HN.out];exact ⟨rfl,HB.out⟩
 rw[hob] at HO;have h4:4≤s.length:=by unfold q1q at hob;simp only[Bool.and_eq_true,decide_eq_true_eq] at hob;exact hob.1
 obtain ⟨T,hT⟩: ∃T,q1j s=T:=⟨_,rfl⟩
 have hT2:s.take (s.length-4)=T:=by rw[←hT];unfold q1j;rw[if_pos hob]
 have hTl:T.length=s.length-4:=by rw[←hT2,List.length_take];omega
 have htk:s.take 4=T.take 4∨T.length<4:=by
  rcases Nat.lt_or_ge T.length 4 with h|h
  ·exact .inr h
  ·left;rw[←hT2,List.take_take,Nat.min_eq_left (by omega)]
 rw[hT] at HO;have hgT:q8G s=if 8≤T.length∧s.take 4=z1R∧(T.drop 8).length=q1F ((T.drop 4).take 4)*24 then (match q1x (s.length+1) (T.drop 8) with|none=>none|some l=>if q3w l then some l else none) else none:=by
  unfold q8G;rw[hT2];by_cases hc:8≤T.length∧s.take 4=z1R∧(T.drop 8).length=q1F ((T.drop 4).take 4)*24
  ·rw[if_pos hc,if_pos ⟨hob,by omega,hc.2.1,hc.2.2⟩]
   cases q1x (s.length+1) (T.drop 8) with
   |none=>rfl
   |some l=>rfl
  ·rw[if_neg hc,if_neg (fun h=>hc ⟨by omega,h.2.2.1,h.2.2.2⟩)]
 have hT9:T.length≤1048576:=by omega
 have hTs:T.length≤s.length:=by omega
 clear hTl;by_cases h8:8≤T.length
 case neg=>
  have HN:Hid (q8G s=none):=η13 (by rw[hgT,if_neg (fun h=>h8 h.1)]);have hd:decide ((T.length:Int)<8)=true:=by simp;omega
  clear hgT hT hT2 htk h8 hob;go_enter Tryz.func210,Tryz.ntmps210;go_wp2_with fail;refine (HO.out _).mono ?_;rintro e w1 ⟨rfl,hb⟩;have HB:=η13 hb;clear hb;go_wp2_with fail;go_ret2;rw[HN.out];exact ⟨rfl,HB.out⟩
 have hd8:decide ((T.length:Int)<8)=false:=by simp;omega
 have htk4:s.take 4=T.take 4:=by
  rcases htk with h|h
  ·exact h
  ·omega
 rw[htk4] at hgT;have sF:=q4a T 4 4 rfl (by omega);obtain ⟨A,hA⟩: ∃A,T.take 4=A:=⟨_,rfl⟩
 rw[hA] at sF hgT;by_cases hAF:A=z1R
 case neg=>
  have HN:Hid (q8G s=none):=η13 (by rw[hgT,if_neg (fun h=>hAF h.2.1)]);have hne:(A==[112,116,97,98])=false:=by simpa [z1R] using hAF
  have hne':(A !=[112,116,97,98])=true:=by simpa [z1R] using hAF
  clear hgT hT hT2 htk h8 hob htk4 hA;go_enter Tryz.func210,Tryz.ntmps210;go_wp2_with fail;refine (HO.out _).mono ?_;rintro e w1 ⟨rfl,hb⟩;have HB:=η13 hb;clear hb;go_wp2_with fail;go_ret2;rw[HN.out];exact ⟨rfl,HB.out⟩
 subst hAF;obtain ⟨X,hX⟩: ∃X,(T.drop 4).take 4=X:=⟨_,rfl⟩
 have lX:X.length=4:=by rw[←hX];simp;omega
 have sX:=q2X T 4 8 4 8 rfl rfl (by omega) h8 (X:=X) (by rw[←hX];exact q5A T 4 4);have sR:=q2q T 8 8 rfl h8;obtain ⟨R0,hR0⟩: ∃R0,T.drop 8=R0:=⟨_,rfl⟩
 have hR0l:R0.length+8=T.length:=by rw[←hR0,List.length_drop];omega
 rw[hX,hR0] at hgT;rw[hR0] at sR;have hG:=fun W=>q8S X W (by omega)
 rw[List.take_of_length_le (by omega)] at hG;have bX:=q1p X;rw[lX] at bX;obtain ⟨m,hm⟩: ∃m:Nat,q1F X=m:=⟨_,rfl⟩
 rw[hm] at hG bX hgT;have HG:=η13 hG;have hm4:m<4294967296:=bX;have HGT:=η13 hgT;have hR9:R0.length≤1048576:=by omega
 have hwR:IntKind.u64.wrap (R0.length:Int)=(R0.length:Int):=by rw[IntKind.wrap_u64];omega
 have hwm:IntKind.u64.wrap ((m:Int)*24)=(m:Int)*24:=by rw[IntKind.wrap_u64];omega
 have hRs:R0.length<s.length+1:=by omega
 have h8':=h8;clear hgT hG bX hT hT2 htk hob htk4 hA hX hR0 lX hR0l h8;have hAe:(z1R==[112,116,97,98])=true:=by decide
 have hAe':(z1R !=[112,116,97,98])=false:=by decide
 have sF': ∀w,(Instr.slice 9 (.string ⟨T.toArray⟩) none (some (.int .i64 4)) none).run Tryz.prog w= .ok (.string ⟨#[112,116,97,98]⟩) w:=sF;clear sF;by_cases hlen:R0.length=m*24
 case neg=>
  have HN:Hid (q8G s=none):=η13 (by rw[HGT.out,if_neg (fun h=>hlen h.2.2)]);have hne:((R0.length:Int)==(m:Int)*24)=false:=by simp;omega
  have hne':((R0.length:Int) !=(m:Int)*24)=true:=by simp;omega
  go_enter Tryz.func210,Tryz.ntmps210;go_wp2_with fail;refine (HO.out _).mono ?_;rintro e w1 ⟨rfl,hb⟩;have HB:=η13 hb;clear hb;go_wp2_with fail;refine (HG.out _).mono ?_;rintro e w2 ⟨rfl,hb⟩;have HB2:=η13 (HB.out.trans hb);clear hb;go_wp2_with fail;go_ret2;rw[HN.out];exact ⟨rfl,HB2.out⟩
 case pos =>
  have HE:Hid (q8G s=match q1x (s.length+1) R0 with|none=>none|some l=>if q3w l then some l else none):=η13 (by
   rw[HGT.out,if_pos ⟨h8',rfl,hlen⟩])
  have HEs:Hid (q1x (s.length+1) R0=q1x (R0.length+1) R0):=η13 (q5o _ _ _ hRs (Nat.lt_succ_self _));have hne:((R0.length:Int)==(m:Int)*24)=true:=by simp;omega
  have hne':((R0.length:Int) !=(m:Int)*24)=false:=by simp;omega
  have HLn:=η13 hlen;clear hlen h8' hRs;go_enter Tryz.func210,Tryz.ntmps210;go_wp2_with fail;refine (HO.out _).mono ?_;rintro e w1 ⟨rfl,hb⟩;have HB:=η13 hb;clear hb;go_wp2_with fail;refine (HG.out _).mono ?_;rintro e w2 ⟨rfl,hb⟩;have HB2:=η13 (HB.out.trans hb);clear hb;go_wp2_with fail;have HBs:=η13 (HB2.out.size)
  go_loopw [7,8] (fun r v W=> ∃(R:List UInt8) (L:List En) (va:Value),r= .string ⟨R.toArray⟩∧v=va∧W.ownsRow w.heap.size 106 3 va L.length (ecs L)∧Ext w W∧q1x (s.length+1) R0=(q1x (R.length+1) R).map (L++·)∧R.length % 24=0∧R.length+24*L.length=R0.length) (fun r _ _=>y0s r)
  case atStart=>exact ⟨R0,[],.slice none 0 0,rfl,rfl,World.ownsRow_nil _ _ _ _,HB2.out,by rw[HEs.out];cases q1x (R0.length+1) R0<;>simp,by rw[HLn.out];omega,by simp⟩
  case round=>
   obtain ⟨R,L,va,rfl,rfl,hrow,hb,hes,h24,hsum⟩:=hrel;obtain ⟨va1,vc,rfl⟩:=q0J hrow;have HRow:=η13 hrow;have HBk:=η13 hb;have HEk:=η13 hes;have HSum:=η13 hsum;have hLl:L.length≤1048576:=by omega
   have hRl9:R.length≤1048576:=by omega
   by_cases hR:R=[]
   ·subst hR
    have hes2:q1x (s.length+1) R0=some L:=by
     rw[hes];show (q1x 1 []).map (L++·)=some L;have:q1x 1 []=some []:=rfl;rw[this];simp
    have HS:=η13 (fun (W:World) (k:Ext wr W)=>by
     obtain ⟨ao,cap,e1,e2⟩:=Ens.of_own (Own.of_row (q0N hrow k))
     cases e1
     exact z6r W e2)
    have HE2:Hid (q8G s=if q3w L then some L else none):=η13 (by rw[HE.out,hes2]);clear hes hes2 h24 hsum hrow hb;go_wp2_with fail;refine (HS.out _ (Ext.refl _)).mono ?_;rintro e w3 ⟨rfl,hb⟩;have HB3:=η13 hb;clear hb
    cases hq:q3w L with
    | true=>
     rw[hq] at HE2;go_wp2_with fail;go_ret2;rw[HE2.out];exact ⟨_,rfl,q0N HRow.out HB3.out,HBk.out.trans HB3.out⟩
    | false=>
     rw[hq] at HE2;go_wp2_with fail;go_ret2;rw[HE2.out];exact ⟨rfl,HBk.out.trans HB3.out⟩
   ·have hR24:24≤R.length:=by
     have:0<R.length:=List.length_pos_iff.2 hR;omega
    have hRn:(R==[])=false:=by simpa using hR
    have hRn':(R !=[])=true:=by simpa using hR
    have s1:=q4a R 24 24 rfl hR24;have s2:=q2q R 24 24 rfl hR24;have hstep:q1x (R.length+1) R=match q9Q (R.take 24) with|none=>none|some e=>(q1x ((R.drop 24).length+1) (R.drop 24)).map (e::·):=by
     conv=>lhs;unfold q1x
     rw[if_neg hR]
     cases q9Q (R.take 24) with
     |none=>rfl
     |some e=>simp only;rw[q5o R.length ((R.drop 24).length+1) (R.drop 24) (by rw[List.length_drop];omega) (Nat.lt_succ_self _)]
    have hD:(R.drop 24).length=R.length-24:=by rw[List.length_drop]
    obtain ⟨E,hE⟩: ∃E,R.take 24=E:=⟨_,rfl⟩
    obtain ⟨R',hR'⟩: ∃R',R.drop 24=R':=⟨_,rfl⟩
    have lE:E.length=24:=by rw[←hE,List.length_take];omega
    rw[hE] at s1;rw[hR'] at s2 hD;rw[hE,hR'] at hstep;have HGe:=η13 (fun W=>q9K E W (by omega))
    cases hge:q9Q E with
    | none=>
     have hev:q6E E= .tuple #[.agg #[.int .u64 0,.int .i64 0,.int .i64 0],.bool false]:=by unfold q6E;rw[hge];rfl
     rw[hev] at HGe;have HN:Hid (q8G s=none):=η13 (by rw[HE.out,hes,hstep,hge];rfl);clear hes hstep hev hge hE hR' hR lE hrow hb h24 hsum hD;go_wp2_with fail;refine (HGe.out _).mono ?_;rintro e w3 ⟨rfl,hb⟩;have HB3:=η13 (HBk.out.trans hb);clear hb;go_wp2_with fail;go_ret2;rw[HN.out];exact ⟨rfl,HB3.out.alloc _⟩
    | some e=>
     obtain ⟨x,y,z⟩:=e;have hev:q6E E= .tuple #[.agg #[.int .u64 x,.int .i64 y,.int .i64 z],.bool true]:=by unfold q6E;rw[hge];rfl
     rw[hev] at HGe
     have HEn:Hid (q1x (s.length+1) R0=(q1x (R'.length+1) R').map ((L++[(x,y,z)])++·)):=η13 (by
      rw[hes,hstep,hge];simp only
      cases q1x (R'.length+1) R'<;>simp)
     have HM24:Hid (R'.length % 24=0∧R'.length+24*(L.length+1)=R0.length∧R'.length<R.length):=η13 (by omega);clear hes hstep hev hge hE hR' hR lE hrow hb h24 hsum hD;go_wp2_with fail;refine (HGe.out _).mono ?_;rintro e w3 ⟨rfl,hb⟩;have HB3:=η13 (HBk.out.trans hb);have HR3:=η13 (q0N HRow.out hb);have HB3s:=η13 HB3.out.size;clear hb
     go_wp2_with (at_builtin;refine q0R rfl _ _ 180 rfl w.heap.size 106 _ 3 24 Tryz.underlying180 Tryz.infoE (by decide) (by decide) _ L.length (ecs L) rfl (q0N (q0N HR3.out (q0B _ _)) (q0B _ _)) _ 1 1 (ec (x,y,z)) rfl rfl (fun h=>by cases h) (by have h:=Rd.lit (w3.alloc (Obj.cells #[.int .u64 x,.int .i64 y,.int .i64 z] 106)) #[.int .u64 x,.int .i64 y,.int .i64 z] 106;have e:(w3.alloc (Obj.cells #[.int .u64 x,.int .i64 y,.int .i64 z] 106)).heap.size=w3.heap.size+1:=Array.size_push _;rw[e] at h;exact h) (by unfold ec;simp[Value.oneCell']) (by unfold maxLen;omega) (by omega) (by have:=HB3s.out;simp;omega) ?_;intro v2 w5 hown hgrow hat;obtain ⟨a2,k2,rfl⟩:=q0J hown;have HO5:=η13 hown;have HB5:=η13 (q1U ((HB3.out.alloc _).alloc _) (Own.of_row (q0N (q0N HR3.out (q0B _ _)) (q0B _ _))) hgrow (by have:=HB3s.out;simp;omega));clear hown hgrow hat)
     go_roundw
     case rel=>exact ⟨R',L++[(x,y,z)],_,rfl,rfl,by rw[List.length_append,z2X];exact HO5.out,HB5.out,HEn.out,HM24.out.1,by rw[List.length_append];exact HM24.out.2.1⟩
     case measure=>exact HM24.out.2.2
end
section
open Go.RowKit
def md0 :En×Nat:=(en0,0)
def mc (m:En×Nat):List Value:=[.int .u64 m.1.1,.int .i64 m.1.2.1,.int .i64 m.1.2.2,.int .i64 (m.2:Int)]
def mcs (L:List (En×Nat)):List Value:=L.flatMap mc
theorem z3E (L:List (En×Nat)) (e:En×Nat):mcs (L++[e])=mcs L++mc e:=by unfold mcs;simp
theorem z2Q (e:En×Nat) (L:List (En×Nat)):mcs (e::L)=mc e++mcs L:=rfl
theorem q9r : ∀(L:List (En×Nat)) (i j:Nat),i<L.length→j<4→(mcs L)[i*4+j]? =(mc (L.getD i md0))[j]?
 |[],i,j,h,_=>by simp at h
 | k::L,0,j,_,hj=>by
  rw[z2Q,List.getElem?_append_left (by simp[mc];omega)];simp
 | k::L,i+1,j,h,hj=>by
  rw[z2Q,List.getElem?_append_right (by simp[mc];omega),show (i+1)*4+j-(mc k).length=i*4+j from by simp[mc];omega,q9r L i j (by simpa using h) hj];simp
structure Mds (w:World) (ao:Option Addr) (n cap:Nat) (L:List (En×Nat)):Prop where
 len:L.length=n
 fits:n≤cap
 bound:cap≤9223372036854775807
 nil:ao=none→cap=0
 rd:Rd w ao (mcs L)
theorem Mds.ext {w w':World} {ao:Option Addr} {n cap:Nat} {L:List (En×Nat)} (h:Mds w ao n cap L) (k:Ext w w'):Mds w' ao n cap L:=⟨h.len,h.fits,h.bound,h.nil,h.rd.ext k⟩
theorem Mds.at {w:World} {ao:Option Addr} {n cap:Nat} {L:List (En×Nat)} (h:Mds w ao n cap L) {i:Nat} (hi:i<n):
  ∃b off,ao=some ⟨b,off,none⟩∧w.cell? ⟨b,off+i*4,none⟩=some (.int .u64 (L.getD i md0).1.1)∧w.cell? ⟨b,off+i*4+1,none⟩=some (.int .i64 (L.getD i md0).1.2.1)∧w.cell? ⟨b,off+i*4+2,none⟩=some (.int .i64 (L.getD i md0).1.2.2)∧w.cell? ⟨b,off+i*4+3,none⟩=some (.int .i64 ((L.getD i md0).2:Int)):=by
 have hl:=h.len;have k0:=q9r L i 0 (by omega) (by decide);have k1:=q9r L i 1 (by omega) (by decide);have k2:=q9r L i 2 (by omega) (by decide);have k3:=q9r L i 3 (by omega) (by decide);obtain ⟨b,off,rfl,h0⟩:=h.rd _ _ k0;obtain ⟨_,_,e1,h1⟩:=h.rd _ _ k1
 cases e1;obtain ⟨_,_,e2,h2⟩:=h.rd _ _ k2
 cases e2;obtain ⟨_,_,e3,h3⟩:=h.rd _ _ k3
 cases e3;exact ⟨b,off,rfl,h0,h1,h2,h3⟩
theorem Mds.of_own {w:World} {B:Nat} {e:TypeId} {v:Value} {L:List (En×Nat)} (h:Own w B e 4 v L.length (mcs L)): ∃ao cap,v= .slice ao L.length cap∧Mds w ao L.length cap L:=by
 obtain ⟨ao,cap,rfl,h1,h2,h3,h4⟩:=h.rd;exact ⟨ao,cap,rfl,rfl,h1,h2,h3,h4⟩
theorem Tryz.infoM :(Tryz.prog.info? 333).map (fun i=>(i.zero,i.size,i.bytes))=some (some (.agg #[.int .u64 0,.int .i64 0,.int .i64 0,.int .i64 0]),4,32):=by kernel_rfl
theorem q6A (m:Nat): ∀(i:Nat) (l:List En),(q3u m i l).length≤l.length
 |_,[]=>by unfold q3u;simp
 | i,e::r=>by
  have:=q6A m (i+1) r;unfold q3u
  split<;>simp<;>omega
theorem y0K {ao:Option Addr} {n cap:Nat} {L:List En} (w:World) (hx:Ens w ao n cap L) (hn:n≤1000000):Calls Tryz.prog 225 #[.slice ao n cap] w fun r w'=> ∃v,r= .returned v∧w'.ownsRow w.heap.size 333 4 v (q2Y L).length (mcs (q2Y L))∧Ext w w':=by
 have Hx:=η13 hx;have b1:=hx.fits;have b2:=hx.bound;have HLen:=η13 hx.len;clear hx;go_enter Tryz.func225,Tryz.ntmps225;go_wp2_with fail
 go_loopw [3,8] (fun v i W=> ∃(k:Nat) (M:List (En×Nat)),k≤n∧i= .int .i64 (k:Int)∧W.ownsRow w.heap.size 333 4 v M.length (mcs M)∧M++q3u n k (L.drop k)=q2Y L∧Ext w W) (fun _ i _=>n-(intOf i).toNat)
 case atStart=>exact ⟨0,[],Nat.zero_le _,rfl,World.ownsRow_nil _ _ _ _,by rw[List.nil_append,List.drop_zero];unfold q2Y;rw[HLen.out],Ext.refl _⟩
 case round=>
  obtain ⟨k,M,hk,rfl,hrow,hM,hb⟩:=hrel;have HRow:=η13 hrow;have HBk:=η13 hb;obtain ⟨va,vc,rfl⟩:=q0J hrow;have HBs:=η13 (hb:Ext w wr).size;by_cases hlt:k<n
  ·have hd:decide ((k:Int)<(n:Int))=true:=by simp;omega
   obtain ⟨b,off,rfl,c0,c1,c2⟩:=(Hx.out.ext hb).at hlt;have hL:L.drop k=L.getD k en0::L.drop (k+1):=by
    rw[List.drop_eq_getElem_cons (by rw[HLen.out];exact hlt)];simp[List.getD,List.getElem?_eq_getElem (show k<L.length by rw[HLen.out];exact hlt)]
   rw[hL] at hM;have hMl:=congrArg List.length hM;have hm1:=q6A L.length 0 L;have hm2:(q2Y L).length≤n:=by unfold q2Y;rw[←HLen.out];exact hm1
   rw[List.length_append] at hMl;have hMl9:M.length≤n:=by omega
   generalize L.getD k en0=z at*;have u0:=q0F c0;have u1:=q0F c1;have u2:=q0F c2;have hw1:IntKind.i64.wrap ((n:Int)-1)=(n:Int)-1:=by rw[IntKind.wrap_i64];omega
   unfold q3u at hM;obtain ⟨z1,z2,z3⟩:=z;have hw9:IntKind.i64.wrap (Int.tmod (k:Int) 8)=((k % 8:Nat):Int):=by
    have:Int.tmod (k:Int) 8=((k % 8:Nat):Int):=by rw[Int.tmod_eq_emod_of_nonneg (by omega)];omega
    rw[this,IntKind.wrap_i64];omega
   by_cases hm:k % 8=0
   ·rw[if_pos (.inl hm)] at hM
    have hd8:(((k % 8:Nat):Int)==0)=true:=by simp;omega
    have HM:=η13 hM;clear hM hrow hb hL hMl
    go_wp2_with (at_builtin;refine q0R rfl (.tmp 23) (.tmp 27) 294 rfl w.heap.size 333 _ 4 32 Tryz.underlying294 Tryz.infoM (by decide) (by decide) _ M.length (mcs M) rfl (q0N (q0N HRow.out (q0B _ _)) (q0B _ _)) _ 1 1 (mc ((z1,z2,z3),k)) rfl rfl (fun h=>by cases h) (by have h:=Rd.lit (wr.alloc (Obj.cells #[.int .u64 z1,.int .i64 z2,.int .i64 z3] 106)) #[.int .u64 z1,.int .i64 z2,.int .i64 z3,.int .i64 (k:Int)] 333;have e:(wr.alloc (Obj.cells #[.int .u64 z1,.int .i64 z2,.int .i64 z3] 106)).heap.size=wr.heap.size+1:=Array.size_push _;rw[e] at h;exact h) (by unfold mc;simp[Value.oneCell']) (by unfold maxLen;omega) (by omega) (by have:=HBs.out;simp;omega) ?_;intro v2 w5 hown hgrow hat;obtain ⟨a2,k2,rfl⟩:=q0J hown;have HO5:=η13 hown;have HB5:=η13 (q1U ((HBk.out.alloc _).alloc _) (Own.of_row (q0N (q0N HRow.out (q0B _ _)) (q0B _ _))) hgrow (by have:=HBs.out;simp;omega));clear hown hgrow hat)
    go_roundw
    case rel=>exact ⟨k+1,M++[((z1,z2,z3),k)],hlt,by go_num,by rw[List.length_append,z3E];exact HO5.out,by rw[List.append_assoc];exact HM.out,HB5.out⟩
    case measure=>simp[intOf];omega
   ·have hd8:(((k % 8:Nat):Int)==0)=false:=by simp;omega
    by_cases hm2:k+1=n
    ·rw[if_pos (.inr hm2)] at hM
     have hdn:((k:Int)==(n:Int)-1)=true:=by simp;omega
     have HM:=η13 hM;clear hM hrow hb hL hMl
     go_wp2_with (at_builtin;refine q0R rfl (.tmp 23) (.tmp 27) 294 rfl w.heap.size 333 _ 4 32 Tryz.underlying294 Tryz.infoM (by decide) (by decide) _ M.length (mcs M) rfl (q0N (q0N HRow.out (q0B _ _)) (q0B _ _)) _ 1 1 (mc ((z1,z2,z3),k)) rfl rfl (fun h=>by cases h) (by have h:=Rd.lit (wr.alloc (Obj.cells #[.int .u64 z1,.int .i64 z2,.int .i64 z3] 106)) #[.int .u64 z1,.int .i64 z2,.int .i64 z3,.int .i64 (k:Int)] 333;have e:(wr.alloc (Obj.cells #[.int .u64 z1,.int .i64 z2,.int .i64 z3] 106)).heap.size=wr.heap.size+1:=Array.size_push _;rw[e] at h;exact h) (by unfold mc;simp[Value.oneCell']) (by unfold maxLen;omega) (by omega) (by have:=HBs.out;simp;omega) ?_;intro v2 w5 hown hgrow hat;obtain ⟨a2,k2,rfl⟩:=q0J hown;have HO5:=η13 hown;have HB5:=η13 (q1U ((HBk.out.alloc _).alloc _) (Own.of_row (q0N (q0N HRow.out (q0B _ _)) (q0B _ _))) hgrow (by have:=HBs.out;simp;omega));clear hown hgrow hat)
     go_roundw
     case rel=>exact ⟨k+1,M++[((z1,z2,z3),k)],hlt,by go_num,by rw[List.length_append,z3E];exact HO5.out,by rw[List.append_assoc];exact HM.out,HB5.out⟩
     case measure=>simp[intOf];omega
    ·rw[if_neg (fun h=>h.elim hm hm2)] at hM
     have hdn:((k:Int)==(n:Int)-1)=false:=by simp;omega
     have HM:=η13 hM;clear hM hrow hb hL hMl;go_wp2_with fail
     go_roundw
     case rel=>exact ⟨k+1,M,hlt,by go_num,q0N HRow.out (q0B _ _),HM.out,HBk.out.alloc _⟩
     case measure=>simp[intOf];omega
  ·have hd:decide ((k:Int)<(n:Int))=false:=by simp;omega
   have hM':M=q2Y L:=by
    rw[List.drop_of_length_le (by rw[HLen.out];omega)] at hM;unfold q3u at hM
    simpa using hM
   have HM:=η13 hM';clear hrow hb hM hM';go_wp2_with fail;go_ret;exact ⟨_,rfl,by rw[←HM.out];exact HRow.out,HBk.out⟩
end
section
open Go.RowKit
theorem z6e {ao:Option Addr} {n cap m:Nat} {M:List (En×Nat)} (x:En) (w:World) (hx:Mds w ao n cap M) (hn:m≤1000000) (hm: ∀y∈M,y.2<m):Calls Tryz.prog 214 #[.slice ao n cap,.int .i64 (m:Int),enV x] w fun r w'=>r= .returned (.tuple #[.int .i64 ((q0n m x 0 M).1:Int),.int .i64 ((q0n m x 0 M).2:Int)])∧Ext w w':=by
 have Hx:=η13 hx;have b1:=hx.fits;have b2:=hx.bound;have HLen:=η13 hx.len;have HM:=η13 hm;clear hx hm;obtain ⟨x1,x2,x3⟩:=x;have hbk:=Blk.new w 106 #[.int .u64 x1,.int .i64 x2,.int .i64 x3];have HE0:=η13 (q0B w (.cells #[.int .u64 x1,.int .i64 x2,.int .i64 x3] 106));have e0:=η13 (show (w.alloc (.cells #[.int .u64 x1,.int .i64 x2,.int .i64 x3] 106)).cell? ⟨w.heap.size,0,none⟩=some (.int .u64 x1) from hbk.cell 0);have e1:=η13 (show (w.alloc (.cells #[.int .u64 x1,.int .i64 x2,.int .i64 x3] 106)).cell? ⟨w.heap.size,1,none⟩=some (.int .i64 x2) from hbk.cell 1);have e2:=η13 (show (w.alloc (.cells #[.int .u64 x1,.int .i64 x2,.int .i64 x3] 106)).cell? ⟨w.heap.size,2,none⟩=some (.int .i64 x3) from hbk.cell 2);clear hbk;have HF:Hid (∀W,Ext (w.alloc (.cells #[.int .u64 x1,.int .i64 x2,.int .i64 x3] 106)) W→W.cell? ⟨w.heap.size,0,none⟩=some (.int .u64 x1)∧W.cell? ⟨w.heap.size,1,none⟩=some (.int .i64 x2)∧W.cell? ⟨w.heap.size,2,none⟩=some (.int .i64 x3)):=η13 fun W k=>⟨q0A k e0.out,q0A k e1.out,q0A k e2.out⟩
 clear e0 e1 e2;have hmx:¬((m:Int)<0):=by omega
 show Calls Tryz.prog 214 #[.slice ao n cap,.int .i64 (m:Int),.agg #[.int .u64 x1,.int .i64 x2,.int .i64 x3]] w _;go_enter Tryz.func214,Tryz.ntmps214;go_wp2_with fail
 go_step3
 go_wp2_with fail
 go_step3
 go_wp2_with fail;generalize w.alloc (.cells #[.int .u64 x1,.int .i64 x2,.int .i64 x3] 106)=w1 at*;generalize w.heap.size=p at*
 go_loopw [6,7,16] (fun l h i W=> ∃(k lo:Nat),k≤n∧i= .int .i64 (k:Int)∧l= .int .i64 (lo:Int)∧h= .int .i64 (m:Int)∧lo≤m+1∧q0n m (x1,x2,x3) lo (M.drop k)=q0n m (x1,x2,x3) 0 M∧Ext w1 W) (fun _ _ i _=>n-(intOf i).toNat)
 case atStart=>exact ⟨0,0,Nat.zero_le _,rfl,rfl,rfl,by omega,by rw[List.drop_zero],Ext.refl _⟩
 case round =>
  obtain ⟨k,lo,hk,rfl,rfl,rfl,hlo,hN,hb⟩:=hrel;have HBk:=η13 hb;by_cases hlt:k<n
  ·have hd:decide ((k:Int)<(n:Int))=true:=by simp;omega
   obtain ⟨b,off,rfl,c0,c1,c2,c3⟩:=(Hx.out.ext (HE0.out.trans hb)).at hlt;have hL:M.drop k=M.getD k md0::M.drop (k+1):=by
    rw[List.drop_eq_getElem_cons (by rw[HLen.out];exact hlt)];simp[List.getD,List.getElem?_eq_getElem (show k<M.length by rw[HLen.out];exact hlt)]
   have hm2:(M.getD k md0).2<m:=HM.out _ (by rw[List.getD,List.getElem?_eq_getElem (show k<M.length by rw[HLen.out];exact hlt)];simp);rw[hL] at hN;generalize M.getD k md0=z at*;obtain ⟨z,a⟩:=z;obtain ⟨d0,d1,d2⟩:=HF.out _ hb;obtain ⟨R,hR⟩: ∃R,q0n m (x1,x2,x3) 0 M=R:=⟨_,rfl⟩
   rw[hR] at hN;unfold q0n at hN;have HLs:=η13 (fun W=>q9m z (x1,x2,x3) W);obtain ⟨q,hq⟩: ∃q,q0e z (x1,x2,x3)=q:=⟨_,rfl⟩
   rw[hq] at hN HLs;obtain ⟨z1,z2,z3⟩:=z;unfold enV ec at HLs;simp only at c0 c1 c2 c3;have u0:=q0F c0;have u1:=q0F c1;have u2:=q0F c2;have u3:=q0F c3;have hxa:=q0B wr (.cells #[.int .u64 z1,.int .i64 z2,.int .i64 z3,.int .i64 (a:Int)] 333);have v0:=q0A hxa d0;have v1:=q0A hxa d1;have v2:=q0A hxa d2;have HXa:=η13 hxa;clear hxa;simp only at hm2;have ha0:¬((a:Int)<0):=by omega
   have ha1:¬((m:Int)<(a:Int)):=by omega
   have ha2:¬((m:Int)-1<(a:Int)):=by omega
   have ha3:IntKind.i64.wrap ((a:Int)+1)=(a:Int)+1:=by rw[IntKind.wrap_i64];omega
   have hma:min a (m-1)+1=a+1:=by omega
   have hmb:min a m=a:=by omega
   rw[hma,hmb,←hR] at hN;clear hR;have hmx1:IntKind.i64.wrap ((m:Int)-1)=(m:Int)-1:=by rw[IntKind.wrap_i64];omega
   have HN:=η13 hN;clear hN hL hb hq
   cases q with
   | true=>
    rw[if_pos rfl] at HN;go_wp2_with fail;refine (HLs.out _).mono ?_;rintro e w5 ⟨rfl,hb⟩;have HB5:=η13 (HBk.out.trans (HXa.out.trans hb));clear hb;go_wp2_with fail
    go_roundw
    case rel=>exact ⟨k+1,a+1,hlt,by go_num,by go_num,rfl,by omega,HN.out,HB5.out⟩
    case measure=>simp[intOf];omega
   | false=>
    have HNN:Hid (q0n m (x1,x2,x3) 0 M=(lo,max lo a)):=η13 (by rw[←HN.out,if_neg (by decide)]);go_wp2_with fail;refine (HLs.out _).mono ?_;rintro e w5 ⟨rfl,hb⟩;have HB5:=η13 (HE0.out.trans (HBk.out.trans (HXa.out.trans hb)));clear hb;go_wp2_with fail
    all_goals
     go_ret2;refine ⟨?_,HB5.out⟩;rw[HNN.out];show _=Ending.returned (.tuple #[.int .i64 (lo:Int),.int .i64 ((max lo a:Nat):Int)])
     first
      |(rw[Nat.max_eq_right (by omega)];rfl)
      |(rw[Nat.max_eq_left (by omega)];rfl)
  ·have hd:decide ((k:Int)<(n:Int))=false:=by simp;omega
   have hN':q0n m (x1,x2,x3) 0 M=(lo,max lo m):=by
    rw[List.drop_of_length_le (by rw[HLen.out];omega)] at hN;rw[←hN];rfl
   have HN:=η13 hN';clear hN hN' hb;go_wp2_with fail
   all_goals
    go_ret2;refine ⟨?_,HE0.out.trans HBk.out⟩;rw[HN.out];show _=Ending.returned (.tuple #[.int .i64 (lo:Int),.int .i64 ((max lo m:Nat):Int)])
    first
     |(rw[Nat.max_eq_right (by omega)];rfl)
     |(rw[Nat.max_eq_left (by omega)];rfl)
end
section
open Go.RowKit
theorem z8X (s:List UInt8) (n:Nat) (w:World) (hn:n<200) (hl:s.length≤1048576) (hp:z6c s (q2R n)=true):
  Calls Tryz.prog 93 #[.string ⟨s.toArray⟩,.int .i64 (n:Int)] w fun e w'=> ∃v,e= .returned (.tuple #[v,.int .i64 (q9M 12 (q0k s 12):Int),.bool true])∧
   w'.ownsRow w.heap.size 3 1 v (q0k s 12).length ((q0k s 12).map fun x=>Value.int .i64 (x.1:Int))∧Ext w w':=by
 have hHl:=q2m n;have HC:=η13 (fun W=>z3J n W hn);have hs12:12≤s.length:=by
  unfold z6c at hp;simp only[Bool.and_eq_true,decide_eq_true_eq] at hp;omega
 generalize q2R n=H at*;have HP:=η13 (fun W=>z1c s H W (by omega) (by omega));rw[hp] at HP;have HW:=η13 (fun W=>z9V s 12 W hl hs12);clear hp;have hne:(H==[])=false:=by cases H with|nil=>cases hHl|cons=>rfl
 have hnz:¬H=[]:=by simpa using hne
 go_enter Tryz.func93,Tryz.ntmps93;go_wp2_with fail;refine (HC.out _).mono ?_;rintro e w1 ⟨rfl,hb⟩;have HB:=η13 hb;clear hb;go_wp2_with fail;refine (HP.out _).mono ?_;rintro e w2 ⟨rfl,rfl⟩;go_wp2_with fail;refine (HW.out _).mono ?_;rintro e w3 ⟨v,rfl,hr,hb⟩;have HR:=η13 (q0v hr HB.out.size);have HB3:=η13 (HB.out.trans hb);obtain ⟨ao,cap,rfl⟩:=q0J hr;clear hr hb;go_wp2_with fail;go_ret3;exact ⟨_,rfl,HR.out,HB3.out⟩
end
end Go.Proofs.YthdekbmdkpcooaaGreatDoor
