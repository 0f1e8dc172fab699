/- Walks: where records stand, one behind the other, and where they end. Walks: a chunk's records. -/
import Derived.Test.YtjjfiejoeelndaaGreatDoorG11Bw
import Derived.Test.YtjjfiejoeelndaaGreatDoorG4Bw
set_option linter.unusedVariables false
set_option linter.unusedSimpArgs false
namespace Go.Proofs.YtjjfiejoeelndaaGreatDoor
open Go.RowKit Go.Shelf
attribute [local go_sem] Oper.semAt_some
set_option maxRecDepth 100000
set_option linter.unusedVariables false
set_option maxHeartbeats 1600000
theorem z8l (n:Nat) (s:List UInt8) (a:Nat) (w:World):
    CallsIn Fence.wide n Tryz.prog 197 #[.string ⟨s.toArray⟩,.int .i64 (a:Int)] w fun e w'=>e= .returned (.func (.func 230) #[] #[.pointer (some ⟨w.heap.size+1,0,none⟩),.pointer (some ⟨w.heap.size,0,none⟩)])∧
      w'=(w.alloc (.cells #[.string ⟨s.toArray⟩] 9)).alloc (.cells #[.int .i64 (a:Int)] 3):=by
  refine callsIn_of_wp Tryz.func197 rfl trivial ?_ rfl
  simp only[Tryz.ntmps197,List.size_toArray,List.length_cons,List.length_nil,Nat.reduceAdd,Nat.reduceSub,Array.replicate_succ,Array.replicate_zero,List.push_toArray,List.append_toArray,List.nil_append,List.cons_append]
  gi_wp2
  go_ret
  exact ⟨rfl,rfl⟩
theorem z4K (n:Nat) (hn:1≤n) (bf bs:Nat) (s:List UInt8) (a0:Nat) (hl:s.length≤4611686018427387903) (ha0:a0≤s.length) (w:World) (hf:Boxed w bf 3 (.int .i64 (a0:Int))) (hs:Boxed w bs 9 (.string ⟨s.toArray⟩)):
    SeqStopsK Fence.wide n Tryz.prog 230 #[.pointer (some ⟨bf,0,none⟩),.pointer (some ⟨bs,0,none⟩)] y1n (KpB bs) (fun ys=>ys=q0h s a0) (fun pre=>pre<+:q0h s a0) (q0h s a0).length w:=fun l J Jx W hW hJ _ hY h0=>
  z7B n hn l bf bs s a0 hl ha0 J Jx (fun pre A B h k=>hJ pre A B none h (q6k k) (fun r e=>by cases e)) hY W ((hW.cell (p:=⟨bf,0,none⟩) hf.lt).trans hf.cell) ((hW.block bs hs.lt).trans hs) h0
theorem y1d {b:Nat} {A B C:World} (h:KpB b A B) (k:KpB b B C):KpB b A C:=Eq.trans k h
theorem y1V {b B:Nat} (hb:b<B) (W:World) (l:Nat) (o o':Obj) (h:B≤l) (_:W.heap[l]? =some o) (_:o.isCells=false) (_:o.isWalk=false):KpB b W (W.putObj l o'):=
  World.putObj_heap_other (fun e=>by omega)
theorem z0P (s:List UInt8): ∀(f a:Nat),(q5V f s a).length≤f
  |0,_=>Nat.le_refl _
  | f+1,a=>by
    unfold q5V
    cases q4u s a with
    |none=>simp
    |some r=>have:=z0P s f r.2;simp;omega
theorem z4S (a:Nat) (l:List (Nat×Nat)) (x:Nat×Nat):q8o a (l++[x])=x.2:=by unfold q8o;simp
theorem q8j {fn:Func} {p q:Tmp} {tp tq:TypeId} (h:fn.results=#[.cell p tp,.cell q tq]) (tmps:Array Value) (P:Program) (w:World):
    (results fn tmps).run P w=
      ((asAddr (tmps.getD p undef)).run P w).andThen fun a w₁=>((loadVar tp a).run P w₁).andThen fun v w₂=>((asAddr (tmps.getD q undef)).run P w₂).andThen fun b w₃=>((loadVar tq b).run P w₃).andThen fun u w₄=> .ok (.tuple #[v,u]) w₄:=by
  simp only[results,h]
  simp[Sem.run_bind,Result.andThen]
theorem y2D {W w1:World} {n₀ n₁ B E b:Nat} {t te e:TypeId} {v v' ve ve':Value} {k m:Nat} {xs ys:List Value} {tmp:Obj}
    (hv:Boxed W B t v) (hte:t≠e) (hE:Boxed W E te ve) (hBE:E≠B) (hb:b<W.heap.size) (hbB:b≠B) (hbE:b≠E) (hrow:W.ownsRow n₁ e 1 v k xs) (hn₁:n₁≤W.heap.size) (hEn:E<n₁) (hbn:b<n₁)
    (h01:n₀≤n₁) (h0B:n₀≤B) (h0E:n₀≤E) (hown':w1.ownsRow n₁ e 1 v' m ys) (hgrow:(W.alloc tmp).grownBy w1 v.ownBlock):
    Boxed w1 B t v∧Boxed (w1.setCell ⟨B,0,none⟩ v') E te ve∧Boxed ((w1.setCell ⟨B,0,none⟩ v').setCell ⟨E,0,none⟩ ve') B t v'∧Boxed ((w1.setCell ⟨B,0,none⟩ v').setCell ⟨E,0,none⟩ ve') E te ve'∧
    ((w1.setCell ⟨B,0,none⟩ v').setCell ⟨E,0,none⟩ ve').ownsRow n₁ e 1 v' m ys∧KeepsOthers W ((w1.setCell ⟨B,0,none⟩ v').setCell ⟨E,0,none⟩ ve')∧Below n₀ W ((w1.setCell ⟨B,0,none⟩ v').setCell ⟨E,0,none⟩ ve')∧
    KpB b W ((w1.setCell ⟨B,0,none⟩ v').setCell ⟨E,0,none⟩ ve'):=by
  have hne: ∀j,v.ownBlock=some j→n₁≤j:=fun j hj=>(q0W hrow j hj).1
  have hne': ∀j,v'.ownBlock=some j→n₁≤j:=fun j hj=>(q0W hown' j hj).1
  have hv1:Boxed w1 B t v:=(hv.alloc tmp).kept hgrow (hv.not_row hte hrow)
  have hE1:Boxed w1 E te ve:=(hE.alloc tmp).kept hgrow fun e=>by have:=hne E e.symm;omega
  have hsz:W.heap.size+1≤w1.heap.size:=by have:=hgrow.size;rw[World.size_alloc] at this;exact this
  refine ⟨hv1,hE1.other hBE v',(hv1.set v').other (Ne.symm hBE) ve',(hE1.other hBE v').set ve',?_,?_,?_,?_⟩
  · exact q0q (q0q hown' _ (hv1.not_row hte hown').symm) _ fun e=>by have:=hne' _ e;simp at this;omega
  · refine (((KeepsOthers.alloc W tmp).trans (KeepsOthers.of_grownBy hgrow fun j o ej hj=>?_)).trans (KeepsOthers.setCell _ _ _)).trans (KeepsOthers.setCell _ _ _)
    rcases (hrow.alloc tmp).2 with ⟨rfl,_⟩|⟨g,cap,cur,rfl,_,hgb,_⟩
    · simp[Value.ownBlock] at ej
    · obtain rfl:g=j:=by simpa [Value.ownBlock] using ej
      rw[hgb] at hj;cases hj;rfl
  · exact ((((Below.refl n₀ W).alloc (Nat.le_trans h01 hn₁) tmp).grown hgrow (by simp;omega) fun j ej=>Nat.le_trans h01 (hne j ej)).setCell (p:=⟨B,0,none⟩) h0B v').setCell (p:=⟨E,0,none⟩) h0E ve'
  · have e1:w1.heap[b]? =W.heap[b]? :=(hgrow.block b (by rw[World.size_alloc];omega) fun e=>by have:=hne b e.symm;omega).trans ((q0B W tmp).block b hb)
    have e2:(w1.setCell ⟨B,0,none⟩ v').heap[b]? =w1.heap[b]? :=(grownBy_setCell' w1 B v').block b (by omega) fun e=>hbB (by cases e;rfl)
    have e3:((w1.setCell ⟨B,0,none⟩ v').setCell ⟨E,0,none⟩ ve').heap[b]? =(w1.setCell ⟨B,0,none⟩ v').heap[b]? :=(grownBy_setCell' _ E ve').block b (by rw[World.size_setCell];omega) fun e=>hbE (by cases e;rfl)
    exact e3.trans (e2.trans e1)
theorem Tryz.infoI :(Tryz.prog.info? 3).map (fun i=>(i.zero,i.size,i.bytes))=some (some (.int .i64 0),1,8):=by kernel_rfl
theorem z8f (s :List UInt8) (a:Nat) (w:World) (hl:s.length≤1048576) (ha:a≤s.length):
    Calls Tryz.prog 153 #[.string ⟨s.toArray⟩,.int .i64 (a:Int)] w fun e w'=> ∃v,e= .returned (.tuple #[v,.int .i64 (q8o a (q0h s a):Int)])∧
      w'.ownsRow w.heap.size 3 1 v (q0h s a).length ((q0h s a).map fun x=>Value.int .i64 (x.1:Int))∧Ext w w':=by
  have hd1:decide ((s.length:Int)<(a:Int))=false:=by simp;omega
  refine (callsIn_wide (n:=3)).1 ?_
  refine callsIn_of_wp_marks Tryz.func153 rfl trivial ?_ rfl
  simp only[Tryz.ntmps153,List.size_toArray,List.length_cons,List.length_nil,Nat.reduceAdd,Nat.reduceSub,Array.replicate_succ,Array.replicate_zero,List.push_toArray,List.append_toArray,List.nil_append,List.cons_append]
  gi_wp2
  refine ⟨trivial,(z8l _ s a _).mono ?_⟩
  rintro e w' ⟨rfl,rfl⟩
  gi_wp2
  obtain ⟨W1,hW1⟩: ∃W1,((((w.alloc (Obj.cells #[Value.slice none 0 0] 55)).alloc (Obj.cells #[Value.int IntKind.i64 (a:Int)] 3)).alloc (Obj.cells #[Value.string {data:=s.toArray}] 9)).alloc (Obj.cells #[Value.int IntKind.i64 (a:Int)] 3))=W1:=⟨_,rfl⟩
  have hsz:W1.heap.size=w.heap.size+4:=by rw[←hW1];simp
  have b0:Boxed W1 w.heap.size 55 (.slice none 0 0):=by rw[←hW1];exact (((Boxed.new w _ _).alloc _).alloc _).alloc _
  have b1:Boxed W1 (w.heap.size+1) 3 (.int .i64 (a:Int)):=by
    rw[←hW1];have:=Boxed.new (w.alloc (Obj.cells #[Value.slice none 0 0] 55)) 3 (.int .i64 (a:Int));rw[World.size_alloc] at this;exact (this.alloc _).alloc _
  have b2:Boxed W1 (w.heap.size+1+1) 9 (.string ⟨s.toArray⟩):=by
    rw[←hW1];have:=Boxed.new ((w.alloc (Obj.cells #[Value.slice none 0 0] 55)).alloc (Obj.cells #[Value.int IntKind.i64 (a:Int)] 3)) 9 (.string ⟨s.toArray⟩);rw[World.size_alloc,World.size_alloc] at this;exact this.alloc _
  have b3:Boxed W1 (w.heap.size+1+1+1) 3 (.int .i64 (a:Int)):=by
    rw[←hW1];have:=Boxed.new (((w.alloc (Obj.cells #[Value.slice none 0 0] 55)).alloc (Obj.cells #[Value.int IntKind.i64 (a:Int)] 3)).alloc (Obj.cells #[Value.string {data:=s.toArray}] 9)) 3 (.int .i64 (a:Int));rw[World.size_alloc,World.size_alloc,World.size_alloc] at this;exact this
  have hx1:Ext w W1:=by rw[←hW1];exact (q6y w _ _ _).alloc _
  rw[hW1]
  clear hW1
  have hNl:(q0h s a).length≤s.length+1:=z0P s _ _
  have HNl:Hid ((q0h s a).length≤1048577):=Lib.hid (by omega)
  clear hNl
  obtain ⟨i0,hi,hz0,hz1,hz2⟩:=info_parts Tryz.infoI
  refine wpIn_rangeFunc_ownG (F:=Fence.wide) rfl (by omega) (gf:=230) (lb:=#[.pointer (some ⟨w.heap.size+1+1+1,0,none⟩),.pointer (some ⟨w.heap.size+1+1,0,none⟩)]) rfl trivial (enters_of Tryz.func230 (by kernel_rfl) rfl)
    (z4K (3-1) (by omega) (w.heap.size+1+1+1) (w.heap.size+1+1) s a (by omega) ha W1 b3 b2) y1d (fun W l o o' h=>y1V (by omega) W l o o' h) (Below.refl _ _) (fun _=>rfl)
    (fun pre W=>(∃v,Boxed W w.heap.size 55 v∧W.ownsRow W1.heap.size 3 1 v pre.length (pre.map fun x=>Value.int .i64 (x.1:Int))∧True)∧Boxed W (w.heap.size+1) 3 (.int .i64 (q8o a pre:Int))∧W1.heap.size≤W.heap.size∧Below w.heap.size w W)
    (fun _ _ _=>False)
    (OwnFrom.and (Own.from (holdsRow_own W1.heap.size w.heap.size 55 3 1 (fun pre:List (Nat×Nat)=>pre.length) (fun pre=>pre.map fun x=>Value.int .i64 (x.1:Int)) (fun _ _=>True)) _) (OwnFrom.and (Own.from (boxed_own (w.heap.size+1) 3 fun pre:List (Nat×Nat)=> .int .i64 (q8o a pre:Int)) _) (OwnFrom.and (fun _ _ _ _ hs hg _=>Nat.le_trans hs hg.size) (ownFrom_below (Nat.le_refl _) (by omega)))))
    (fun _ _ _ _ _ hs _ _=>hs)
    ⟨⟨_,b0,World.ownsRow_nil _ _ _ _,trivial⟩,b1,Nat.le_refl _,hx1⟩
    (fun x => {tmps:=#[.string ⟨s.toArray⟩,.int .i64 (a:Int),undef,undef,.pointer (some ⟨w.heap.size,0,none⟩),.pointer (some ⟨w.heap.size+1,0,none⟩),.int .i64 (x.1:Int),.int .i64 (x.2:Int),.int .i64 (a:Int),
              .bool (decide ((a:Int)<0)),.bool (decide ((a:Int)<0)),.int .i64 (a:Int),.string ⟨s.toArray⟩,.int .i64 (s.length:Int),.bool false,.bool (decide ((a:Int)<0)),.int .i64 (a:Int),.string ⟨s.toArray⟩,.int .i64 (a:Int),
              .func (.func 230) #[] #[.pointer (some ⟨w.heap.size+1+1+1,0,none⟩),.pointer (some ⟨w.heap.size+1+1,0,none⟩)],.int .i64 (x.1:Int),.int .i64 (x.2:Int),undef,undef,undef,undef,undef,undef,undef],defers:=[]}) ?assign ?body ?done ?stop
  case assign=>
    intro l x W K hK
    gi_wp2
    exact hK
  case body=>
    rintro l pre x W ⟨⟨v,hv,hrow,_⟩,hE,hBs,hB⟩ hlt
    have hc:=hv.cell
    have hpl:pre.length≤1048577:=by have:=HNl.out;omega
    have hbs2:w.heap.size+1+1<W.heap.size:=by omega
    clear hlt
    gi_wp2_with (gi_at_builtin;refine wpListIn_append_own _ rfl _ _ 55 rfl W1.heap.size 3 i0 (.int .i64 0) 1 8 Tryz.underlying55 hi hz0 hz1 hz2 rfl (by decide) _ _ _ rfl (hrow.alloc _) ⟨W.heap.size,0,none⟩ 1 1 [.int .i64 (x.1:Int)] rfl rfl (cell_one_new _ _ _) (by simp[Value.oneCell']) (by unfold maxLen;omega) (by omega) (by simp;omega) ?_;intro v' w1 hown' hgrow _;obtain ⟨g',cap',rfl⟩:=ownsRow_succ hown';obtain ⟨hv1,hE2,hv3,hE3,hr3,hk3,hb3,hp3⟩:=y2D (n₀:=w.heap.size) (ve':= .int .i64 (x.2:Int)) (b:=w.heap.size+1+1) hv (by decide) hE (by omega) hbs2 (by omega) (by omega) hrow hBs (by omega) (by omega) (by omega) (Nat.le_refl _) (by omega) hown' hgrow;have hc1:=hv1.cell;have hf1:=hv1.frozen;have hc2:=hE2.cell;have hf2:=hE2.frozen)
    exact ⟨hk3.from _,hp3,⟨⟨_,hv3,by simpa using hr3,trivial⟩,by rw[z4S];exact hE3,Nat.le_trans hBs hk3.size,hB.trans hb3⟩⟩
  case done=>
    rintro D ys W hD rfl ⟨⟨v,hv,hrow,_⟩,hE,hBs,hB⟩ hK
    have hc:=hv.cell
    have hc2:=hE.cell
    have hf:=hv.frozen
    have hf2:=hE.frozen
    obtain ⟨ao,cap,rfl⟩:=q0I hrow
    gi_wp2
    gi_region
    have e1:=hv.set (.slice ao (q0h s a).length cap)
    have e2:=(hE.other (B':=w.heap.size) (by omega) (.slice ao (q0h s a).length cap)).set (.int .i64 (q8o a (q0h s a):Int))
    have e3:=e1.other (B':=w.heap.size+1) (by omega) (.int .i64 (q8o a (q0h s a):Int))
    have e4:=q0q (q0q hrow (a:=⟨w.heap.size,0,none⟩) (.slice ao (q0h s a).length cap) (hv.not_row (by decide) hrow).symm) (a:=⟨w.heap.size+1,0,none⟩) (.int .i64 (q8o a (q0h s a):Int)) (fun e=>by have:=(q0W hrow _ e).1;simp at this;omega)
    have e5:=((KeepsOthers.setCell W ⟨w.heap.size,0,none⟩ (.slice ao (q0h s a).length cap)).trans (KeepsOthers.setCell _ ⟨w.heap.size+1,0,none⟩ (.int .i64 (q8o a (q0h s a):Int)))).same D _ hK rfl
    have e6:=(hB.setCell (p:=⟨w.heap.size,0,none⟩) (Nat.le_refl _) (.slice ao (q0h s a).length cap)).setCell (p:=⟨w.heap.size+1,0,none⟩) (by simp) (.int .i64 (q8o a (q0h s a):Int))
    generalize (W.setCell {block:=w.heap.size,off:=0} (.slice ao (q0h s a).length cap)).setCell {block:=w.heap.size+1,off:=0} (.int .i64 (q8o a (q0h s a):Int))=W2 at*
    have d2:Boxed W2.drew (w.heap.size+1) 3 (.int .i64 (q8o a (q0h s a):Int)):=e2
    have d3:Boxed W2.drew w.heap.size 55 (.slice ao (q0h s a).length cap):=e3
    have d4:W2.drew.ownsRow W1.heap.size 3 1 (.slice ao (q0h s a).length cap) (q0h s a).length ((q0h s a).map fun x=>Value.int .i64 (x.1:Int)):=z6i e4
    have d5:W2.drew.heap[D]? =some (Obj.deferred (some [])):=e5
    have d6:Below w.heap.size w W2.drew:=e6.drew
    clear e1 e2 e3 e4 e5 e6
    generalize W2.drew=W3 at*
    gi_wp2
    have e7:(W3.putObj D (.deferred none)).cell? ⟨w.heap.size,0,none⟩=some (.slice ao (q0h s a).length cap):=cell_kept d3.cell (grownBy_putObj' _ D (.deferred none)) (fun r e=>by cases e;exact ⟨_,d5,rfl⟩)
    have e8:(W3.putObj D (.deferred none)).cell? ⟨w.heap.size+1,0,none⟩=some (.int .i64 (q8o a (q0h s a):Int)):=cell_kept d2.cell (grownBy_putObj' _ D (.deferred none)) (fun r e=>by cases e;exact ⟨_,d5,rfl⟩)
    refine ⟨by simp,.inl ⟨_,_,rfl,run_takeDeferred d5,?_⟩⟩
    refine ⟨.tuple #[.slice ao (q0h s a).length cap,.int .i64 (q8o a (q0h s a):Int)],?_,_,rfl,q0t (ownsRow_putObj d4 _ d5 rfl) (by omega),d6.trans (belowK_b (w:=w) (Nat.le_refl _) W3 D _ _ (by omega) d5 rfl rfl)⟩
    rw[q8j rfl]
    go_simp
  case stop=>
    rintro D c pre W _ _ h _
    exact h.elim
end Go.Proofs.YtjjfiejoeelndaaGreatDoor
namespace Go.Proofs.YtjjfiejoeelndaaGreatDoor
open Go.RowKit
set_option maxRecDepth 100000
set_option linter.unusedVariables false
set_option maxHeartbeats 1600000
theorem z8G (s:List UInt8) (n:Nat) (w:World) (hn:n<200) (hl:s.length≤1048576) (hp:z6S s (q2P n)=true):
    Calls Tryz.prog 98 #[.string ⟨s.toArray⟩,.int .i64 (n:Int)] w fun e w'=> ∃v,e= .returned (.tuple #[v,.int .i64 (q8o 12 (q0h s 12):Int),.bool true])∧
      w'.ownsRow w.heap.size 3 1 v (q0h s 12).length ((q0h s 12).map fun x=>Value.int .i64 (x.1:Int))∧Ext w w':=by
  have hHl:=q2j n
  have HC:=Lib.hid (fun W=>z1v n W hn)
  have hs12:12≤s.length:=by
    unfold z6S at hp
    simp only[Bool.and_eq_true,decide_eq_true_eq] at hp
    omega
  generalize q2P n=H at*
  have HP:=Lib.hid (fun W=>z1U s H W (by omega) (by omega))
  rw[hp] at HP
  have HW:=Lib.hid (fun W=>z8f s 12 W hl hs12)
  clear hp
  have hne:(H==[])=false:=by cases H with|nil=>cases hHl|cons=>rfl
  have hnz:¬H=[]:=by simpa using hne
  go_enter Tryz.func98,Tryz.ntmps98
  go_wp2_with fail
  refine (HC.out _).mono ?_
  rintro e w1 ⟨rfl,hb⟩
  have HB:=Lib.hid hb;clear hb
  go_wp2_with fail
  refine (HP.out _).mono ?_
  rintro e w2 ⟨rfl,rfl⟩
  go_wp2_with fail
  refine (HW.out _).mono ?_
  rintro e w3 ⟨v,rfl,hr,hb⟩
  have HR:=Lib.hid (q0t hr HB.out.size)
  have HB3:=Lib.hid (HB.out.trans hb)
  obtain ⟨ao,cap,rfl⟩:=q0I hr
  clear hr hb
  go_wp2_with fail
  go_ret3
  exact ⟨_,rfl,HR.out,HB3.out⟩
end Go.Proofs.YtjjfiejoeelndaaGreatDoor
