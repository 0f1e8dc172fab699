/- How an index lies in memory. An index with its disk, made since a world, beside other blocks. Walks: an entry is added to an index; how many wait; its manifest. -/
import Derived.Test.YtjjfiejoeelndaaGreatDoorG35Bs
import Derived.Test.YtjjfiejoeelndaaGreatDoorG38Bs
import Derived.Test.YtjjfiejoeelndaaGreatDoorG26Bs
import Derived.Test.YtjjfiejoeelndaaGreatDoorG36Bs
import Derived.Test.YtjjfiejoeelndaaGreatDoorG11Bs
import Derived.StillTailTactics
set_option linter.unusedVariables false
set_option linter.unusedSimpArgs false
namespace Go.Proofs.YtjjfiejoeelndaaGreatDoor
open Go.RowKit Go.Maps
structure Man where
  nx:Int
  ck:Int
  sd:Int
  L:List (List Int)
def Man.ok (m:Man):Prop:=q0a m.nx m.ck m.L=true∧0≤m.sd∧m.sd<18446744073709551616
structure TE where
  b:Nat
  L:List En
  may:Int→Bool
structure IxSt where
  m:Man
  rate:Nat
  w:List En
  t:Int→Option TE
  c:Nat
def InX (gx gm gt i:Nat):Prop:=i=gx∨i=gm∨i=gt
def y0o (o:Option TE):DataW Unit:=match o with|some e=> .lit (.int .i64 e.b)|none=> .nil
structure IxI (w:World) (gx g gm gt:Nat) (st:IxSt) (v:Value) (vs:List Value) (vm:Value) (D:DataW Unit) (nn:Nat) (Y:Nat→Prop):Prop where
  blk:Blk w gx 142 #[.pointer (some ⟨g,0,none⟩),.int .i64 st.m.nx,.int .i64 st.m.ck,.int .u64 st.m.sd,v,.float .f64 st.rate,.pointer (some ⟨gm,0,none⟩),.map (some gt)]
  mem:MemI w gm vm st.w
  lev:OGr w 0 55 3 v vs st.m.L
  map:w.ownsMap Tryz.prog 3 q6J gt nn D
  cnt:nn≤st.c
  look: ∀n,D.atKey (.int .i64 n) .nil=y0o (st.t n)
  tab: ∀n e,st.t n=some e→Tb w e.b g n e.L e.may Y
  inY: ∀i,(v.ownBlock=some i∨(∃q,(vs.getD q (.slice none 0 0)).ownBlock=some i)∨vm.ownBlock=some i)→Y i
  lt: ∀i,Y i→i<w.heap.size
  apart: ∀i,Y i→¬InX gx gm gt i
  ne:gx≠gm∧gx≠gt∧gm≠gt
structure y1L (st:IxSt):Prop where
  man:st.m.ok
  mem:okM st.w
  c:st.c≤1000000
def IxSt.full (st:IxSt):Prop:= ∀n∈st.m.L.flatten,∃e,st.t n=some e
def IxY (w:World) (gx g gm gt:Nat) (st:IxSt) (Y:Nat→Prop):Prop:=y1L st∧ ∃v vs vm D nn,IxI w gx g gm gt st v vs vm D nn Y
section
variable {w w':World} {gx g gm gt:Nat} {st:IxSt} {v:Value} {vs:List Value} {vm:Value} {D:DataW Unit} {nn:Nat} {Y Y' F:Nat→Prop}
theorem IxI.same (h:IxI w gx g gm gt st v vs vm D nn Y) (hs:w.heap.size≤w'.heap.size) (k: ∀i,InX gx gm gt i∨Y i→w'.heap[i]? =w.heap[i]?):IxI w' gx g gm gt st v vs vm D nn Y:=
  ⟨h.blk.same (k _ (.inl (.inl rfl))),h.mem.same fun i hi=>hi.elim (fun e=>k i (.inl (.inr (.inl e)))) fun e=>k i (.inr (h.inY i (.inr (.inr e)))),
    q4S h.lev fun i hi=>k i (.inr (h.inY i (hi.elim .inl fun e=> .inr (.inl e)))),q1x h.map (k _ (.inl (.inr (.inr rfl)))),h.cnt,h.look,
    fun n e hn=>(h.tab n e hn).same hs fun i hi=>k i (.inr hi),h.inY,fun i hi=>Nat.lt_of_lt_of_le (h.lt i hi) hs,h.apart,h.ne⟩
theorem IxI.xlt (h:IxI w gx g gm gt st v vs vm D nn Y): ∀i,InX gx gm gt i→i<w.heap.size:=fun i hi=>by
  rcases hi with rfl|rfl|rfl
  · exact h.blk.lt
  · exact h.mem.blk.lt
  · exact h.map.lt
theorem IxI.ext (h:IxI w gx g gm gt st v vs vm D nn Y) (k:Ext w w'):IxI w' gx g gm gt st v vs vm D nn Y:=
  h.same k.size fun i hi=>k.block i (hi.elim (h.xlt i) (h.lt i))
theorem IxI.off (h:IxI w gx g gm gt st v vs vm D nn Y) (k:OffS F w w') (hd: ∀i,InX gx gm gt i∨Y i→¬F i):IxI w' gx g gm gt st v vs vm D nn Y:=
  h.same k.size fun i hi=>k.block i (hi.elim (h.xlt i) (h.lt i)) (hd i hi)
theorem IxI.memTurn (h:IxI w gx g gm gt st v vs vm D nn Y) {vm':Value} {L':List En} (hm:MemI w' gm vm' L') (off:OffS (fun i=>i=gm) w w') (hv:vm'=vm∨ ∀i,vm'.ownBlock=some i→w.heap.size≤i):
    IxI w' gx g gm gt {st with w:=L'} v vs vm' D nn (fun i=>Y i∨vm'.ownBlock=some i):=by
  have hY: ∀i,Y i→w'.heap[i]? =w.heap[i]? :=fun i hi=>off.block i (h.lt i hi) fun e=>h.apart i hi (.inr (.inl e))
  have hnew: ∀i,vm'.ownBlock=some i→Y i∨w.heap.size≤i:=fun i hi=>by
    rcases hv with e|e
    · exact .inl (h.inY i (.inr (.inr (e▸hi))))
    · exact .inr (e i hi)
  have hlt: ∀i,(Y i∨vm'.ownBlock=some i)→i<w'.heap.size:=fun i hi=>by
    rcases hi with hi|hi
    · exact Nat.lt_of_lt_of_le (h.lt i hi) off.size
    · exact hm.lt (.inr hi)
  have hap : ∀i,(Y i∨vm'.ownBlock=some i)→¬InX gx gm gt i:=fun i hi=>by
    rcases hi with hi|hi
    · exact h.apart i hi
    · rcases hnew i hi with h1|h1
      · exact h.apart i h1
      · intro hx
        have:i<w.heap.size:=by
          rcases hx with rfl|rfl|rfl
          · exact h.blk.lt
          · exact h.mem.blk.lt
          · exact h.map.lt
        omega
  exact ⟨h.blk.same (off.block _ h.blk.lt h.ne.1),hm,q4S h.lev fun i hi=>hY i (h.inY i (hi.elim .inl fun e=> .inr (.inl e))),q1x h.map (off.block _ h.map.lt fun e=>h.ne.2.2 e.symm),h.cnt,h.look,
    fun n e hn=>((h.tab n e hn).same off.size hY).mono (fun i hi=> .inl hi) hlt,
    fun i hi=>by
      rcases hi with hi|hi|hi
      · exact .inl (h.inY i (.inl hi))
      · exact .inl (h.inY i (.inr (.inl hi)))
      · exact .inr hi,hlt,hap,h.ne⟩
theorem IxI.c1 (h:IxI w gx g gm gt st v vs vm D nn Y):w.cell? ⟨gx,1,none⟩=some (.int .i64 st.m.nx):=h.blk.cell 1
theorem IxI.c2 (h:IxI w gx g gm gt st v vs vm D nn Y):w.cell? ⟨gx,2,none⟩=some (.int .i64 st.m.ck):=h.blk.cell 2
theorem IxI.c3 (h:IxI w gx g gm gt st v vs vm D nn Y):w.cell? ⟨gx,3,none⟩=some (.int .u64 st.m.sd):=h.blk.cell 3
theorem IxI.c4 (h:IxI w gx g gm gt st v vs vm D nn Y):w.cell? ⟨gx,4,none⟩=some v:=h.blk.cell 4
theorem IxI.c6 (h:IxI w gx g gm gt st v vs vm D nn Y):w.cell? ⟨gx,6,none⟩=some (.pointer (some ⟨gm,0,none⟩)):=h.blk.cell 6
theorem IxI.c7 (h:IxI w gx g gm gt st v vs vm D nn Y):w.cell? ⟨gx,7,none⟩=some (.map (some gt)):=h.blk.cell 7
theorem y1C (w:World):(zeroValue 146).run Tryz.prog w= .ok (.pointer none) w:=by kernel_rfl
theorem IxI.at (h:IxI w gx g gm gt st v vs vm D nn Y) {n:Int} (hw:(Lit.int .i64 n).wf=true) {e:TE} (hn:st.t n=some e):
    (Instr.lookup 140 (.map (some gt)) (.int .i64 n) false).run Tryz.prog w= .ok (.pointer (some ⟨e.b,0,none⟩)) w:=by
  obtain ⟨u,ps,h1,h2⟩:=h.map.lookup Tryz.keyInt Tryz.underlying140 (y1C w) q8g (keyOf_int_mk Tryz.underlying3 hw)
  rw[h.look,hn] at h2
  rw[h1,q8h h2]
theorem z6J {n:Int} {e:TE} (hl: ∀n,D.atKey (.int .i64 n) .nil=y0o (st.t n)) (hm:IsMap D) (x:Int):
    (D.put (.int .i64 n) (.lit (.int .i64 e.b))).atKey (.int .i64 x) .nil=y0o (if x=n then some e else st.t x):=by
  by_cases hx:x=n
  · subst hx
    rw[if_pos rfl,atKey_put_same hm (k:= .int .i64 x) (show WideAt.IsKeyLit (.int .i64 x) from trivial)]
    rfl
  · rw[if_neg hx,atKey_put_other (by intro h;injection h with _ h;exact hx h),hl]
end
end Go.Proofs.YtjjfiejoeelndaaGreatDoor
namespace Go.Proofs.YtjjfiejoeelndaaGreatDoor
open Go.RowKit
structure IxD (w:World) (g:Nat) (F:Nat→Prop) (σ:DM) (gx gm gt:Nat) (st:IxSt) (Y:Nat→Prop):Prop where
  d:Dk w g F σ
  x:IxY w gx g gm gt st Y
  ap: ∀i,F i→¬InX gx gm gt i∧¬Y i
structure IxF (wb w:World) (g:Nat) (F:Nat→Prop) (σ:DM) (gx gm gt:Nat) (st:IxSt) (Y K:Nat→Prop):Prop where
  i:IxD w g F σ gx gm gt st Y
  bF: ∀i,F i→wb.heap.size≤i
  bX: ∀i,InX gx gm gt i→wb.heap.size≤i
  bY: ∀i,Y i→wb.heap.size≤i
  ext:Ext wb w
  k: ∀i,K i→i<w.heap.size∧¬F i∧¬InX gx gm gt i∧¬Y i
def IxK (wb w:World) (g gx:Nat) (st:IxSt) (σ:DM) (K:Nat→Prop):Prop:= ∃F gm gt Y,IxF wb w g F σ gx gm gt st Y K
section
variable {wb w w1 w2:World} {g gx gm gt:Nat} {st st1:IxSt} {F Y Y1 K K':Nat→Prop} {σ σ1:DM}
theorem IxY.xlt (h:IxY w gx g gm gt st Y): ∀i,InX gx gm gt i→i<w.heap.size:=by
  obtain ⟨_,v,vs,vm,D,nn,h1⟩:=h
  exact h1.xlt
theorem IxY.ylt (h:IxY w gx g gm gt st Y): ∀i,Y i→i<w.heap.size:=by
  obtain ⟨_,v,vs,vm,D,nn,h1⟩:=h
  exact h1.lt
theorem IxY.ext (h:IxY w gx g gm gt st Y) (k:Ext w w1):IxY w1 gx g gm gt st Y:=by
  obtain ⟨h0,v,vs,vm,D,nn,h1⟩:=h
  exact ⟨h0,v,vs,vm,D,nn,h1.ext k⟩
theorem IxY.off (h:IxY w gx g gm gt st Y) (k:OffS F w w1) (hd: ∀i,InX gx gm gt i∨Y i→¬F i):IxY w1 gx g gm gt st Y:=by
  obtain ⟨h0,v,vs,vm,D,nn,h1⟩:=h
  exact ⟨h0,v,vs,vm,D,nn,h1.off k hd⟩
theorem IxY.same (h:IxY w gx g gm gt st Y) (hs:w.heap.size≤w1.heap.size) (k: ∀i,InX gx gm gt i∨Y i→w1.heap[i]? =w.heap[i]?):IxY w1 gx g gm gt st Y:=by
  obtain ⟨h0,v,vs,vm,D,nn,h1⟩:=h
  exact ⟨h0,v,vs,vm,D,nn,h1.same hs k⟩
theorem IxF.grow (h:IxF wb w g F σ gx gm gt st Y K) (k:Ext w w1):IxF wb w1 g F σ gx gm gt st Y K:=
  ⟨⟨h.i.d.ext k,h.i.x.ext k,h.i.ap⟩,h.bF,h.bX,h.bY,h.ext.trans k,fun i hi=>⟨Nat.lt_of_lt_of_le (h.k i hi).1 k.size,(h.k i hi).2⟩⟩
theorem IxF.kExt (h:IxF wb w g F σ gx gm gt st Y K) (k:Ext w w1):Stay K w w1:=fun i hi=>k.block i (h.k i hi).1
theorem IxF.notF (h:IxF wb w g F σ gx gm gt st Y K): ∀i,InX gx gm gt i∨Y i→¬F i:=fun i hi hf=>hi.elim (h.i.ap i hf).1 (h.i.ap i hf).2
theorem IxF.disk (h:IxF wb w g F σ gx gm gt st Y K) (k:DkS w g F σ1 w1):IxF wb w1 g (Gr F w w1) σ1 gx gm gt st Y K∧Stay K w w1:=by
  have hs:=k.off.size
  refine ⟨⟨⟨k.dk,h.i.x.off k.off h.notF,fun i hi=>?_⟩,fun i hi=>Gr.ge h.bF h.ext.size hi,h.bX,h.bY,k.off.ext h.ext h.bF,fun i hi=>?_⟩,fun i hi=>?_⟩
  · rcases hi with hi|hi
    · exact h.i.ap i hi
    · exact ⟨fun hx=>by have:=h.i.x.xlt i hx;omega,fun hy=>by have:=h.i.x.ylt i hy;omega⟩
  · obtain ⟨a,b,c,d⟩:=h.k i hi
    exact ⟨by omega,Gr.not b a,c,d⟩
  · obtain ⟨a,b,c,d⟩:=h.k i hi
    exact k.off.block i a b
theorem IxF.row (h:IxF wb w g F σ gx gm gt st Y K) {v:Value} {acc:List En} (k:RowV w g F σ1 w1 v acc):(∃F',IxF wb w1 g F' σ1 gx gm gt st Y (fun i=>K i∨v.ownBlock=some i))∧Stay K w w1:=by
  obtain ⟨F',d1,d2,d3⟩:=k.dk
  have hs:=k.off.size
  refine ⟨⟨F',⟨d1,h.i.x.off k.off h.notF,fun i hi=>?_⟩,fun i hi=>Gr.ge h.bF h.ext.size (d2 i hi),h.bX,h.bY,k.off.ext h.ext h.bF,fun i hi=>?_⟩,fun i hi=>?_⟩
  · rcases d2 i hi with hi|hi
    · exact h.i.ap i hi
    · exact ⟨fun hx=>by have:=h.i.x.xlt i hx;omega,fun hy=>by have:=h.i.x.ylt i hy;omega⟩
  · rcases hi with hi|hi
    · obtain ⟨a,b,c,d⟩:=h.k i hi
      exact ⟨by omega,fun hf=>Gr.not b a (d2 i hf),c,d⟩
    · have:=q0Z k.row i hi
      exact ⟨this.2,d3 i hi,fun hx=>by have:=h.i.x.xlt i hx;omega,fun hy=>by have:=h.i.x.ylt i hy;omega⟩
  · obtain ⟨a,b,c,d⟩:=h.k i hi
    exact k.off.block i a b
theorem IxF.turn (h:IxF wb w g F σ gx gm gt st Y K) (hx:IxY w1 gx g gm gt st1 Y1) (off:OffS (InX gx gm gt) w w1) (hY: ∀i,Y1 i→Y i∨w.heap.size≤i):IxF wb w1 g F σ gx gm gt st1 Y1 K∧Stay K w w1:=by
  have hs:=off.size
  refine ⟨⟨⟨h.i.d.held hs fun i hi=>off.block i (h.i.d.Flt i hi) (h.i.ap i hi).1,hx,fun i hi=>⟨(h.i.ap i hi).1,fun hy=>?_⟩⟩,h.bF,h.bX,fun i hi=>?_,off.ext h.ext h.bX,fun i hi=>?_⟩,fun i hi=>?_⟩
  · rcases hY i hy with h1|h1
    · exact (h.i.ap i hi).2 h1
    · have:=h.i.d.Flt i hi;omega
  · rcases hY i hi with h1|h1
    · exact h.bY i h1
    · have:=h.ext.size;omega
  · obtain ⟨a,b,c,d⟩:=h.k i hi
    refine ⟨by omega,b,c,fun hy=>?_⟩
    rcases hY i hy with h1|h1
    · exact d h1
    · omega
  · obtain ⟨a,b,c,d⟩:=h.k i hi
    exact off.block i a c
theorem IxF.turnV {K2:Nat→Prop} (h:IxF wb w g F σ gx gm gt st Y K2) (hx:IxY w1 gx g gm gt st1 Y1) (off:OffS (InX gx gm gt) w w1) (hY: ∀i,Y1 i→wb.heap.size≤i∧¬F i) (hK: ∀i,K i→K2 i∧¬Y1 i):IxF wb w1 g F σ gx gm gt st1 Y1 K∧Stay K w w1:=by
  have hs:=off.size
  refine ⟨⟨⟨h.i.d.held hs fun i hi=>off.block i (h.i.d.Flt i hi) (h.i.ap i hi).1,hx,fun i hi=>⟨(h.i.ap i hi).1,fun hy=>(hY i hy).2 hi⟩⟩,h.bF,h.bX,fun i hi=>(hY i hi).1,off.ext h.ext h.bX,fun i hi=>?_⟩,fun i hi=>?_⟩
  · obtain ⟨k2,hny⟩:=hK i hi
    obtain ⟨a,b,c,d⟩:=h.k i k2
    exact ⟨by omega,b,c,hny⟩
  · obtain ⟨k2,hny⟩:=hK i hi
    obtain ⟨a,b,c,d⟩:=h.k i k2
    exact off.block i a c
theorem IxF.more (h:IxF wb w g F σ gx gm gt st Y K) (k:Ext w w1) (hK: ∀i,K' i→K i∨(w.heap.size≤i∧i<w1.heap.size)):IxF wb w1 g F σ gx gm gt st Y K':=by
  have h2:=h.grow k
  refine ⟨h2.i,h2.bF,h2.bX,h2.bY,h2.ext,fun i hi=>?_⟩
  rcases hK i hi with h3|⟨h3,h4⟩
  · exact h2.k i h3
  · exact ⟨h4,fun hf=>by have:=h.i.d.Flt i hf;omega,fun hx=>by have:=h.i.x.xlt i hx;omega,fun hy=>by have:=h.i.x.ylt i hy;omega⟩
theorem IxF.side (h:IxF wb w g F σ gx gm gt st Y K) (hs:w.heap.size≤w1.heap.size) (hx:Ext wb w1) (k: ∀i,i<w.heap.size→¬K i→w1.heap[i]? =w.heap[i]?):IxF wb w1 g F σ gx gm gt st Y K:=by
  refine ⟨⟨h.i.d.held hs fun i hi=>k i (h.i.d.Flt i hi) fun hk=>(h.k i hk).2.1 hi,h.i.x.same hs fun i hi=>?_,h.i.ap⟩,h.bF,h.bX,h.bY,hx,fun i hi=>⟨Nat.lt_of_lt_of_le (h.k i hi).1 hs,(h.k i hi).2⟩⟩
  rcases hi with hi|hi
  · exact k i (h.i.x.xlt i hi) fun hk=>(h.k i hk).2.2.1 hi
  · exact k i (h.i.x.ylt i hi) fun hk=>(h.k i hk).2.2.2 hi
theorem IxF.sideM (h:IxF wb w g F σ gx gm gt st Y K) (hs:w.heap.size≤w1.heap.size) (hx:Ext wb w1) (k: ∀i,i<w.heap.size→¬K i→w1.heap[i]? =w.heap[i]?) (hK: ∀i,K' i→K i∨(w.heap.size≤i∧i<w1.heap.size)):IxF wb w1 g F σ gx gm gt st Y K':=by
  have h1:=h.side hs hx k
  refine ⟨h1.i,h1.bF,h1.bX,h1.bY,hx,fun i hi=>?_⟩
  rcases hK i hi with h2|⟨h2,h3⟩
  · exact h1.k i h2
  · exact ⟨h3,fun hf=>by have:=h.i.d.Flt i hf;omega,fun hx=>by have:=h.i.x.xlt i hx;omega,fun hy=>by have:=h.i.x.ylt i hy;omega⟩
theorem IxF.beside (h:IxF wb w g F σ gx gm gt st Y K) (k: ∀i,K' i→K i):IxF wb w g F σ gx gm gt st Y K':=⟨h.i,h.bF,h.bX,h.bY,h.ext,fun i hi=>h.k i (k i hi)⟩
theorem IxF.tb (h:IxF wb w g F σ gx gm gt st Y K) {n:Int} {e:TE} (he:st.t n=some e):TbD w e.b g n e.L e.may Y F σ:=by
  obtain ⟨_,v,vs,vm,D,nn,h1⟩:=h.i.x
  exact ⟨h.i.d,h1.tab n e he,fun i hy hf=>(h.i.ap i hf).2 hy⟩
theorem IxK.base (h:IxK wb w g gx st σ K):Ext wb w:=by obtain ⟨F,gm,gt,Y,h1⟩:=h;exact h1.ext
theorem IxK.grow (h:IxK wb w g gx st σ K) (k:Ext w w1):IxK wb w1 g gx st σ K:=by obtain ⟨F,gm,gt,Y,h1⟩:=h;exact ⟨_,_,_,_,h1.grow k⟩
theorem IxK.kExt (h:IxK wb w g gx st σ K) (k:Ext w w1):Stay K w w1:=by obtain ⟨F,gm,gt,Y,h1⟩:=h;exact h1.kExt k
theorem IxK.more (h:IxK wb w g gx st σ K) (k:Ext w w1) (hK: ∀i,K' i→K i∨(w.heap.size≤i∧i<w1.heap.size)):IxK wb w1 g gx st σ K':=by obtain ⟨F,gm,gt,Y,h1⟩:=h;exact ⟨_,_,_,_,h1.more k hK⟩
theorem IxK.sideM (h:IxK wb w g gx st σ K) (hs:w.heap.size≤w1.heap.size) (hx:Ext wb w1) (k: ∀i,i<w.heap.size→¬K i→w1.heap[i]? =w.heap[i]?) (hK: ∀i,K' i→K i∨(w.heap.size≤i∧i<w1.heap.size)):IxK wb w1 g gx st σ K':=by obtain ⟨F,gm,gt,Y,h1⟩:=h;exact ⟨_,_,_,_,h1.sideM hs hx k hK⟩
theorem IxK.beside (h:IxK wb w g gx st σ K) (k: ∀i,K' i→K i):IxK wb w g gx st σ K':=by obtain ⟨F,gm,gt,Y,h1⟩:=h;exact ⟨_,_,_,_,h1.beside k⟩
theorem IxK.disk {f:FuncId} {P:Program} {args:Array Value} {R:Ending→Prop} (h:IxK wb w g gx st σ K) (hc: ∀F,Dk w g F σ→Calls P f args w fun e w'=>R e∧DkS w g F σ1 w'):
    Calls P f args w fun e w'=>R e∧IxK wb w' g gx st σ1 K∧Stay K w w':=by
  obtain ⟨F,gm,gt,Y,h1⟩:=h
  refine (hc F h1.i.d).mono ?_
  rintro e w' ⟨he,hd⟩
  have:=h1.disk hd
  exact ⟨he,⟨_,_,_,_,this.1⟩,this.2⟩
end
end Go.Proofs.YtjjfiejoeelndaaGreatDoor
namespace Go.Proofs.YtjjfiejoeelndaaGreatDoor
open Go.RowKit
set_option maxRecDepth 100000
set_option linter.unusedVariables false
set_option maxHeartbeats 6400000
section
variable {wb w w1 w2:World} {g gx gm gt:Nat} {st st1:IxSt} {F Y Y1 K K':Nat→Prop} {σ σ1:DM}
theorem q8P (h:IxY w gx g gm gt st Y):Calls Tryz.prog 70 #[.pointer (some ⟨gx,0,none⟩)] w fun e w'=>e= .returned (.bool false)∧w=w':=by
  obtain ⟨_,v,vs,vm,D,nn,h1⟩:=h
  have c6:=h1.c6
  clear h1
  go_enter Tryz.func70,Tryz.ntmps70
  go_wp2_with fail
  go_ret
  exact ⟨rfl,rfl⟩
theorem IxI.grid {v:Value} {vs:List Value} {vm:Value} {D:DataW Unit} {nn:Nat} (h:IxI w gx g gm gt st v vs vm D nn Y): ∃ao c,v= .slice ao st.m.L.length c∧Grid w ao st.m.L.length c st.m.L:=h.lev.grid
theorem Man.bounds {m:Man} (h:m.ok):m.L.length≤5∧m.L.flatten.length≤40∧(∀i,(m.L.getD i []).length≤40)∧(∀x∈m.L.flatten,(Lit.int .i64 x).wf=true∧0≤x∧x<m.nx)∧0≤m.nx∧m.nx≤1000000∧m.L.flatten.Nodup∧0≤m.ck∧m.ck≤2147483647:=by
  have hv:=h.1
  unfold q0a q1Y at hv
  simp only[Bool.and_eq_true,decide_eq_true_eq,List.all_eq_true] at hv
  obtain ⟨⟨⟨h1,h2,h3,h4⟩,h5,h6,h7,h8⟩,h9⟩:=hv
  refine ⟨h5,h6,fun i=>?_,fun x hx=>⟨?_,h7 x hx,h9 x hx⟩,h1,h2,h8,h3,h4⟩
  · rcases Nat.lt_or_ge i m.L.length with hi|hi
    · have:(m.L.getD i [])∈m.L:=by rw[List.getD_eq_getElem?_getD,List.getElem?_eq_getElem hi];exact List.getElem_mem hi
      have:=(List.sublist_flatten_of_mem this).length_le
      omega
    · rw[List.getD_eq_getElem?_getD,List.getElem?_eq_none hi];simp
  · have:=h7 x hx;have:=h9 x hx
    exact WalkArith.wf_i64 (by omega)
theorem q6a (h:IxY w gx g gm gt st Y):Calls Tryz.prog 63 #[.pointer (some ⟨gx,0,none⟩)] w fun e w'=>
    ∃v vs,e= .returned (.agg #[.int .i64 st.m.nx,.int .i64 st.m.ck,.int .u64 st.m.sd,v])∧OGr w' w.heap.size 55 3 v vs st.m.L∧Ext w w':=by
  have hb:=Man.bounds h.1.man
  have HN:=Lib.hid (fun W (k:Ext w W)=>q8P (h.ext k))
  obtain ⟨hok,v,vs,vm,D,nn,h1⟩:=h
  obtain ⟨ao,cp,rfl,hg⟩:=h1.grid
  have hx0:=q0B w (.cells #[.int .i64 0,.int .i64 0,.int .u64 0,.slice none 0 0] 81)
  have HBk:=Lib.hid (Blk.new w 81 #[.int .i64 0,.int .i64 0,.int .u64 0,.slice none 0 0])
  have h2:=h1.ext hx0
  have c1:=h2.c1;have c2:=h2.c2;have c3:=h2.c3;have c4:=h2.c4
  have HC:=Lib.hid (fun W (k:Ext w W)=>z2H st.m.nx st.m.ck st.m.sd ao st.m.L.length cp st.m.L W (hg.ext k) (fun i=>by have:=hb.2.2.1 i;omega) (by omega))
  have HX0:=Lib.hid hx0
  clear h1 h2 hg hok hb hx0
  go_enter Tryz.func63,Tryz.ntmps63
  go_wp2_with fail
  refine (HN.out _ HX0.out).mono ?_
  rintro e w1 ⟨rfl,rfl⟩
  go_wp2_with fail
  refine (HC.out _ HX0.out).mono ?_
  rintro e w1 ⟨v,vs2,rfl,hog,hb⟩
  obtain ⟨av,kv,rfl⟩:=hog.own.slice
  have HOG:=Lib.hid hog;have HB:=Lib.hid hb
  have hbk:=HBk.out.ext hb
  have k0:w1.cell? ⟨w.heap.size,0,none⟩=some (.int .i64 0):=hbk.cell 0
  have k1:w1.cell? ⟨w.heap.size,1,none⟩=some (.int .i64 0):=hbk.cell 1
  have k2:w1.cell? ⟨w.heap.size,2,none⟩=some (.int .u64 0):=hbk.cell 2
  have k3:w1.cell? ⟨w.heap.size,3,none⟩=some (.slice none 0 0):=hbk.cell 3
  have f0:w1.frozen? ⟨w.heap.size,0,none⟩=false:=hbk.free 0
  have f1:w1.frozen? ⟨w.heap.size,1,none⟩=false:=hbk.free 1
  have f2:w1.frozen? ⟨w.heap.size,2,none⟩=false:=hbk.free 2
  have f3:w1.frozen? ⟨w.heap.size,3,none⟩=false:=hbk.free 3
  have HF:Hid (∀W,OffS (fun i=>i=w.heap.size) w1 W→OGr W w.heap.size 55 3 (.slice av st.m.L.length kv) vs2 st.m.L∧Ext w W):=Lib.hid fun W hW=>by
    rw[World.size_alloc] at hog
    refine ⟨q4S (q8d hog (Nat.le_succ _)) fun i hi=>hW.block i (q9a hog i hi).2 fun e=>?_,hW.ext (HX0.out.trans hb) fun i hi=>by rw[hi];exact Nat.le_refl _⟩
    have:=(q9a hog i hi).1
    omega
  clear hog hb hbk
  go_wp2_with fail
  ((try simp only[Exit.inBlock,Exit.then]);refine bodyPost_ret (v:= .agg #[.int .i64 st.m.nx,.int .i64 st.m.ck,.int .u64 st.m.sd,.slice av st.m.L.length kv]) (by rw[q0m rfl];go_simp) rfl ?_)
  have hf:=HF.out _ ((((OffS.set (F:=fun i=>i=w.heap.size) w1 rfl 0 (.int .i64 st.m.nx)).trans (OffS.set (F:=fun i=>i=w.heap.size) _ rfl 1 (.int .i64 st.m.ck))).trans (OffS.set (F:=fun i=>i=w.heap.size) _ rfl 2 (.int .u64 st.m.sd))).trans (OffS.set (F:=fun i=>i=w.heap.size) _ rfl 3 (.slice av st.m.L.length kv)))
  exact ⟨_,vs2,rfl,hf.1,hf.2⟩
theorem y0e (h:IxK wb w g gx st σ K) {e:En} (he:q3B e=true) (hl:st.w.length<50000):
    Calls Tryz.prog 47 #[.pointer (some ⟨gx,0,none⟩),enV e] w fun r w'=>r= .returned (.int .i64 0)∧IxK wb w' g gx {st with w:=q3S e st.w} σ K∧Stay K w w':=by
  obtain ⟨F,gm,gt,Y,h1⟩:=h
  have HF:=Lib.hid h1
  obtain ⟨e1,e2,e3⟩:=e
  show Calls _ _ #[_,.agg #[.int .u64 e1,.int .i64 e2,.int .i64 e3]] _ _
  have hx1:=q0B w (.cells #[.int .u64 e1,.int .i64 e2,.int .i64 e3] 108)
  have HX1:=Lib.hid hx1
  have HN:=Lib.hid (q8P (h1.i.x.ext hx1))
  have hbk:=Blk.new w 108 #[.int .u64 e1,.int .i64 e2,.int .i64 e3]
  have k0:(w.alloc (.cells #[.int .u64 e1,.int .i64 e2,.int .i64 e3] 108)).cell? ⟨w.heap.size,0,none⟩=some (.int .u64 e1):=hbk.cell 0
  have k1:(w.alloc (.cells #[.int .u64 e1,.int .i64 e2,.int .i64 e3] 108)).cell? ⟨w.heap.size,1,none⟩=some (.int .i64 e2):=hbk.cell 1
  have k2:(w.alloc (.cells #[.int .u64 e1,.int .i64 e2,.int .i64 e3] 108)).cell? ⟨w.heap.size,2,none⟩=some (.int .i64 e3):=hbk.cell 2
  have HPe:Hid (∃b0 B,∀W,Calls Tryz.prog 88 #[.agg #[.int .u64 e1,.int .i64 e2,.int .i64 e3]] W fun r w'=>r= .returned (.string ⟨(b0::B:List UInt8).toArray⟩)∧Ext W w'):=Lib.hid (by
    obtain ⟨b0,B,hB⟩: ∃b0 B,q3s (e1,e2,e3)=b0::B:=by
      have:=q2v (e1,e2,e3)
      cases h:q3s (e1,e2,e3) with
      |nil=>rw[h] at this;cases this
      |cons a l=>exact ⟨a,l,rfl⟩
    exact ⟨b0,B,fun W=>hB▸z7E (e1,e2,e3) W he⟩)
  obtain ⟨b0,B,hP⟩:=HPe.out
  have HP:=Lib.hid hP
  obtain ⟨hok,v,vs,vm,D,nn,hi⟩:=h1.i.x
  have HI:=Lib.hid hi
  have HOk:=Lib.hid hok
  have HMa:=Lib.hid (fun W (k:Ext w W)=>y0M (hi.mem.ext k) hok.mem he hl)
  have HOkM:=Lib.hid (hok.mem.add he hl)
  clear h1 hx1 hbk HPe hP hi hok hl he
  go_enter Tryz.func47,Tryz.ntmps47
  go_wp2_with fail
  refine HN.out.mono ?_
  rintro e w1 ⟨rfl,rfl⟩
  go_wp2_with fail
  refine (HP.out _).mono ?_
  rintro e w1 ⟨rfl,hb⟩
  have HB:=Lib.hid (HX1.out.trans hb)
  have p0:=q0A hb k0;have p1:=q0A hb k1;have p2:=q0A hb k2
  have c6:=(HI.out.ext HB.out).c6
  clear hb k0 k1 k2
  go_wp2_with fail
  go_still_tail 5,(by kernel_rfl)
  go_wp2_with fail
  refine (HMa.out _ HB.out.drew).mono ?_
  rintro e w2 ⟨vm2,rfl,hm,hv,hoff⟩
  have HX2:Hid (IxY w2 gx g gm gt {st with w:=q3S (e1,e2,e3) st.w} (fun i=>Y i∨vm2.ownBlock=some i)):=Lib.hid ⟨⟨HOk.out.man,HOkM.out,HOk.out.c⟩,v,vs,vm2,D,nn,(HI.out.ext HB.out.drew).memTurn hm hoff hv⟩
  have HT:=Lib.hid ((HF.out.grow HB.out.drew).turn HX2.out (hoff.mono fun i _ hi=> .inr (.inl hi)) (fun i hi=>by
    rcases hi with hi|hi
    · exact .inl hi
    · rcases hv with e|e
      · exact .inl (HI.out.inY i (.inr (.inr (e▸hi))))
      · exact .inr (e i hi)))
  have HSt:=Lib.hid (HF.out.kExt HB.out.drew)
  clear hm hv hoff
  go_wp2_with fail
  go_ret
  exact ⟨rfl,⟨_,_,_,_,HT.out.1⟩,HSt.out.trans HT.out.2⟩
end
end Go.Proofs.YtjjfiejoeelndaaGreatDoor
